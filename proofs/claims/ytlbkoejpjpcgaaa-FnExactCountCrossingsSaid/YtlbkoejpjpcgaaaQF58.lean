-- Written by a program of this session (wip/xprint.py over the kit's printer).
import Derived.Test.YtlbkoejpjpcgaaaQ0
import Derived.Test.YtlbkoejpjpcgaaaQP
namespace Go.Proofs.Ytlbkoejpjpcgaaa.Q
open Go.RowKit Go.Proofs.YtlbkoejpjpcgaaaW.PrintWords Go.Proofs.YtlbkoejpjpcgaaaW.PrintLast
set_option linter.unusedVariables false
set_option linter.unusedSimpArgs false

/-! ### slices_Index_int_int: function 58 -/
def slices_Index_int_int.f (l0 : List Int) (a1 : Int) : Option Int := if l0.length ≤ 1048576 then some (idxI (fun y => a1 == y) l0) else none
theorem slices_Index_int_int.at (l : List Int) (k : Nat) : l.getD k 0 = rd l (k : Int) := by simp [rd]
set_option maxHeartbeats 8000000 in
set_option maxRecDepth 100000 in
theorem slices_Index_int_int.calls (A0 : Option Addr) (c0 : Nat) (l0 : List Int) (a1 : Int) (r : Int) (w : World) (hr0 : Kd.C (Kd.int .i64) w A0 l0.length l0) (hc0 : l0.length ≤ c0) (h : slices_Index_int_int.f l0 a1 = some r) :
    Calls Try.prog 58 #[.slice A0 l0.length c0, .int .i64 a1] w fun e w' => e = .returned (.int .i64 r) ∧ Below w.heap.size w w' := by
  unfold slices_Index_int_int.f at h
  by_cases hl : l0.length ≤ 1048576
  · rw [if_pos hl] at h
    obtain rfl := Option.some.inj h
    clear h
    have HM := Aside0.mk hr0
    have HL := Aside0.mk hl
    clear hr0 hl
    obtain ⟨n, hn⟩ : ∃ n, l0.length = n := ⟨_, rfl⟩
    rw [hn] at HM HL hc0 ⊢
    have HNL := Aside0.mk hn
    clear hn
    go_enter Try.func58, Try.ntmps58
    go_wp2
    go_loopg [5, 8] n (fun gg _ s8 wr => ∃ kk : Nat, kk ≤ n ∧ n - kk ≤ gg ∧ s8 = .int .i64 kk ∧ Aside0 (wr = w) ∧ Aside0 (∀ j, j < kk → (a1 == l0.getD j 0) = false))
    case atStart => exact ⟨0, Nat.zero_le _, by omega, rfl, ⟨rfl⟩, ⟨fun j hj => absurd hj (Nat.not_lt_zero _)⟩⟩
    case round =>
      obtain ⟨kk, hkk, hg, rfl, HW, HA⟩ := hrel
      obtain rfl := HW.out
      by_cases hlt : kk < n
      · have hltz : (kk : Int) < (n : Int) := by omega
        obtain ⟨ad, e1, hx⟩ := Kd.at_int HM.out (kk : Int) (by omega) hltz
        cases e1
        rw [← slices_Index_int_int.at l0 kk, Int.toNat_natCast] at hx
        have HQ : ∃ x, l0.getD kk 0 = x := ⟨_, rfl⟩
        obtain ⟨x, hxx⟩ := HQ
        rw [hxx] at hx
        by_cases hq : a1 = x
        · subst hq
          have HX := Aside0.mk hxx
          clear hxx
          go_wp2
          go_ret
          exact ⟨by rw [idxI_hit (fun y => a1 == y) 0 l0 kk (by rw [HNL.out]; exact hlt) (by rw [HX.out]; exact beq_self_eq_true _) HA.out]; rfl, Below.refl _ _⟩
        · have hq1 : (a1 == x) = false := beq_eq_false_iff_ne.2 hq
          have HX := Aside0.mk hxx
          have HQ1 := Aside0.mk hq1
          clear hxx
          go_wp2
          go_roundg (n - (kk + 1))
          case measure => omega
          case rel =>
            have hn2 := HL.out
            exact ⟨kk + 1, by omega, by omega, by first | go_num | (exact congrArg (Value.int .i64) (by unfold wrap64; omega)), ⟨rfl⟩, ⟨fun j hj => by
              by_cases e : j = kk
              · subst e; rw [HX.out]; exact HQ1.out
              · exact HA.out j (by omega)⟩⟩
      · have hltz : ¬ (kk : Int) < (n : Int) := by omega
        obtain rfl : kk = n := by omega
        go_wp2
        go_ret
        exact ⟨by rw [idxI_miss (fun y => a1 == y) 0 l0 (by rw [HNL.out]; exact HA.out)]; rfl, Below.refl _ _⟩
  · rw [if_neg hl] at h
    exact absurd h (by simp)

end Go.Proofs.Ytlbkoejpjpcgaaa.Q
