-- Written by a program of this session (wip/xprint.py over the kit's printer).
import Derived.Test.YtenphfagdpkjaaaQ0
import Derived.Test.YtenphfagdpkjaaaQP
namespace Go.Proofs.Ytenphfagdpkjaaa.Q
open Go.RowKit Go.Proofs.YtenphfagdpkjaaaW.PrintWords Go.Proofs.YtenphfagdpkjaaaW.PrintLast
set_option linter.unusedVariables false
set_option linter.unusedSimpArgs false

/-! ### slices_Contains_int_int: function 90 -/
theorem has_idx (n : Int) (l : List Int) : decide (0 ≤ idxI (fun y => n == y) l) = l.contains n := by
  induction l with
  | nil => rfl
  | cons x r ih =>
    have hr := idxI_range (fun y => n == y) r
    rw [List.contains_cons, ← ih, idxI]
    cases hp : (n == x) with
    | true => simp
    | false =>
      simp only [Bool.false_eq_true, if_false, Bool.false_or]
      split
      · rename_i h; rw [h]
      · exact decide_eq_decide.2 ⟨fun h => by omega, fun h => by omega⟩
theorem rd_get (l : List Int) (k : Nat) : l.getD k 0 = rd l (k : Int) := by simp [rd]
set_option maxHeartbeats 2000000 in
set_option maxRecDepth 100000 in
theorem slices_Contains_int_int.index (A0 : Option Addr) (c0 : Nat) (l0 : List Int) (a1 : Int) (w : World) (hr0 : Kd.C (Kd.int .i64) w A0 l0.length l0) (hc0 : l0.length ≤ c0) :
    Calls Try.prog 104 #[.slice A0 l0.length c0, .int .i64 a1] w fun e w' => e = .returned (.int .i64 (idxI (fun y => a1 == y) l0)) ∧ Below w.heap.size w w' := by
  have hl : l0.length ≤ 9223372036854775807 := hr0.2.1
  have HM := Aside0.mk hr0
  have HL := Aside0.mk hl
  clear hr0 hl
  obtain ⟨n, hn⟩ : ∃ n, l0.length = n := ⟨_, rfl⟩
  rw [hn] at HM HL hc0 ⊢
  have HNL := Aside0.mk hn
  clear hn
  go_enter Try.func104, Try.ntmps104
  go_wp2
  go_loopg [5, 8] n (fun gg _ s8 wr => ∃ kk : Nat, kk ≤ n ∧ n - kk ≤ gg ∧ s8 = .int .i64 kk ∧ Aside0 (wr = w) ∧ Aside0 (∀ j, j < kk → (a1 == l0.getD j 0) = false))
  case atStart => exact ⟨0, Nat.zero_le _, by omega, rfl, ⟨rfl⟩, ⟨fun j hj => absurd hj (Nat.not_lt_zero _)⟩⟩
  case round =>
    obtain ⟨kk, hkk, hg, rfl, HW, HA⟩ := hrel
    obtain rfl := HW.out
    by_cases hlt : kk < n
    · have hltz : (kk : Int) < (n : Int) := by omega
      obtain ⟨ad, e1, hx⟩ := Kd.at_int HM.out (kk : Int) (by omega) hltz
      cases e1
      rw [← rd_get l0 kk, Int.toNat_natCast] at hx
      have HQ : ∃ x, l0.getD kk 0 = x := ⟨_, rfl⟩
      obtain ⟨x, hxx⟩ := HQ
      rw [hxx] at hx
      by_cases hq : a1 = x
      · subst hq
        have HX := Aside0.mk hxx
        clear hxx
        go_wp2
        go_ret
        exact ⟨by rw [idxI_hit (fun y => a1 == y) 0 l0 kk (by rw [HNL.out]; exact hlt) (by rw [HX.out]; exact beq_self_eq_true _) HA.out]; rfl, Below.refl _ _⟩
      · have hq1 : (a1 == x) = false := beq_eq_false_iff_ne.2 hq
        have HX := Aside0.mk hxx
        have HQ1 := Aside0.mk hq1
        clear hxx
        go_wp2
        go_roundg (n - (kk + 1))
        case measure => omega
        case rel =>
          have hn2 := HL.out
          exact ⟨kk + 1, by omega, by omega, by first | go_num | (exact congrArg (Value.int .i64) (by unfold wrap64; omega)), ⟨rfl⟩, ⟨fun j hj => by
            by_cases e : j = kk
            · subst e; rw [HX.out]; exact HQ1.out
            · exact HA.out j (by omega)⟩⟩
    · have hltz : ¬ (kk : Int) < (n : Int) := by omega
      obtain rfl : kk = n := by omega
      go_wp2
      go_ret
      exact ⟨by rw [idxI_miss (fun y => a1 == y) 0 l0 (by rw [HNL.out]; exact HA.out)]; rfl, Below.refl _ _⟩
set_option maxHeartbeats 2000000 in
set_option maxRecDepth 100000 in
theorem slices_Contains_int_int.calls (A0 : Option Addr) (c0 : Nat) (l0 : List Int) (a1 : Int) (w : World) (hr0 : Kd.C (Kd.int .i64) w A0 l0.length l0) (hc0 : l0.length ≤ c0) :
    Calls Try.prog 90 #[.slice A0 l0.length c0, .int .i64 a1] w fun e w' => e = .returned (.bool (l0.contains a1)) ∧ Below w.heap.size w w' := by
  have HR0 := Aside0.mk hr0
  obtain ⟨ix, hix⟩ : ∃ x, idxI (fun y => a1 == y) l0 = x := ⟨_, rfl⟩
  have HI := Aside0.mk (fun (W : World) (hC : Kd.C (Kd.int .i64) W A0 l0.length l0) => show Calls Try.prog 104 #[.slice A0 l0.length c0, .int .i64 a1] W (fun e w' => e = .returned (.int .i64 ix) ∧ Below W.heap.size W w') from by have h := slices_Contains_int_int.index A0 c0 l0 a1 W hC hc0; rw [hix] at h; exact h)
  have hd := has_idx a1 l0
  rw [hix] at hd
  obtain ⟨b, hb⟩ : ∃ b, l0.contains a1 = b := ⟨_, rfl⟩
  rw [hb] at hd ⊢
  clear hr0 hix hb
  go_enter Try.func90, Try.ntmps90
  go_wp2_with (go_at_call 104; refine (HI.out _ (Kd.C_below HR0.out (by repeat (first | exact Below.refl _ _ | apply below_alloc | apply pw_below_drewN | apply below_drew1)))).mono ?_; rintro e w1 ⟨rfl, hb1⟩; have HB := Aside0.mk (below_chain (w := w) (by repeat (first | exact Below.refl _ _ | apply below_alloc | apply pw_below_drewN | apply below_drew1)) hb1); clear hb1)
  go_ret
  exact ⟨by rw [← hd]; rfl, by repeat (first | exact HB.out | exact Below.refl _ _ | apply below_alloc | apply pw_below_drewN | apply below_drew1)⟩

end Go.Proofs.Ytenphfagdpkjaaa.Q
