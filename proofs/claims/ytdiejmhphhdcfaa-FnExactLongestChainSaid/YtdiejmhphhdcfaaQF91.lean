-- Written by a program of this session (wip/xprint.py over the kit's printer).
import Derived.Test.YtdiejmhphhdcfaaQ0
namespace Go.Proofs.Ytdiejmhphhdcfaa.Q
open Go.RowKit Go.Proofs.YtdiejmhphhdcfaaW.PrintWords Go.Proofs.YtdiejmhphhdcfaaW.PrintLast
set_option linter.unusedVariables false
set_option linter.unusedSimpArgs false

/-! ### slices_Max_int_int: function 91 -/
def maxTo (l : List Int) : Nat → Int
  | 0 => l.getD 0 0
  | k + 1 => mx (maxTo l k) (l.getD (k + 1) 0)
def slices_Max_int_int.f (l0 : List Int) : Option Int := if 0 < l0.length ∧ l0.length ≤ 1048576 then some (maxTo l0 (l0.length - 1)) else none
set_option maxHeartbeats 8000000 in
set_option maxRecDepth 100000 in
theorem slices_Max_int_int.calls (A0 : Option Addr) (c0 : Nat) (l0 : List Int) (r : Int) (w : World) (hr0 : Kd.C (Kd.int .i64) w A0 l0.length l0) (hc0 : l0.length ≤ c0) (h : slices_Max_int_int.f l0 = some r) :
    Calls Try.prog 91 #[.slice A0 l0.length c0] w fun e w' => e = .returned (.int .i64 r) ∧ Below w.heap.size w w' := by
  unfold slices_Max_int_int.f at h
  by_cases hl : 0 < l0.length ∧ l0.length ≤ 1048576
  · rw [if_pos hl] at h
    obtain rfl := Option.some.inj h
    clear h
    have HM := Aside0.mk hr0
    have HL := Aside0.mk hl.2
    have hpos := hl.1
    clear hr0 hl
    obtain ⟨n, hn⟩ : ∃ n, l0.length = n := ⟨_, rfl⟩
    rw [hn] at HM HL hc0 hpos ⊢
    clear hn
    obtain ⟨ad, e1, hx0⟩ := Kd.at_int HM.out (0 : Int) (by omega) (by omega)
    cases e1
    obtain ⟨x0, hxx0⟩ : ∃ x, l0.getD 0 0 = x := ⟨_, rfl⟩
    replace hx0 : w.cell? ad = some (.int .i64 x0) := by rw [← hxx0]; have e : ad.add (0 : Int).toNat = ad := (by cases ad; rfl); rw [e] at hx0; exact hx0
    have HX0 := Aside0.mk hxx0
    clear hxx0
    have h1 : ¬ (n : Int) < 1 := by omega
    have h2 : (0 : Int) < (n : Int) := by omega
    go_enter Try.func91, Try.ntmps91
    go_wp2
    clear hx0 h1
    go_loopg [3, 4] n (fun gg s3 s4 wr => ∃ j : Nat, 1 ≤ j ∧ j ≤ n ∧ n - j ≤ gg ∧ s3 = .int .i64 (maxTo l0 (j - 1)) ∧ s4 = .int .i64 (j : Int) ∧ Aside0 (wr = w))
    case atStart => exact ⟨1, Nat.le_refl _, by omega, by omega, by rw [← HX0.out]; rfl, rfl, ⟨rfl⟩⟩
    case round =>
      obtain ⟨j, hj1, hj, hg, rfl, rfl, HW⟩ := hrel
      obtain rfl := HW.out
      have Hmx := Aside0.mk (show maxTo l0 j = mx (maxTo l0 (j - 1)) (l0.getD j 0) from by
        obtain ⟨q, rfl⟩ : ∃ q, j = q + 1 := ⟨j - 1, by omega⟩
        rfl)
      obtain ⟨m, hm⟩ : ∃ m, maxTo l0 (j - 1) = m := ⟨_, rfl⟩
      rw [hm] at Hmx ⊢
      have HMM := Aside0.mk hm
      clear hm
      by_cases hlt : j < n
      · have hltz : (j : Int) < (n : Int) := by omega
        obtain ⟨ad2, e1, hx⟩ := Kd.at_int HM.out (j : Int) (by omega) hltz
        cases e1
        rw [show rd l0 (j : Int) = l0.getD j 0 from by simp [rd], Int.toNat_natCast] at hx
        obtain ⟨x, hxx⟩ : ∃ x, l0.getD j 0 = x := ⟨_, rfl⟩
        rw [hxx] at hx Hmx
        clear hxx
        by_cases hmx : m < x
        · have HMY := Aside0.mk (Hmx.out.trans (if_pos hmx))
          go_wp2
          go_roundg (n - (j + 1))
          case measure => omega
          case rel =>
            have hn2 := HL.out
            exact ⟨j + 1, by omega, by omega, by omega, by rw [Nat.add_sub_cancel, HMY.out], by first | go_num | (exact congrArg (Value.int .i64) (by unfold wrap64; omega)), ⟨rfl⟩⟩
        · have HMY := Aside0.mk (Hmx.out.trans (if_neg hmx))
          go_wp2
          go_roundg (n - (j + 1))
          case measure => omega
          case rel =>
            have hn2 := HL.out
            exact ⟨j + 1, by omega, by omega, by omega, by rw [Nat.add_sub_cancel, HMY.out], by first | go_num | (exact congrArg (Value.int .i64) (by unfold wrap64; omega)), ⟨rfl⟩⟩
      · have hltz : ¬ (j : Int) < (n : Int) := by omega
        obtain rfl : j = n := by omega
        go_wp2
        go_ret
        exact ⟨by rw [HMM.out]; rfl, Below.refl _ _⟩
  · rw [if_neg hl] at h
    exact absurd h (by simp)

end Go.Proofs.Ytdiejmhphhdcfaa.Q
