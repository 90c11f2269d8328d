-- Written by a program of this session (wip/xprint.py over the kit's printer).
import Derived.Test.YtlbkoejpjpcgaaaQ0
import Derived.Test.YtlbkoejpjpcgaaaQF85
namespace Go.Proofs.Ytlbkoejpjpcgaaa.Q
open Go.RowKit Go.Proofs.YtlbkoejpjpcgaaaW.PrintWords Go.Proofs.YtlbkoejpjpcgaaaW.PrintLast
set_option linter.unusedVariables false
set_option linter.unusedSimpArgs false

/-! ### impl_order_consistent: function 94 -/
def consB (n : Nat) (M : Nat → Nat → Bool) : Bool := (List.range n).all fun i => !(M i i)
theorem consB_bad {n i : Nat} {M : Nat → Nat → Bool} (hi : i < n) (h : M i i = true) : consB n M = false := by
  unfold consB
  rw [List.all_eq_false]
  exact ⟨i, List.mem_range.2 hi, by simp [h]⟩
theorem consB_good {n : Nat} {M : Nat → Nat → Bool} (h : ∀ j, j < n → M j j = false) : consB n M = true := by
  unfold consB
  rw [List.all_eq_true]
  intro j hj
  simp [h j (List.mem_range.1 hj)]
theorem consB_at {n i : Nat} {M : Nat → Nat → Bool} (h : consB n M = true) (hi : i < n) : M i i = false := by
  have := List.all_eq_true.1 h i (List.mem_range.2 hi)
  simpa using this
/-- The numbers' slice, told. -/
theorem OrdIn.slice {w wr : World} {p N1 N2 n : Nat} {v : Value} {ns : List Int} {M1 M2 : Nat → Nat → Bool} (h : OrdIn w wr p N1 N2 n v ns M1 M2) (hl : ns.length = n) : ∃ A c, v = .slice A n c ∧ n ≤ c := by
  obtain ⟨A, c, e, hc, _⟩ := Kd.R_reads h.ns
  rw [hl] at e hc
  exact ⟨A, c, e, hc⟩
theorem nums_length (cs : List S108) : (nums cs).length = cs.length := by simp [nums]
/-- The numbers of the contexts below index i that q holds of. -/
def numsTo (cs : List S108) (q : Nat → Bool) (i : Nat) : List Int := ((List.range i).filter q).map fun j => (cs.getD j z108).f0
theorem numsTo_zero (cs : List S108) (q : Nat → Bool) : numsTo cs q 0 = [] := rfl
theorem numsTo_succ (cs : List S108) (q : Nat → Bool) (i : Nat) : numsTo cs q (i + 1) = if q i then numsTo cs q i ++ [(cs.getD i z108).f0] else numsTo cs q i := by
  unfold numsTo
  rw [List.range_succ, List.filter_append, List.map_append]
  cases h : q i <;> simp [h]
theorem numsTo_le (cs : List S108) (q : Nat → Bool) (i : Nat) : (numsTo cs q i).length ≤ i := by
  unfold numsTo
  rw [List.length_map]
  exact Nat.le_trans (List.length_filter_le _ _) (by simp)
theorem numsTo_congr (cs : List S108) {q q' : Nat → Bool} (i : Nat) (h : ∀ j, j < i → q j = q' j) : numsTo cs q i = numsTo cs q' i := by
  unfold numsTo
  rw [List.filter_congr (fun j hj => h j (List.mem_range.1 hj))]
set_option maxHeartbeats 8000000 in
set_option maxRecDepth 100000 in
theorem impl_order_consistent.calls (w0 : World) (p N1 N2 n : Nat) (A : Option Addr) (c : Nat) (ns : List Int) (M1 M2 : Nat → Nat → Bool) (w : World) (H : OrdIn w0 w p N1 N2 n (.slice A n c) ns M1 M2) (h10 : n ≤ 1000) :
    Calls Try.prog 94 #[.pointer (some ⟨p, 0, none⟩)] w fun e w' => e = .returned (.bool (consB n M2)) ∧ Below w.heap.size w w' := by
  have HO := Aside0.mk H
  clear H
  have g0 := HO.out.c0
  go_enter Try.func94, Try.ntmps94
  go_wp2
  go_loopg [3, 9] n (fun gg _ s9 wr => ∃ i : Nat, i ≤ n ∧ n - i ≤ gg ∧ s9 = .int .i64 i ∧ Aside0 (wr = w) ∧ Aside0 (∀ j, j < i → M2 j j = false))
  case atStart => exact ⟨0, Nat.zero_le _, by omega, rfl, ⟨rfl⟩, ⟨fun j hj => absurd hj (Nat.not_lt_zero _)⟩⟩
  case round =>
    obtain ⟨i, hi, hgg, rfl, HW, HA⟩ := hrel
    obtain rfl := HW.out
    by_cases hlt : i < n
    · have hltz : (i : Int) < (n : Int) := by omega
      have g1 := HO.out.c2
      have g2 := HO.out.m2.topc hlt
      have g3 := HO.out.m2.cell hlt hlt
      cases hb : M2 i i with
      | true =>
        have HB := Aside0.mk hb
        rw [hb] at g3
        clear hb
        go_wp2
        go_ret
        exact ⟨by rw [consB_bad hlt HB.out]; rfl, Below.refl _ _⟩
      | false =>
        have HB := Aside0.mk hb
        rw [hb] at g3
        clear hb
        go_wp2
        go_roundg (n - (i + 1))
        case measure => omega
        case rel => exact ⟨i + 1, by omega, by omega, by go_num, ⟨rfl⟩, ⟨fun j hj => by
          by_cases e : j = i
          · subst e; exact HB.out
          · exact HA.out j (by omega)⟩⟩
    · obtain rfl : i = n := by omega
      have hltz : ¬ ((i : Int) < (i : Int)) := by omega
      go_wp2
      go_ret
      exact ⟨by rw [consB_good HA.out]; rfl, Below.refl _ _⟩

end Go.Proofs.Ytlbkoejpjpcgaaa.Q
