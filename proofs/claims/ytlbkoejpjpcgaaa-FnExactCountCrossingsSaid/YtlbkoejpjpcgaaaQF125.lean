-- Written by a program of this session (wip/xprint.py over the kit's printer).
import Derived.Test.YtlbkoejpjpcgaaaQ0
import Derived.Test.YtlbkoejpjpcgaaaQF85
namespace Go.Proofs.Ytlbkoejpjpcgaaa.Q
open Go.RowKit Go.Proofs.YtlbkoejpjpcgaaaW.PrintWords Go.Proofs.YtlbkoejpjpcgaaaW.PrintLast
set_option linter.unusedVariables false
set_option linter.unusedSimpArgs false

/-! ### impl_order_redundant: function 125 -/
/-- There is a way from i to k over another one. -/
def redB (n : Nat) (M1 M2 : Nat → Nat → Bool) (i k : Nat) : Bool := (List.range n).any fun j => M1 i j && M2 j k
theorem redB_yes {n i j k : Nat} {M1 M2 : Nat → Nat → Bool} (hj : j < n) (h1 : M1 i j = true) (h2 : M2 j k = true) : redB n M1 M2 i k = true := by
  unfold redB
  rw [List.any_eq_true]
  exact ⟨j, List.mem_range.2 hj, by simp [h1, h2]⟩
theorem redB_no {n i k : Nat} {M1 M2 : Nat → Nat → Bool} (h : ∀ j, j < n → (M1 i j && M2 j k) = false) : redB n M1 M2 i k = false := by
  unfold redB
  rw [List.any_eq_false]
  intro j hj
  rw [h j (List.mem_range.1 hj)]
  simp
set_option maxHeartbeats 8000000 in
set_option maxRecDepth 100000 in
theorem impl_order_redundant.calls (w0 : World) (p N1 N2 n : Nat) (A : Option Addr) (c : Nat) (ns : List Int) (M1 M2 : Nat → Nat → Bool) (i k : Nat) (w : World) (H : OrdIn w0 w p N1 N2 n (.slice A n c) ns M1 M2) (h10 : n ≤ 1000) (hi : i < n) (hk : k < n) :
    Calls Try.prog 125 #[.pointer (some ⟨p, 0, none⟩), .int .i64 i, .int .i64 k] w fun e w' => e = .returned (.bool (redB n M1 M2 i k)) ∧ Below w.heap.size w w' := by
  have HO := Aside0.mk H
  clear H
  have g0 := HO.out.c0
  have hiz : (i : Int) < (n : Int) := by omega
  have hkz : (k : Int) < (n : Int) := by omega
  go_enter Try.func125, Try.ntmps125
  go_wp2
  go_loopg [7, 13] n (fun gg _ s13 wr => ∃ j : Nat, j ≤ n ∧ n - j ≤ gg ∧ s13 = .int .i64 j ∧ Aside0 (wr = w) ∧ Aside0 (∀ q, q < j → (M1 i q && M2 q k) = false))
  case atStart => exact ⟨0, Nat.zero_le _, by omega, rfl, ⟨rfl⟩, ⟨fun j hj => absurd hj (Nat.not_lt_zero _)⟩⟩
  case round =>
    obtain ⟨j, hj, hgg, rfl, HW, HA⟩ := hrel
    obtain rfl := HW.out
    by_cases hlt : j < n
    · have hltz : (j : Int) < (n : Int) := by omega
      have g1 := HO.out.c1
      have g2 := HO.out.m1.topc hi
      have g3 := HO.out.m1.cell hi hlt
      have g4 := HO.out.c2
      have g5 := HO.out.m2.topc hlt
      have g6 := HO.out.m2.cell hlt hk
      cases hb : M1 i j with
      | true =>
        rw [hb] at g3
        have HB := Aside0.mk hb
        clear hb
        cases hb2 : M2 j k with
        | true =>
          rw [hb2] at g6
          have HB2 := Aside0.mk hb2
          clear hb2
          go_wp2
          go_ret
          exact ⟨by rw [redB_yes hlt HB.out HB2.out]; rfl, Below.refl _ _⟩
        | false =>
          rw [hb2] at g6
          have HB2 := Aside0.mk hb2
          clear hb2
          go_wp2
          go_roundg (n - (j + 1))
          case measure => omega
          case rel => exact ⟨j + 1, by omega, by omega, by first | go_num | exact congrArg (Value.int .i64) (wrap_succ j (by omega)), ⟨rfl⟩, ⟨fun q hq => by
            by_cases e : q = j
            · subst e; rw [HB2.out]; simp
            · exact HA.out q (by omega)⟩⟩
      | false =>
        rw [hb] at g3
        have HB := Aside0.mk hb
        clear hb
        go_wp2
        go_roundg (n - (j + 1))
        case measure => omega
        case rel => exact ⟨j + 1, by omega, by omega, by first | go_num | exact congrArg (Value.int .i64) (wrap_succ j (by omega)), ⟨rfl⟩, ⟨fun q hq => by
          by_cases e : q = j
          · subst e; rw [HB.out]; simp
          · exact HA.out q (by omega)⟩⟩
    · obtain rfl : j = n := by omega
      have hltz : ¬ ((j : Int) < (j : Int)) := by omega
      go_wp2
      go_ret
      exact ⟨by rw [redB_no HA.out]; rfl, Below.refl _ _⟩

end Go.Proofs.Ytlbkoejpjpcgaaa.Q
