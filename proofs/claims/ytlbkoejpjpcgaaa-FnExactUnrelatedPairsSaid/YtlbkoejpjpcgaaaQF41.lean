-- Written by a program of this session (wip/xprint.py over the kit's printer).
import Derived.Test.YtlbkoejpjpcgaaaQ0
import Derived.Test.YtlbkoejpjpcgaaaQF40
import Derived.Test.YtlbkoejpjpcgaaaQF85
namespace Go.Proofs.Ytlbkoejpjpcgaaa.Q
open Go.RowKit Go.Proofs.YtlbkoejpjpcgaaaW.PrintWords Go.Proofs.YtlbkoejpjpcgaaaW.PrintLast
set_option linter.unusedVariables false
set_option linter.unusedSimpArgs false

/-! ### laws_heldIntA2S: function 41 -/
theorem mkA_getD (a : Int) (n i : Nat) (h : i < n) : (mkA a n).getD i z100 = ⟨a + 2 * i, a + 2 * i + 1⟩ := by
  simp [mkA, List.getD_eq_getElem?_getD, h]
set_option maxHeartbeats 8000000 in
set_option maxRecDepth 100000 in
theorem laws_heldIntA2S.calls (A0 : Option Addr) (c0 n : Nat) (a1 : Int) (w : World) (hr0 : Kd.C k100 w A0 n (mkA a1 n)) (hl : n ≤ 1000000) (ha : 0 ≤ a1 ∧ a1 ≤ 1000000) :
    Calls Try.prog 41 #[.slice A0 n c0, .int .i64 a1] w fun e w' => e = .returned (.int .i64 (a1 + 2 * n)) ∧ Below w.heap.size w w' := by
  have HR := Aside0.mk hr0
  have HL := Aside0.mk hl
  have HA := Aside0.mk ha
  have HB := Aside0.mk (Below.refl w.heap.size w)
  clear hr0 hl ha
  go_enter Try.func41, Try.ntmps41
  go_wp2
  go_loopg [1, 5, 6] n (fun gg s1 s5 _ wr => ∃ i : Nat, i ≤ n ∧ n - i ≤ gg ∧ s1 = .int .i64 (a1 + 2 * i) ∧ s5 = .int .i64 i ∧ Aside0 (Below w.heap.size w wr))
  case atStart => exact ⟨0, Nat.zero_le _, by omega, by simp, rfl, HB⟩
  case round =>
    clear HB
    obtain ⟨i, hi, hgg, rfl, rfl, HB⟩ := hrel
    by_cases hil : i < n
    · have hilz : (i : Int) < (n : Int) := by omega
      have hi0 : (0 : Int) ≤ (i : Int) := by omega
      obtain ⟨ad, e1, hx0, hx1⟩ := at_T100 HR.out (i : Int) hi0 hilz
      cases e1
      have e3 : rd_T100 (mkA a1 n) (i : Int) = ⟨a1 + 2 * i, a1 + 2 * i + 1⟩ := by rw [← mkA_getD a1 n i hil]; simp [rd_T100]
      rw [e3] at hx0 hx1
      simp only [Int.toNat_natCast] at hx0 hx1
      have HX0 := Aside0.mk ((HB.out.cell (World.block_lt_of_cell? w _ hx0)).trans hx0)
      have HX1 := Aside0.mk ((HB.out.cell (World.block_lt_of_cell? w _ hx1)).trans hx1)
      clear e3 hx0 hx1
      obtain ⟨wq, rfl⟩ : ∃ x, x = wr := ⟨_, rfl⟩
      go_upto_region 5 with (fail)
      go_loopg [1, 6] 2 (fun gg s1 s6 wr => ∃ j : Nat, j ≤ 2 ∧ 2 - j ≤ gg ∧ s1 = .int .i64 (a1 + 2 * i + j) ∧ s6 = .int .i64 j ∧ Aside0 (wr = wq))
      case atStart => exact ⟨0, by omega, by omega, by simp, rfl, ⟨rfl⟩⟩
      case round =>
        obtain ⟨j, hj, hgg2, rfl, rfl, HW⟩ := hrel
        obtain rfl := HW.out
        have hway : j = 0 ∨ j = 1 ∨ j = 2 := by omega
        rcases hway with rfl | rfl | rfl
        · have hx0 := HX0.out
          have hw1 : wrap64 (a1 + 2 * (i : Int) + 1) = a1 + 2 * (i : Int) + 1 := by have h1 := HL.out; have h2 := HA.out; unfold wrap64; omega
          have hne : ((a1 + 2 * (i : Int)) != (a1 + 2 * (i : Int))) = false := bne_self_eq_false _
          go_wp2
          try rw [hw1]
          clear hw1
          go_roundg (2 - 1)
          case measure => omega
          case rel => exact ⟨1, by omega, by omega, by first | rfl | (congr 1; omega), by first | rfl | go_num, ⟨rfl⟩⟩
        · have hx1 := HX1.out
          have hw1 : wrap64 (a1 + 2 * (i : Int) + 1 + 1) = a1 + 2 * (i : Int) + 1 + 1 := by have h1 := HL.out; have h2 := HA.out; unfold wrap64; omega
          have hne : ((a1 + 2 * (i : Int) + 1) != (a1 + 2 * (i : Int) + 1)) = false := bne_self_eq_false _
          go_wp2
          try rw [hw1]
          clear hw1
          go_roundg (2 - 2)
          case measure => omega
          case rel => exact ⟨2, by omega, by omega, by first | rfl | (congr 1; omega), by first | rfl | go_num, ⟨rfl⟩⟩
        · go_wp2
          go_roundg (n - (i + 1))
          case measure => omega
          case rel => exact ⟨i + 1, by omega, by omega, by first | (congr 1; omega) | skip, by first | go_num | exact congrArg (Value.int .i64) (wrap_succ i (by have := HL.out; omega)), HB⟩
    · obtain rfl : i = n := by omega
      have hkz : ¬ ((i : Int) < (i : Int)) := by omega
      go_wp2
      go_ret
      exact ⟨rfl, HB.out⟩

end Go.Proofs.Ytlbkoejpjpcgaaa.Q
