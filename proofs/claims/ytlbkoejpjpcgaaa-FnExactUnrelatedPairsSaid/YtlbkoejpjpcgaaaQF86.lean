-- Written by a program of this session (wip/xprint.py over the kit's printer).
import Derived.Test.YtlbkoejpjpcgaaaQ0
namespace Go.Proofs.Ytlbkoejpjpcgaaa.Q
open Go.RowKit Go.Proofs.YtlbkoejpjpcgaaaW.PrintWords Go.Proofs.YtlbkoejpjpcgaaaW.PrintLast
set_option linter.unusedVariables false
set_option linter.unusedSimpArgs false

/-! ### laws_eqIntA2: function 86 -/
set_option maxHeartbeats 8000000 in
set_option maxRecDepth 100000 in
theorem laws_eqIntA2.calls (a b : Int) (w : World) :
    Calls Try.prog 86 #[.agg #[.int .i64 a, .int .i64 b], .agg #[.int .i64 a, .int .i64 b]] w fun e w' => e = .returned (.bool true) ∧ Below w.heap.size w w' := by
  obtain ⟨wb, hwb⟩ : ∃ wb, (w.alloc (.cells #[.int .i64 a, .int .i64 b] 109 (0, 0))).alloc (.cells #[.int .i64 a, .int .i64 b] 109 (0, 0)) = wb := ⟨_, rfl⟩
  have H0 := Aside0.mk (show wb.heap[w.heap.size]? = some (.cells #[.int .i64 a, .int .i64 b] 109 (0, 0)) from by rw [← hwb]; exact blk_alloc (blk_new w _) _)
  have H1 := Aside0.mk (show wb.heap[w.heap.size + 1]? = some (.cells #[.int .i64 a, .int .i64 b] 109 (0, 0)) from by rw [← hwb]; have h := blk_new (w.alloc (.cells #[.int .i64 a, .int .i64 b] 109 (0, 0))) (.cells #[.int .i64 a, .int .i64 b] 109 (0, 0)); rw [show (w.alloc (.cells #[.int .i64 a, .int .i64 b] 109 (0, 0))).heap.size = w.heap.size + 1 from by simp] at h; exact h)
  have HB := Aside0.mk (show Below w.heap.size w wb from by rw [← hwb]; repeat (first | exact Below.refl _ _ | apply below_alloc))
  have HW := Aside0.mk hwb
  have hab : (a != a) = false := bne_self_eq_false a
  have hbb : (b != b) = false := bne_self_eq_false b
  clear hwb
  go_enter Try.func86, Try.ntmps86
  go_upto_region 1 with (fail)
  try rw [HW.out]
  clear HW
  go_wp2
  go_loopg [5] 2 (fun gg s5 wr => ∃ i : Nat, i ≤ 2 ∧ 2 - i ≤ gg ∧ s5 = .int .i64 i ∧ Aside0 (Below w.heap.size w wr) ∧ Aside0 (wr.heap[w.heap.size]? = some (.cells #[.int .i64 a, .int .i64 b] 109 (0, 0))) ∧ Aside0 (wr.heap[w.heap.size + 1]? = some (.cells #[.int .i64 a, .int .i64 b] 109 (0, 0))))
  case atStart => exact ⟨0, by omega, by omega, rfl, HB, H0, H1⟩
  case round =>
    clear HB H0 H1
    obtain ⟨i, hi, hgg, rfl, HB, H0, H1⟩ := hrel
    have hway : i = 0 ∨ i = 1 ∨ i = 2 := by omega
    rcases hway with rfl | rfl | rfl
    · have x0 : wr.cell? ⟨w.heap.size, 0, none⟩ = some (.int .i64 a) := (blk_cell H0.out 0).trans rfl
      have x1 : wr.cell? ⟨w.heap.size + 1, 0, none⟩ = some (.int .i64 a) := (blk_cell H1.out 0).trans rfl
      go_wp2
      repeat (go_quiet (fail); try go_wp2)
      go_roundg (2 - (0 + 1))
      case measure => omega
      case rel => exact ⟨1, by omega, by omega, by first | rfl | go_num, ⟨pw_below_drewN HB.out _⟩, ⟨blk_drewN H0.out _⟩, ⟨blk_drewN H1.out _⟩⟩
    · have x0 : wr.cell? ⟨w.heap.size, 1, none⟩ = some (.int .i64 b) := (blk_cell H0.out 1).trans rfl
      have x1 : wr.cell? ⟨w.heap.size + 1, 1, none⟩ = some (.int .i64 b) := (blk_cell H1.out 1).trans rfl
      go_wp2
      repeat (go_quiet (fail); try go_wp2)
      go_roundg (2 - (1 + 1))
      case measure => omega
      case rel => exact ⟨2, by omega, by omega, by first | rfl | go_num, ⟨pw_below_drewN HB.out _⟩, ⟨blk_drewN H0.out _⟩, ⟨blk_drewN H1.out _⟩⟩
    · go_wp2
      go_ret
      exact ⟨rfl, HB.out⟩

end Go.Proofs.Ytlbkoejpjpcgaaa.Q
