-- Written by a program of this session (wip/xprint.py over the kit's printer).
import Derived.Test.YtlbkoejpjpcgaaaQ0
namespace Go.Proofs.Ytlbkoejpjpcgaaa.Q
open Go.RowKit Go.Proofs.YtlbkoejpjpcgaaaW.PrintWords Go.Proofs.YtlbkoejpjpcgaaaW.PrintLast
set_option linter.unusedVariables false
set_option linter.unusedSimpArgs false

/-! ### impl_square: function 122 -/
/-- A matrix in blocks of its own: the rows' slices in block N, row j in block N + 1 + j. -/
structure Mat (w : World) (N n : Nat) (M : Nat → Nat → Bool) : Prop where
  top : w.rowIs N 114 n (fun j => .slice (some ⟨N + 1 + j, 0, none⟩) n n)
  row : ∀ j, j < n → w.rowIs (N + 1 + j) 4 n (fun k => .bool (M j k))
/-- While the rows are made. -/
structure Sq (w wr : World) (n r : Nat) : Prop where
  below : Below w.heap.size w wr
  size : wr.heap.size = w.heap.size + 1 + r
  top : wr.rowIs w.heap.size 114 n (fun j => if j < r then .slice (some ⟨w.heap.size + 1 + j, 0, none⟩) n n else .slice none 0 0)
  row : ∀ j, j < r → wr.rowIs (w.heap.size + 1 + j) 4 n (fun _ => .bool false)
theorem Sq.start (w : World) (n : Nat) : Sq w (w.alloc (.cells (madeCells #[.slice none 0 0] n) 114)) n 0 :=
  ⟨below_alloc (Below.refl _ _) _, by simp, (World.rowIs_made w _ n 114).congr (fun j _ => by simp), fun j hj => absurd hj (Nat.not_lt_zero _)⟩
theorem Sq.step {w wr : World} {n r : Nat} (h : Sq w wr n r) : Sq w ((wr.alloc (.cells (madeCells #[.bool false] n) 4)).setCell ⟨w.heap.size, r, none⟩ (.slice (some ⟨w.heap.size + 1 + r, 0, none⟩) n n)) n (r + 1) := by
  have hnew := World.rowIs_made wr (.bool false) n 4
  rw [h.size] at hnew
  refine ⟨below_set (below_alloc h.below _) (Nat.le_refl _), by simp [h.size]; omega, ((h.top.alloc _).set r _).congr (fun j _ => ?_), fun j hj => ?_⟩
  · by_cases e : j = r
    · subst e; simp
    · rw [if_neg e]
      by_cases hlt : j < r
      · rw [if_pos hlt, if_pos (by omega)]
      · rw [if_neg hlt, if_neg (by omega)]
  · by_cases e : j = r
    · subst e; exact hnew.setOther (by show w.heap.size + 1 + j ≠ w.heap.size; omega) _
    · exact ((h.row j (by omega)).alloc _).setOther (by show w.heap.size + 1 + j ≠ w.heap.size; omega) _
theorem Sq.done {w wr : World} {n : Nat} (h : Sq w wr n n) : Mat wr w.heap.size n (fun _ _ => false) :=
  ⟨h.top.congr (fun j hj => by rw [if_pos hj]), h.row⟩
set_option maxHeartbeats 8000000 in
set_option maxRecDepth 100000 in
theorem impl_square.calls (n : Nat) (w : World) (hn : n ≤ 1000) :
    Calls Try.prog 122 #[.int .i64 n] w fun e w' => ∃ N, e = .returned (.slice (some ⟨N, 0, none⟩) n n) ∧ N = w.heap.size ∧ Mat w' N n (fun _ _ => false) ∧ w'.heap.size = N + 1 + n ∧ Below w.heap.size w w' := by
  have hmk1 := run_make_row' (P := Try.prog) 111 114 (.slice none 0 0) 24 Try.underlying111 info114 rfl .i64 .i64 n (by omega) (by omega)
  go_enter Try.func122, Try.ntmps122
  go_wp2
  clear hmk1
  go_loopg [9] n (fun g i wr => ∃ r : Nat, r ≤ n ∧ g = n - r ∧ i = .int .i64 r ∧ Aside0 (Sq w wr n r))
  case atStart => exact ⟨0, Nat.zero_le _, rfl, rfl, ⟨Sq.start w n⟩⟩
  case round =>
    obtain ⟨r, hr, rfl, rfl, HO⟩ := hrel
    by_cases hlt : r < n
    · have hltz : (r : Int) < (n : Int) := by omega
      have hsize := HO.out.size
      have hmk2 := run_make_row' (P := Try.prog) 114 4 (.bool false) 1 Try.underlying114 info4 rfl .i64 .i64 n (by omega) (by omega)
      have hst1 : ∀ o, (wr.alloc o).cell? ⟨w.heap.size, r, none⟩ = some (.slice none 0 0) := fun o => by have := (HO.out.top.alloc o).cell hlt; simpa using this
      have hst2 : ∀ o, (wr.alloc o).frozen? ⟨w.heap.size, r, none⟩ = false := fun o => (HO.out.top.alloc o).frozen r
      have hI := Aside0.mk (Sq.step HO.out)
      go_wp2
      clear hmk2 hst1 hst2
      go_roundg (n - (r + 1))
      case measure => omega
      case rel => exact ⟨r + 1, by omega, rfl, by go_num, by first | exact hI | (rw [hsize]; exact hI)⟩
    · have hltz : ¬ (r : Int) < (n : Int) := by omega
      obtain rfl : r = n := by omega
      go_wp2
      go_ret
      exact ⟨_, rfl, rfl, Sq.done HO.out, HO.out.size, HO.out.below⟩

end Go.Proofs.Ytlbkoejpjpcgaaa.Q
