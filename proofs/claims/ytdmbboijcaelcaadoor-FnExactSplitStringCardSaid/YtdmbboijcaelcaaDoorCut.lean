/- strings.Split off the shelf: what it answers as a row that is read; the library's length bound. -/
import Derived.Test.YtdmbboijcaelcaaDoorShelfE
import Derived.Test.YtdmbboijcaelcaaDoorFmt
import Derived.Test.YtdmbboijcaelcaaDoorSpl
namespace Go.Proofs.YtdmbboijcaelcaaDoor.Q
open Go.RowKit Go.Proofs.YtdmbboijcaelcaaDoorW.PrintWords Go.Proofs.YtdmbboijcaelcaaDoorW.PrintLast
set_option linter.unusedVariables false
set_option linter.unusedSimpArgs false
/-- The library's bound on lengths holds some number. -/
def MX (w : World) : Prop := ∃ m, w.cell? ⟨Tryd.laysSplit_ren.g 1, 0, none⟩ = some (.int .i64 m)
theorem MX.below {w w' : World} (h : MX w) (hb : Below w.heap.size w w') : MX w' := by
  obtain ⟨m, hm⟩ := h
  exact ⟨m, (hb.cell (World.block_lt_of_cell? w _ hm)).trans hm⟩
theorem mx_of {w : World} (h : w.ShapedOpen Tryd.prog) : MX w := Tryd.laysSplit.s1_3 w h
/-- The pieces. -/
def cutB (s sep : ByteArray) : List ByteArray := Lib.splitB sep 0 (Lib.countB s sep) s
theorem cutB_length (s sep : ByteArray) (h1 : 1 ≤ sep.size) : (cutB s sep).length = Lib.countB s sep + 1 := Lib.splitB_all sep h1 0 _ s rfl
theorem cutB_le (s sep : ByteArray) (h1 : 1 ≤ sep.size) : (cutB s sep).length ≤ s.size + 1 := by
  rw [cutB_length s sep h1]
  have := Lib.countB_le sep h1 s.size s (Nat.le_refl _)
  omega
theorem row_new (w : World) (xs : List ByteArray) (e : TypeId) (hl : xs.length ≤ 9223372036854775807) : Kd.R Kd.string e (w.alloc (.cells (xs.map Value.string).toArray e)) w.heap.size (fun _ => True) (.slice (some ⟨w.heap.size, 0, none⟩) xs.length xs.length) xs := by
  have he : encs Value.string xs = xs.map Value.string := rfl
  refine Kd.R_of_own ⟨?_, .inr ⟨w.heap.size, xs.length, _, rfl, Nat.le_refl _, blk_new w _, Nat.le_refl _, hl, by simp, ?_⟩⟩ (fun _ _ => trivial)
  · rw [he, List.length_map, Nat.mul_one]
  · rw [he, Nat.mul_one, List.take_of_length_le (by simp)]
theorem split_calls (s sep : ByteArray) (w : World) (h1 : 1 ≤ sep.size) (hs : s.size ≤ 1048576) (hm : MX w) :
    Calls Tryd.prog 56 #[.string s, .string sep] w fun e w' => ∃ A, e = .returned (.slice A (cutB s sep).length (cutB s sep).length) ∧ Kd.R Kd.string 9 w' w.heap.size (fun _ => True) (.slice A (cutB s sep).length (cutB s sep).length) (cutB s sep) ∧ Below w.heap.size w w' := by
  obtain ⟨m, hm⟩ := hm
  refine (Any.strings_Split { Tryd.laysSplit with } Tryd.laysSplit.i9 s sep m w (by omega) hm h1).mono fun e w' ⟨he, hw⟩ => ?_
  have hl := cutB_length s sep h1
  have hle := cutB_le s sep h1
  refine ⟨some ⟨w.heap.size, 0, none⟩, by rw [hl]; exact he, ?_, ?_⟩
  · rw [hw]
    exact row_new w (cutB s sep) 9 (by omega)
  · rw [hw]
    exact below_alloc (Below.refl _ _) _
end Go.Proofs.YtdmbboijcaelcaaDoor.Q
