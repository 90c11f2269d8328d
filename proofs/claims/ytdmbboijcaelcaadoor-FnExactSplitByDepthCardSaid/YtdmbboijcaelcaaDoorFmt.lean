import Derived.Test.YtdmbboijcaelcaaDoorShelf
import Derived.Test.YtdmbboijcaelcaaDoorQP
import Derived.Test.YtdmbboijcaelcaaDoorQF14
import Derived.Test.YtdmbboijcaelcaaDoorQF52
import Derived.Test.YtdmbboijcaelcaaDoorQV0
import Derived.Test.YtdmbboijcaelcaaDoorQV1
import Derived.Lib.LaidTab
import Derived.WalkSmall
import Derived.Lib.AppendIntMem
namespace Go.Proofs.YtdmbboijcaelcaaDoor.Q
open Go.RowKit Go.Proofs.YtdmbboijcaelcaaDoorW.PrintWords Go.Proofs.YtdmbboijcaelcaaDoorW.PrintLast
set_option linter.unusedVariables false
set_option linter.unusedSimpArgs false
/-- The library's table of powers lies as its text lays it. -/
def LW (w : World) : Prop := Lib.TabIs Tryd.prog w "internal/strconv.uint64pow10" .u64 Lib.pow10Tab
theorem pow10_global : ∃ g, Tryd.prog.globalNamed "internal/strconv.uint64pow10" = some g := by
  cases h : Tryd.prog.globalNamed "internal/strconv.uint64pow10" with
  | some g => exact ⟨g, rfl⟩
  | none => exact absurd (show (Tryd.prog.globalNamed "internal/strconv.uint64pow10").isSome = true from by kernel_rfl) (by rw [h]; simp)
theorem LW.below {w w' : World} (h : LW w) (hb : Below w.heap.size w w') : LW w' := by
  obtain ⟨g, hg⟩ := pow10_global
  have hc := Lib.TabIs.cell h hg 0 (by decide)
  exact var?_below hb hg (World.block_lt_of_cell? w _ hc) h
def fmtI (n : Int) : ByteArray × Bool := if -999999 ≤ n ∧ n ≤ 999999 then (⟨(Lib.itoa n).toArray⟩, true) else (⟨#[]⟩, false)
theorem within_eq (a lo hi : Int) : impl_within.f a lo hi = some (decide (lo ≤ a) && decide (a ≤ hi)) := by
  unfold impl_within.f
  by_cases h : a ≥ lo
  · rw [if_pos h, decide_eq_true h, Bool.true_and]
  · rw [if_neg h, decide_eq_false h, Bool.false_and]
theorem l1In_eq (a lo hi : Int) : spec_l1In.f a lo hi = some (decide (lo ≤ a) && decide (a ≤ hi)) := by
  unfold spec_l1In.f
  by_cases h : a ≥ lo
  · rw [if_pos h, decide_eq_true h, Bool.true_and]
  · rw [if_neg h, decide_eq_false h, Bool.false_and]
theorem itoa_calls (n : Int) (h0 : -9223372036854775808 ≤ n) (h1 : n ≤ 9223372036854775807) (w : World) (hl : LW w) :
    Calls Tryd.prog 54 #[.int .i64 n] w fun e w' => e = .returned (.string ⟨(Lib.itoa n).toArray⟩) ∧ Below w.heap.size w w' :=
  (Any.strconv_Itoa Tryd.laysItoa n h0 h1 w hl).mono fun e w' ⟨he, k, os, hw⟩ => ⟨he, hw ▸ Lib.below_grow _ _ (Nat.le_refl _) _ _⟩
set_option maxHeartbeats 8000000 in
set_option maxRecDepth 100000 in
theorem format_calls (n : Int) (w : World) (hl : LW w) :
    Calls Tryd.prog 15 #[.int .i64 n] w fun e w' => e = .returned (.tuple #[.string (fmtI n).1, .bool (fmtI n).2]) ∧ Below w.heap.size w w' := by
  obtain ⟨b, hb⟩ : ∃ b, (decide (-999999 ≤ n) && decide (n ≤ 999999)) = b := ⟨_, rfl⟩
  have A1 := Aside0.mk ((within_eq n (-999999) 999999).trans (congrArg some hb))
  have HL := Aside0.mk hl
  clear hl
  cases b with
  | false =>
    have HF := Aside0.mk (show fmtI n = (⟨#[]⟩, false) from if_neg (fun h => by rw [decide_eq_true h.1, decide_eq_true h.2] at hb; cases hb))
    clear hb
    go_enter Tryd.func15, Tryd.ntmps15
    go_wp2_with (go_at_call 53; (with_reducible refine (impl_within.calls n (-999999) 999999 _ _ A1.out).mono ?_); rintro e w1 ⟨rfl, ⟨nd, rfl⟩⟩)
    go_ret2
    exact ⟨by rw [HF.out]; rfl, by repeat (first | exact Below.refl _ _ | apply below_alloc | apply pw_below_drewN | apply below_drew1)⟩
  | true =>
    have hh : -999999 ≤ n ∧ n ≤ 999999 := by simpa using hb
    have HF := Aside0.mk (show fmtI n = (⟨(Lib.itoa n).toArray⟩, true) from if_pos hh)
    have HN := Aside0.mk hh
    clear hb hh
    go_enter Tryd.func15, Tryd.ntmps15
    go_wp2_with (first | (go_at_call 53; (with_reducible refine (impl_within.calls n (-999999) 999999 _ _ A1.out).mono ?_); rintro e w1 ⟨rfl, ⟨nd, rfl⟩⟩) | (go_at_call 54; (refine (itoa_calls n (by have := HN.out; omega) (by have := HN.out; omega) _ (LW.below HL.out (by repeat (first | exact Below.refl _ _ | apply below_alloc | apply pw_below_drewN | apply below_drew1)))).mono ?_); rintro e w2 ⟨rfl, hb⟩))
    go_ret2
    exact ⟨by rw [HF.out]; rfl, below_chain (by repeat (first | exact Below.refl _ _ | apply below_alloc | apply pw_below_drewN | apply below_drew1)) hb⟩
set_option maxHeartbeats 8000000 in
set_option maxRecDepth 100000 in
theorem law_calls (n : Int) (k : Nat) (hk : spec_FormatInt.f k n = some (fmtI n)) (w : World) (hl : LW w) :
    Calls Tryd.prog 3 #[.int .i64 n] w fun e w' => e = .returned (.bool true) ∧ Below w.heap.size w w' := by
  obtain ⟨s, b, hsb⟩ : ∃ s b, fmtI n = (s, b) := ⟨_, _, rfl⟩
  rw [hsb] at hk
  have HK := Aside0.mk hk
  have HL := Aside0.mk hl
  have HF := Aside0.mk (fun (W : World) (h : LW W) => show Calls Tryd.prog 15 #[.int .i64 n] W (fun e w' => e = .returned (.tuple #[.string s, .bool b]) ∧ Below W.heap.size W w') from by have h2 := format_calls n W h; rw [hsb] at h2; exact h2)
  have hne : (b != b) = false := bne_self_eq_false b
  clear hk hl hsb
  go_enter Tryd.func3, Tryd.ntmps3
  go_wp2_with (first | (go_at_call 14; (refine (spec_FormatInt.calls k n s b _ HK.out).mono ?_); rintro e w1 ⟨rfl, hb⟩; have HB := Aside0.mk (below_chain (w := w) (by repeat (first | exact Below.refl _ _ | apply below_alloc | apply pw_below_drewN | apply below_drew1)) hb); clear hb) | (go_at_call 15; (refine (HF.out _ (LW.below HL.out (by repeat (first | exact HB.out | exact Below.refl _ _ | apply below_alloc | apply pw_below_drewN | apply below_drew1)))).mono ?_); rintro e w2 ⟨rfl, hb⟩; have HB := Aside0.mk (below_chain (w := w) (by repeat (first | exact HB.out | exact Below.refl _ _ | apply below_alloc | apply pw_below_drewN | apply below_drew1)) hb); clear hb))
  go_ret
  exact ⟨rfl, by repeat (first | exact HB.out | exact Below.refl _ _ | apply below_alloc | apply pw_below_drewN | apply below_drew1)⟩
end Go.Proofs.YtdmbboijcaelcaaDoor.Q
