-- Written by a program of this session (wip/xprint.py over the kit's printer).
import Derived.Test.YtlbkoejpjpcgaaaQ0
import Derived.Shelf.Sort.Plain
import Derived.Sort.OwnSortedInts
import Derived.Test.YtlbkoejpjpcgaaaShelf
namespace Go.Proofs.Ytlbkoejpjpcgaaa.Q
open Go.RowKit Go.Proofs.YtlbkoejpjpcgaaaW.PrintWords Go.Proofs.YtlbkoejpjpcgaaaW.PrintLast
set_option linter.unusedVariables false
set_option linter.unusedSimpArgs false

/-! ### slices_Sort_int_int: function 108 -/
def srt (xs : List Int) : List Int := xs.mergeSort fun x y => decide (x ≤ y)
theorem srt_length (xs : List Int) : (srt xs).length = xs.length := List.length_mergeSort _
theorem reps_ints {w : World} {base : Nat} {ok : Nat → Prop} {xs : List Int} {cs : List Value} : Reps ((Kd.int .i64).M w base ok) 1 xs cs ↔ cs = xs.map (Value.int .i64) := by
  constructor
  · rintro ⟨hl, h⟩
    apply List.ext_getElem?
    intro j
    by_cases hj : j < xs.length
    · have h1 : (cs.drop (j * 1)).take 1 = [Value.int .i64 xs[j]] := h j xs[j] (List.getElem?_eq_getElem hj)
      rw [Nat.mul_one] at h1
      rw [List.getElem?_map, List.getElem?_eq_getElem hj]
      have h2 : ((cs.drop j).take 1)[0]? = some (Value.int .i64 xs[j]) := by rw [h1]; rfl
      rw [List.getElem?_take_of_lt (by decide), List.getElem?_drop, Nat.add_zero] at h2
      exact h2
    · rw [List.getElem?_eq_none (by omega), List.getElem?_eq_none (by simp; omega)]
  · rintro rfl
    refine ⟨by simp, fun j p hj => ?_⟩
    obtain ⟨hj1, rfl⟩ := List.getElem?_eq_some_iff.1 hj
    show ((xs.map (Value.int .i64)).drop (j * 1)).take 1 = [Value.int .i64 xs[j]]
    rw [Nat.mul_one, List.drop_eq_getElem_cons (by simpa using hj1)]
    simp
theorem slices_Sort_int_int.calls (e : Nat) (v : Value) (xs : List Int) (base : Nat) (ok : Nat → Prop) (w : World) (HO : Kd.R (Kd.int .i64) e w base ok v xs) (hpos : 0 < xs.length) (h9 : xs.length ≤ 4000000000) :
    Calls Try.prog 108 #[v] w fun en w' => en = .returned (.tuple #[]) ∧ Kd.R (Kd.int .i64) e w' base ok v (srt xs) ∧ w.grownBy w' v.ownBlock := by
  obtain ⟨hok, inner, ho, hr⟩ := HO
  obtain rfl := reps_ints.1 hr
  obtain ⟨ho1, ho2⟩ := ho
  rcases ho2 with ⟨_, h0⟩ | ⟨g, cap, cur, rfl, hb, hh, hnc, hcm, hcs, ht⟩
  · omega
  rw [show xs.length * (Kd.int .i64).sz = xs.length from Nat.mul_one _] at ht
  have hlt := blk_lt hh
  have hc := Go.Proofs.Any.slices_Sort_int Try.laysSort g 0 cap xs w (holds_of_blockI hh ht) hlt (by omega)
  change Calls Try.prog 108 #[.slice (some ⟨g, 0, none⟩) xs.length cap] _ _ at hc
  refine hc.mono ?_
  rintro en w' ⟨rfl, n, os, rfl⟩
  have hl := srt_length xs
  have hs := ownsRow_sortedI (n := n) (os := os) (ss := xs) (ts := srt xs) hl hb hh hnc hcm hcs
  refine ⟨rfl, ⟨hok, _, ?_, reps_ints.2 rfl⟩, grownBy_sortedI _⟩
  rw [← hl] at hs
  rw [← hl]
  exact hs
theorem slices_Sort_int_int.ins_nil (p : Option Addr) (cap : Nat) (w : World) :
    Calls Try.prog 135 #[.slice p 0 cap, .int .i64 0, .int .i64 0] w fun e w' => e = .returned (.tuple #[]) ∧ w' = w := by
  go_enter Try.func135, Try.ntmps135
  go_wp2
  refine wp_loop_rounds 1 ?_
  rw [rounds_succ]
  go_wp2
  go_end0
  exact ⟨rfl, rfl⟩
set_option maxRecDepth 100000 in
theorem slices_Sort_int_int.pdq_nil (p : Option Addr) (cap : Nat) (w : World) :
    Calls Try.prog 128 #[.slice p 0 cap, .int .i64 0, .int .i64 0, .int .i64 0] w fun e w' => e = .returned (.tuple #[]) ∧ w' = w := by
  go_enter Try.func128, Try.ntmps128
  go_wp2
  refine wp_loop_rounds 1 ?_
  rw [rounds_succ]
  go_wp2_with (first | (go_at_call 135; refine (slices_Sort_int_int.ins_nil p cap _).mono ?_; rintro e w' ⟨rfl, rfl⟩))
  refine bodyPost_ret (results_none rfl _ _ _) rfl ?_
  exact ⟨rfl, rfl⟩
set_option maxRecDepth 100000 in
theorem slices_Sort_int_int.len64_nil (w : World) :
    Calls Try.prog 145 #[.int .u64 0] w fun e w' => e = .returned (.int .i64 0) ∧ w' = w := by
  go_enter Try.func145, Try.ntmps145
  go_wp2
  have h0 : wrap64 (wrap64 (Lib.len8 0)) = 0 := by kernel_rfl
  try rw [h0]
  go_ret
  exact ⟨rfl, rfl⟩
set_option maxRecDepth 100000 in
theorem slices_Sort_int_int.len_nil (w : World) :
    Calls Try.prog 129 #[.int .u64 0] w fun e w' => e = .returned (.int .i64 0) ∧ w' = w := by
  go_enter Try.func129, Try.ntmps129
  go_wp2_with (first | (go_at_call 145; refine (slices_Sort_int_int.len64_nil _).mono ?_; rintro e w' ⟨rfl, rfl⟩))
  go_ret
  exact ⟨rfl, rfl⟩
set_option maxRecDepth 100000 in
/-- Of no element: nothing is read or written. -/
theorem slices_Sort_int_int.nil (p : Option Addr) (cap : Nat) (w : World) :
    Calls Try.prog 108 #[.slice p 0 cap] w fun e w' => e = .returned (.tuple #[]) ∧ w' = w := by
  go_enter Try.func108, Try.ntmps108
  go_wp2_with (first
    | (go_at_call 129; refine (slices_Sort_int_int.len_nil _).mono ?_; rintro e w' ⟨rfl, rfl⟩)
    | (go_at_call 128; refine (slices_Sort_int_int.pdq_nil p cap _).mono ?_; rintro e w' ⟨rfl, rfl⟩))
  go_end0
  exact ⟨rfl, rfl⟩

end Go.Proofs.Ytlbkoejpjpcgaaa.Q
