-- Written by a program of this session (wip/xprint.py over the kit's printer).
import Derived.Test.YtenphfagdpkjaaaQ0
import Derived.Shelf.Sort.Plain
import Derived.Sort.OwnSortedInts
import Derived.Test.YtenphfagdpkjaaaShelf
namespace Go.Proofs.Ytenphfagdpkjaaa.Q
open Go.RowKit Go.Proofs.YtenphfagdpkjaaaW.PrintWords Go.Proofs.YtenphfagdpkjaaaW.PrintLast
set_option linter.unusedVariables false
set_option linter.unusedSimpArgs false

/-! ### slices_Sort_int_int: function 73 -/
def srt (xs : List Int) : List Int := xs.mergeSort fun x y => decide (x ≤ y)
theorem srt_length (xs : List Int) : (srt xs).length = xs.length := List.length_mergeSort _
theorem reps_ints {w : World} {base : Nat} {ok : Nat → Prop} {xs : List Int} {cs : List Value} : Reps ((Kd.int .i64).M w base ok) 1 xs cs ↔ cs = xs.map (Value.int .i64) := by
  constructor
  · rintro ⟨hl, h⟩
    apply List.ext_getElem?
    intro j
    by_cases hj : j < xs.length
    · have h1 : (cs.drop (j * 1)).take 1 = [Value.int .i64 xs[j]] := h j xs[j] (List.getElem?_eq_getElem hj)
      rw [Nat.mul_one] at h1
      rw [List.getElem?_map, List.getElem?_eq_getElem hj]
      have h2 : ((cs.drop j).take 1)[0]? = some (Value.int .i64 xs[j]) := by rw [h1]; rfl
      rw [List.getElem?_take_of_lt (by decide), List.getElem?_drop, Nat.add_zero] at h2
      exact h2
    · rw [List.getElem?_eq_none (by omega), List.getElem?_eq_none (by simp; omega)]
  · rintro rfl
    refine ⟨by simp, fun j p hj => ?_⟩
    obtain ⟨hj1, rfl⟩ := List.getElem?_eq_some_iff.1 hj
    show ((xs.map (Value.int .i64)).drop (j * 1)).take 1 = [Value.int .i64 xs[j]]
    rw [Nat.mul_one, List.drop_eq_getElem_cons (by simpa using hj1)]
    simp
theorem slices_Sort_int_int.calls (e : Nat) (v : Value) (xs : List Int) (base : Nat) (ok : Nat → Prop) (w : World) (HO : Kd.R (Kd.int .i64) e w base ok v xs) (hpos : 0 < xs.length) (h9 : xs.length ≤ 1000000) :
    Calls Try.prog 73 #[v] w fun en w' => en = .returned (.tuple #[]) ∧ Kd.R (Kd.int .i64) e w' base ok v (srt xs) ∧ w.grownBy w' v.ownBlock := by
  obtain ⟨hok, inner, ho, hr⟩ := HO
  obtain rfl := reps_ints.1 hr
  obtain ⟨ho1, ho2⟩ := ho
  rcases ho2 with ⟨_, h0⟩ | ⟨g, cap, cur, rfl, hb, hh, hnc, hcm, hcs, ht⟩
  · omega
  rw [show xs.length * (Kd.int .i64).sz = xs.length from Nat.mul_one _] at ht
  have hlt := blk_lt hh
  have hc := Go.Proofs.Any.slices_Sort_int Try.laysSort g 0 cap xs w (holds_of_blockI hh ht) hlt (by omega)
  change Calls Try.prog 73 #[.slice (some ⟨g, 0, none⟩) xs.length cap] _ _ at hc
  refine hc.mono ?_
  rintro en w' ⟨rfl, n, os, rfl⟩
  have hl := srt_length xs
  have hs := ownsRow_sortedI (n := n) (os := os) (ss := xs) (ts := srt xs) hl hb hh hnc hcm hcs
  refine ⟨rfl, ⟨hok, _, ?_, reps_ints.2 rfl⟩, grownBy_sortedI _⟩
  rw [← hl] at hs
  rw [← hl]
  exact hs

end Go.Proofs.Ytenphfagdpkjaaa.Q
