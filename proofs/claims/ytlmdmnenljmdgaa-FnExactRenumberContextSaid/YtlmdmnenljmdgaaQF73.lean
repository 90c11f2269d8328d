-- Written by a program of this session (wip/xprint.py over the kit's printer).
import Derived.Test.YtlmdmnenljmdgaaQ0
import Derived.Test.YtlmdmnenljmdgaaQP
import Derived.Shelf.SlSortCmp.NoneTotal
import Derived.Test.YtlmdmnenljmdgaaShelf
namespace Go.Proofs.Ytlmdmnenljmdgaa.Q
open Go.RowKit Go.Proofs.YtlmdmnenljmdgaaW.PrintWords Go.Proofs.YtlmdmnenljmdgaaW.PrintLast
set_option linter.unusedVariables false
set_option linter.unusedSimpArgs false

/-! ### impl_Context_73: function 73 -/
def encL44 (x : S44) : List Value := [.int .i64 x.f0, .int .i64 x.f1]
theorem impl_Context_73.flat (d : Array S44) [Inhabited S44] (j : Nat) (h : j < d.size) : ((Go.Sort.flatK encL44 2 d).toList.drop (j * 2)).take 2 = encL44 d[j]! := by
  apply List.ext_getElem?
  intro t
  rw [List.getElem?_take]
  by_cases ht : t < 2
  · rw [if_pos ht, List.getElem?_drop, Array.getElem?_toList, Array.getElem?_eq_getElem (by rw [Go.Sort.size_flatK]; omega)]
    have h1 := Go.Sort.get_flatK encL44 2 d (j * 2 + t) (by omega)
    rw [getElem!_pos (Go.Sort.flatK encL44 2 d) (j * 2 + t) (by rw [Go.Sort.size_flatK]; omega), show (j * 2 + t) / 2 = j by omega, show (j * 2 + t) % 2 = t by omega] at h1
    rw [h1]
    obtain rfl | rfl : t = 0 ∨ t = 1 := by omega
    · rfl
    · rfl
  · rw [if_neg ht]
    have : (encL44 d[j]!).length = 2 := rfl
    rw [List.getElem?_eq_none (by omega)]
/-- The row that slices.SortFunc has rewritten. -/
theorem impl_Context_73.row [Inhabited S44] {w : World} {base : Nat} {ok : Nat → Prop} {g n cap : Nat} {xs : List S44} (HO : Kd.R k44 44 w base ok (.slice (some ⟨g, 0, none⟩) n cap) xs) (d' : Array S44) (hs : d'.size = n) (m : Nat) (os : Array Obj) :
    Kd.R k44 44 (Go.Proofs.sortWorldK encL44 2 w g 0 m d' os) base ok (.slice (some ⟨g, 0, none⟩) n cap) d'.toList ∧ w.grownBy (Go.Proofs.sortWorldK encL44 2 w g 0 m d' os) (some g) := by
  obtain ⟨hok, inner, ho, hr⟩ := HO
  obtain ⟨ho1, ho2⟩ := ho
  rcases ho2 with ⟨hv, _⟩ | ⟨g', cap', cur, hv, hb, hh, hnc, hcm, hcs, ht⟩
  · cases hv
  injection hv with ha hn hc
  injection ha with ha
  injection ha with hg
  subst hg; subst hc
  have hlt := blk_lt hh
  have hheap : (Go.Proofs.sortWorldK encL44 2 w g 0 m d' os).heap[g]? = some (.cells (Go.Sort.putCells id 0 (Go.Sort.flatK encL44 2 d') cur) 44 (0, 0)) := by
    show ((w.heap.modify g (Go.Sort.onCells (Go.Sort.putCells id 0 (Go.Sort.flatK encL44 2 d')))) ++ os)[g]? = _
    rw [Array.getElem?_append, if_pos (by rw [Array.size_modify]; exact hlt), Array.getElem?_modify, if_pos rfl, hh]
    rfl
  refine ⟨⟨hok, (Go.Sort.flatK encL44 2 d').toList, ⟨by rw [Array.length_toList, Go.Sort.size_flatK, Array.length_toList]; rfl, .inr ⟨g, cap, _, by rw [Array.length_toList, hs], hb, hheap, by rw [Array.length_toList, hs, hn]; exact hnc, hcm, by simp [Go.Sort.putCells, hcs], ?_⟩⟩, ?_⟩, rfl, rfl, rfl, ?_, fun k hk hne => ?_⟩
  · have hfit : d'.size * 2 ≤ cur.size := by
      rw [hcs]
      show d'.size * 2 ≤ cap * 2
      omega
    apply List.ext_getElem?
    intro t
    rw [List.getElem?_take]
    rw [Array.length_toList]
    by_cases h2 : t < d'.size * 2
    · rw [if_pos (show t < d'.size * (k44).sz from h2), Array.getElem?_toList, Array.getElem?_toList, Array.getElem?_eq_getElem (by simp [Go.Sort.putCells]; omega), Array.getElem?_eq_getElem (by rw [Go.Sort.size_flatK]; exact h2)]
      simp only [Go.Sort.putCells, Array.getElem_mapIdx]
      rw [if_pos (by rw [Go.Sort.size_flatK]; omega), Nat.sub_zero, getElem!_pos (Go.Sort.flatK encL44 2 d') t (by rw [Go.Sort.size_flatK]; exact h2)]
      rfl
    · rw [if_neg (show ¬ t < d'.size * (k44).sz from h2), Array.getElem?_toList, Array.getElem?_eq_none (by rw [Go.Sort.size_flatK]; omega)]
  · refine ⟨by rw [Array.length_toList, Go.Sort.size_flatK, Array.length_toList]; rfl, fun j p hj => ?_⟩
    rw [Array.getElem?_toList] at hj
    obtain ⟨hj1, hj2⟩ := Array.getElem?_eq_some_iff.1 hj
    have h3 := impl_Context_73.flat d' j hj1
    rw [getElem!_pos d' j hj1, hj2] at h3
    show (k44).M _ _ _ p (((Go.Sort.flatK encL44 2 d').toList.drop (j * 2)).take 2)
    rw [h3]
    exact k44_mkM _ _ _ p
  · show w.heap.size ≤ ((w.heap.modify g _) ++ os).size
    rw [Array.size_append, Array.size_modify]
    omega
  · show ((w.heap.modify g _) ++ os)[k]? = _
    rw [Array.getElem?_append, if_pos (by rw [Array.size_modify]; exact hk), Array.getElem?_modify, if_neg (fun e => hne (by rw [e]))]
theorem impl_Context_73.holds [Inhabited S44] {w : World} {base : Nat} {ok : Nat → Prop} {g n cap : Nat} {xs : List S44} (HO : Kd.R k44 44 w base ok (.slice (some ⟨g, 0, none⟩) n cap) xs) : Go.Sort.HoldsK encL44 2 w g 0 xs.toArray := by
  have hn := (Kd.R_reads' HO).1
  intro t ht
  rw [Go.Sort.size_flatK, List.size_toArray] at ht
  obtain ⟨cs, hcl, hM, hcc, hcf⟩ := Kd.R_elem HO z44 ((t / 2 : Nat) : Int) (by omega) (by omega)
  obtain rfl := k44_openM hM
  simp only [Int.toNat_natCast] at hcc hcf
  have e : t / 2 * (k44).sz + t % 2 = 0 + t := by show t / 2 * 2 + t % 2 = 0 + t; omega
  have h1 := hcf (t % 2)
  rw [e] at h1
  refine ⟨?_, h1⟩
  have h2 := hcc (t % 2)
  rw [e] at h2
  rw [id, Go.Sort.get_flatK encL44 2 _ t (by rw [List.size_toArray]; exact ht), getElem!_pos xs.toArray (t / 2) (by rw [List.size_toArray]; omega), List.getElem_toArray]
  have hx : xs.getD (t / 2) z44 = xs[t / 2]'(by omega) := by rw [List.getD_eq_getElem?_getD, List.getElem?_eq_getElem (by omega)]; rfl
  rw [hx] at h2
  apply h2
  obtain h | h : t % 2 = 0 ∨ t % 2 = 1 := by omega
  · rw [h]; rfl
  · rw [h]; rfl
theorem impl_Context_73.calls (gf : Nat) (eg : ∀ args w, (callFunc gf args).run Try.prog w = .ok (.enter gf args) w) (cf : S44 → S44 → Int) (hO : Go.Sort.SWO (Go.Proofs.ltOf cf))
    (hcl : ∀ (x y : S44) (W : World), Calls Try.prog gf #[.agg #[.int .i64 x.f0, .int .i64 x.f1], .agg #[.int .i64 y.f0, .int .i64 y.f1]] W fun e w' => e = .returned (.int .i64 (cf x y)) ∧ ∃ q os', w' = Go.Sort.grow (W.drewN q) os')
    (v : Value) (xs : List S44) (base : Nat) (ok : Nat → Prop) (w : World) (HO : Kd.R k44 44 w base ok v xs) (h9 : xs.length ≤ 1000000) :
    Calls Try.prog 73 #[v, .func (.func gf) #[] #[]] w fun en w' => en = .returned (.tuple #[]) ∧ ∃ ys : List S44, Kd.R k44 44 w' base ok v ys ∧ ys.Perm xs ∧ ys.Pairwise (fun a b => Go.Proofs.ltOf cf b a = false) ∧ w.grownBy w' v.ownBlock := by
  haveI : Inhabited S44 := ⟨z44⟩
  by_cases h0 : xs = []
  · subst h0
    obtain ⟨A, c, rfl, _, _⟩ := Kd.R_reads HO
    have hc := Go.Proofs.AnyF.slices_SortFunc_none Try.sortC A c (.func (.func gf) #[] #[]) w
    change Calls Try.prog 73 _ _ _ at hc
    exact hc.mono fun e w' ⟨he, hw⟩ => ⟨he, [], by rw [hw]; exact HO, List.Perm.refl _, List.Pairwise.nil, by rw [hw]; exact grown_refl _ _⟩
  · have hpos : 0 < xs.length := List.length_pos_iff.2 h0
    obtain ⟨g, cap, rfl, hcap, hbase, hlt, hokg⟩ := R_form HO hpos
    have hc := Go.Proofs.AnyQ.slices_SortFunc Try.sortC 2 Try.isAgg44 Try.sizeOf44 encL44 (fun _ => rfl) (fun x v hv => by simp [encL44] at hv; rcases hv with rfl | rfl <;> rfl) cf hO gf #[] g 0 cap xs.toArray w eg (fun _ _ _ _ x y => hcl x y _) (impl_Context_73.holds HO) hlt (by rw [List.size_toArray]; omega)
    change Calls Try.prog 73 #[.slice (some ⟨g, 0, none⟩) xs.length cap, _] _ _ at hc
    refine hc.mono ?_
    rintro e w' ⟨rfl, d', n, os, ⟨hsz, _, hpm⟩, hs, rfl⟩
    have hsz' : d'.size = xs.length := by simpa using hsz
    obtain ⟨h1, h2⟩ := impl_Context_73.row HO d' hsz' n os
    have e1 : d'.extract 0 xs.toArray.size = d' := by rw [← hsz]; exact Array.extract_size
    have e2 : xs.toArray.extract 0 xs.toArray.size = xs.toArray := Array.extract_size
    rw [e1, e2] at hpm
    refine ⟨rfl, d'.toList, h1, by simpa using hpm, ?_, h2⟩
    rw [List.pairwise_iff_getElem]
    intro i j hi hj hij
    have hj' : j < d'.size := by simpa using hj
    have h3 := hs i j (Nat.zero_le _) hij (by rw [← hsz]; exact hj')
    rw [getElem!_pos d' j hj', getElem!_pos d' i (by omega)] at h3
    simpa using h3

end Go.Proofs.Ytlmdmnenljmdgaa.Q
