-- Written by a program of this session (wip/xprint.py over the kit's printer).
import Derived.Test.YtlmdmnenljmdgaaQ0
import Derived.Test.YtlmdmnenljmdgaaQF19
import Derived.Test.YtlmdmnenljmdgaaQF36
import Derived.Test.YtlmdmnenljmdgaaQF49
import Derived.Test.YtlmdmnenljmdgaaQF51
import Derived.Test.YtlmdmnenljmdgaaQF54
import Derived.Test.YtlmdmnenljmdgaaQF56
import Derived.Test.YtlmdmnenljmdgaaQF57
import Derived.Test.YtlmdmnenljmdgaaQP
import Derived.Test.YtlmdmnenljmdgaaQV0
namespace Go.Proofs.Ytlmdmnenljmdgaa.Q
open Go.RowKit Go.Proofs.YtlmdmnenljmdgaaW.PrintWords Go.Proofs.YtlmdmnenljmdgaaW.PrintLast
set_option linter.unusedVariables false
set_option linter.unusedSimpArgs false

/-! ### impl_RenumberContext: function 23 -/
theorem ctx_at {W : World} {base g n c : Nat} {ok : Nat → Prop} {xs : List S44} (HR : Kd.R k44 44 W base ok (.slice (some ⟨g, 0, none⟩) n c) xs) (i : Nat) (hi : i < n) (a2 : Int) :
    W.cell? ⟨g, i * 2, none⟩ = some (.int .i64 (xs.getD i z44).f0) ∧ W.frozen? ⟨g, i * 2, none⟩ = false ∧ Kd.R k44 44 (W.setCell ⟨g, i * 2, none⟩ (.int .i64 a2)) base ok (.slice (some ⟨g, 0, none⟩) n c) (xs.set i ⟨a2, (xs.getD i z44).f1⟩) ∧ W.grownBy (W.setCell ⟨g, i * 2, none⟩ (.int .i64 a2)) (some g) := by
  have h0 : (0 : Int) ≤ (i : Int) := by omega
  have h1 : (i : Int) < (n : Int) := by omega
  obtain ⟨cs, hcl, hM, hcc, hcf⟩ := Kd.R_elem HR z44 (i : Int) h0 h1
  have hcl2 : cs.length = 2 := hcl
  obtain ⟨y, hy⟩ : ∃ y, xs.getD i z44 = y := ⟨_, rfl⟩
  rw [Int.toNat_natCast, hy] at hM
  obtain rfl := k44_openM hM
  have hx : W.cell? ⟨g, i * 2, none⟩ = some (.int .i64 y.f0) := by have := hcc 0 _ rfl; simpa only [Int.toNat_natCast, show (k44).sz = 2 from rfl, Nat.add_zero] using this
  have hfz : W.frozen? ⟨g, i * 2, none⟩ = false := by have := hcf 0; simpa only [Int.toNat_natCast, show (k44).sz = 2 from rfl, Nat.add_zero] using this
  obtain ⟨hR3, hG3⟩ := Kd.R_seg HR (i : Int) h0 h1 hcl hcc (seg := [.int .i64 a2]) (j := 0) (by simp [hcl2, ← hcl]) (x' := (⟨a2, y.f1⟩ : S44)) (okp := fun _ => False) (k44_mkM _ _ _ (⟨a2, y.f1⟩ : S44)) (fun _ h => h.elim)
  rw [show W.setCells g ((i : Int).toNat * (k44).sz + 0) [.int .i64 a2] = W.setCell ⟨g, i * 2, none⟩ (.int .i64 a2) from by simp [World.setCells, show (k44).sz = 2 from rfl]] at hR3 hG3
  rw [Int.toNat_natCast] at hR3
  rw [hy]
  exact ⟨hx, hfz, hR3, hG3⟩
theorem find_get (cs : List S44) (a : Int) (i : Nat) (h : find cs a = (i : Int)) : i < cs.length ∧ (cs.getD i z44).f0 = a := by
  obtain ⟨k, hk, e, hp, _⟩ := idxI_found (fun c : S44 => c.f0 == a) z44 cs (by show find cs a ≠ -1; omega)
  have e2 : find cs a = (k : Int) := e
  obtain rfl : k = i := by omega
  exact ⟨hk, by simpa using hp⟩
theorem find_not (cs : List S44) (a : Int) (h : ¬ 0 ≤ find cs a) : ∀ x ∈ cs, x.f0 ≠ a := by
  intro x hx
  have h2 := idxI_range (fun c : S44 => c.f0 == a) cs
  have h3 : find cs a = -1 := by have : find cs a = idxI (fun c : S44 => c.f0 == a) cs := rfl; omega
  simpa using idxI_all (fun c : S44 => c.f0 == a) z44 cs h3 x hx
theorem nodup_of_lt {cs : List S44} (h : cs.Pairwise fun a b => a.f0 < b.f0) : (cs.map (·.f0)).Nodup := by
  rw [List.Nodup, List.pairwise_map]
  exact h.imp fun h => by omega
/-- Sorted by number, the numbers apart: the sorted list itself. -/
theorem tidyC_uniq {cs cs' : List S44} (hn : (cs.map (·.f0)).Nodup) (hp : cs'.Perm cs) (hs : cs'.Pairwise fun a b => Go.Proofs.ltOf cfC b a = false) : cs' = tidyC cs := by
  have hs2 : cs'.Pairwise fun a b => a.f0 ≤ b.f0 := hs.imp fun h => by rw [ltC] at h; simp at h; omega
  have hn2 : ((tidyC cs).map (·.f0)).Nodup := (((tidyC_perm cs).map _).nodup_iff).2 hn
  rw [List.Nodup, List.pairwise_map] at hn2
  exact sort_same (hp.trans (tidyC_perm cs).symm) hs2 (((tidyC_sorted cs).and hn2).imp fun h => by have := h.1; have := h.2; omega)
theorem set_nodup {cs : List S44} (h : (cs.map (·.f0)).Nodup) (i : Nat) (y : S44) (hy : ∀ j, (hj : j < cs.length) → j ≠ i → cs[j].f0 ≠ y.f0) : ((cs.set i y).map (·.f0)).Nodup := by
  rw [List.Nodup, List.pairwise_map, List.pairwise_iff_getElem] at h ⊢
  intro a b ha hb hab
  rw [List.length_set] at ha hb
  rw [List.getElem_set, List.getElem_set]
  have h0 := h a b ha hb hab
  split
  · rename_i e
    rw [if_neg (by omega)]
    exact fun e2 => hy b hb (by omega) e2.symm
  · rename_i e
    split
    · rename_i e3
      exact hy a ha (by omega)
    · exact h0
def renOk (cs : List S44) (rs : List S36) (old num : Int) : Bool := (goodB cs rs && decide (0 ≤ find cs old)) && ((decide (1 ≤ num) && decide (num ≤ 999)) && (num == old || decide (find cs num < 0)))
def impl_RenumberContext.f (l0_0 : List S44) (l0_1 : List S36) (a1 a2 : Int) : Option (List S44 × List S36 × Bool) := some (if renOk l0_0 l0_1 a1 a2 then (tidyC (l0_0.set (find l0_0 a1).toNat ⟨a2, (l0_0.getD (find l0_0 a1).toNat z44).f1⟩), tidyR (l0_1.map (ren a1 a2)), true) else ([], [], false))
def impl_RenumberContext.T4 : Bool × List (List Nat × List Nat) := (true, [([], []), ([0], [0]), ([], []), ([], []), ([2, 3], [2, 3]), ([], []), ([1, 4, 0, 1, 2, 3, 4, 5], [1, 4]), ([6, 0, 1, 2, 3, 4, 5], [6]), ([7, 5, 4, 0, 1, 2, 3, 4, 5], [5, 7])])
def impl_RenumberContext.B4 : List Nat := [0, 1, 0, 0, 12, 0, 63, 127, 255]
theorem impl_RenumberContext.tab4 : rtab .any (opsOf Try.f23 4) = impl_RenumberContext.T4 := by kernel_rfl
theorem impl_RenumberContext.bits4 : waitsOk impl_RenumberContext.T4.2 impl_RenumberContext.B4 = true := by kernel_rfl
set_option maxHeartbeats 16000000 in
set_option maxRecDepth 100000 in
theorem impl_RenumberContext.calls (A0_0 : Option Addr) (c0_0 : Nat) (l0_0 : List S44) (A0_1 : Option Addr) (c0_1 : Nat) (l0_1 : List S36) (a1 a2 : Int) (r1 : List S44) (r2 : List S36) (r3 : Bool) (w : World) (hr0_0 : Kd.C k44 w A0_0 l0_0.length l0_0) (hc0_0 : l0_0.length ≤ c0_0) (hr0_1 : Kd.C k36 w A0_1 l0_1.length l0_1) (hc0_1 : l0_1.length ≤ c0_1) (h : impl_RenumberContext.f l0_0 l0_1 a1 a2 = some (r1, r2, r3)) :
    Calls Try.prog 23 #[.agg #[.slice A0_0 l0_0.length c0_0, .slice A0_1 l0_1.length c0_1], .int .i64 a1, .int .i64 a2] w fun e w' => ∃ v0_ v1_ : Value, e = .returned (.tuple #[.agg #[v0_, v1_], .bool r3]) ∧ Kd.R k44 44 w' w.heap.size (fun _ => True) v0_ r1 ∧ Kd.R k36 36 w' w.heap.size (fun _ => True) v1_ r2 ∧ Below w.heap.size w w' := by
  have H := Option.some.inj h
  clear h
  have HR0 := Aside0.mk hr0_0
  have HR1 := Aside0.mk hr0_1
  have HC0 := Aside0.mk hc0_0
  have HC1 := Aside0.mk hc0_1
  clear hr0_0 hr0_1 hc0_0 hc0_1
  obtain ⟨wb, hwb⟩ : ∃ wb, ((w).alloc (.cells #[.slice A0_0 l0_0.length c0_0, .slice A0_1 l0_1.length c0_1] 32 (0, 0))).alloc (.cells #[.slice none 0 0, .slice none 0 0] 32 (0, 0)) = wb := ⟨_, rfl⟩
  have HBw := Aside0.mk (show Below w.heap.size w wb from by rw [← hwb]; repeat (first | exact Below.refl _ _ | apply below_alloc))
  have HWB := HBw
  have hhr : wb.heap[w.heap.size]? = some (.cells #[.slice A0_0 l0_0.length c0_0, .slice A0_1 l0_1.length c0_1] 32 (0, 0)) := by rw [← hwb]; have h := blk_new (w) (.cells #[.slice A0_0 l0_0.length c0_0, .slice A0_1 l0_1.length c0_1] 32 (0, 0)); rw [show (w).heap.size = w.heap.size from by rfl] at h; exact blk_alloc (h) _
  have hb0 : wb.cell? ⟨w.heap.size, 0, none⟩ = some (.slice A0_0 l0_0.length c0_0) := (blk_cell hhr 0).trans rfl
  have hb1 : wb.cell? ⟨w.heap.size, 1, none⟩ = some (.slice A0_1 l0_1.length c0_1) := (blk_cell hhr 1).trans rfl
  have hh0 : wb.heap[w.heap.size + 1]? = some (.cells #[.slice none 0 0, .slice none 0 0] 32 (0, 0)) := by rw [← hwb]; have h := blk_new ((w).alloc (.cells #[.slice A0_0 l0_0.length c0_0, .slice A0_1 l0_1.length c0_1] 32 (0, 0))) (.cells #[.slice none 0 0, .slice none 0 0] 32 (0, 0)); rw [show ((w).alloc (.cells #[.slice A0_0 l0_0.length c0_0, .slice A0_1 l0_1.length c0_1] 32 (0, 0))).heap.size = w.heap.size + 1 from by simp] at h; exact h
  have hx0 : wb.cell? ⟨w.heap.size + 1, 0, none⟩ = some (.slice none 0 0) := (blk_cell hh0 0).trans rfl
  have hx0_1 : wb.cell? ⟨w.heap.size + 1, 1, none⟩ = some (.slice none 0 0) := (blk_cell hh0 1).trans rfl
  have hbs : w.heap.size + 1 < wb.heap.size := blk_lt hh0
  have HW := Aside0.mk hwb
  clear hwb
  clear hhr
  obtain ⟨b1, hb1_⟩ : ∃ b, (goodB l0_0 l0_1 && decide (0 ≤ find l0_0 a1)) = b := ⟨_, rfl⟩
  have A1 := Aside0.mk ((hasContext_eq l0_0 l0_1 a1).trans (congrArg some hb1_))
  obtain ⟨b2, hb2_⟩ : ∃ b, (decide (1 ≤ a2) && decide (a2 ≤ 999)) = b := ⟨_, rfl⟩
  have A2 := Aside0.mk ((isNumber_eq a2).trans (congrArg some hb2_))
  obtain ⟨m, hm⟩ : ∃ m, find l0_0 a2 = m := ⟨_, rfl⟩
  have A3 := Aside0.mk (show impl_indexOf.f l0_0 l0_1 a2 = some m from congrArg some hm)
  have HOK := Aside0.mk (show renOk l0_0 l0_1 a1 a2 = (b1 && (b2 && (a2 == a1 || decide (m < 0)))) from by unfold renOk; rw [hb1_, hb2_, hm])
  have HG := Aside0.mk hb1_
  have HM := Aside0.mk hm
  clear hb1_ hb2_ hm
  rw [HOK.out] at H
  cases b1 with
  | false =>
    injection H with H1 H2
    injection H2 with H2 H3
    subst H1; subst H2; subst H3
    have hf1 := blk_frozen hh0 0
    have hf2 := blk_frozen hh0 1
    go_enter Try.func23, Try.ntmps23
    go_upto_region 1 with (fail)
    try rw [HW.out]
    clear HW
    go_upto_region 2 with ((go_at_call 54; (with_reducible refine (impl_hasContext.calls _ _ l0_0 _ _ l0_1 a1 _ _ (Kd.C_below HR0.out (by repeat (first | exact HBw.out | exact Below.refl _ _ | apply below_alloc | apply pw_below_drewN | apply below_drew1))) HC0.out (Kd.C_below HR1.out (by repeat (first | exact HBw.out | exact Below.refl _ _ | apply below_alloc | apply pw_below_drewN | apply below_drew1))) HC1.out A1.out).mono ?_); rintro e w1 ⟨rfl, hb⟩; have HBw : Aside0 (Below w.heap.size w w1) := Aside0.mk (below_chain (w := w) (by repeat (first | exact HBw.out | exact Below.refl _ _ | apply below_alloc | apply pw_below_drewN | apply below_drew1)) hb); have hb0 := pw_cell_below hb hb0; have hb1 := pw_cell_below hb hb1; have hx0 := pw_cell_below hb hx0; have hx0_1 := pw_cell_below hb hx0_1; have hh0 := blk_below hh0 hb; clear hf1 hf2; have hf1 := blk_frozen hh0 0; have hf2 := blk_frozen hh0 1; clear hb))
    go_wp2
    refine bodyPost_ret (results_ct rfl _ _ (w.heap.size + 1) 32 #[.slice none 0 0, .slice none 0 0] (0, 0) _ rfl (blk_put (blk_put hh0 0 _ rfl) 1 _ rfl) Try.underlying32 rfl (by kernel_rfl)) rfl ?_
    exact ⟨_, _, rfl, Kd.R_nil _ _ _ _ _, Kd.R_nil _ _ _ _ _, by repeat (first | exact HBw.out | refine below_set ?_ (by show w.heap.size ≤ w.heap.size + 1; omega))⟩
  | true =>
  cases b2 with
  | false =>
    injection H with H1 H2
    injection H2 with H2 H3
    subst H1; subst H2; subst H3
    have hf1 := blk_frozen hh0 0
    have hf2 := blk_frozen hh0 1
    go_enter Try.func23, Try.ntmps23
    go_upto_region 1 with (fail)
    try rw [HW.out]
    clear HW
    go_upto_region 2 with (first | (go_at_call 54; (with_reducible refine (impl_hasContext.calls _ _ l0_0 _ _ l0_1 a1 _ _ (Kd.C_below HR0.out (by repeat (first | exact HBw.out | exact Below.refl _ _ | apply below_alloc | apply pw_below_drewN | apply below_drew1))) HC0.out (Kd.C_below HR1.out (by repeat (first | exact HBw.out | exact Below.refl _ _ | apply below_alloc | apply pw_below_drewN | apply below_drew1))) HC1.out A1.out).mono ?_); rintro e w1 ⟨rfl, hb⟩; have HBw : Aside0 (Below w.heap.size w w1) := Aside0.mk (below_chain (w := w) (by repeat (first | exact HBw.out | exact Below.refl _ _ | apply below_alloc | apply pw_below_drewN | apply below_drew1)) hb); have hb0 := pw_cell_below hb hb0; have hb1 := pw_cell_below hb hb1; have hx0 := pw_cell_below hb hx0; have hx0_1 := pw_cell_below hb hx0_1; have hh0 := blk_below hh0 hb; clear hf1 hf2; have hf1 := blk_frozen hh0 0; have hf2 := blk_frozen hh0 1; clear hb) | (go_at_call 55; (with_reducible refine (impl_isNumber.calls a2 _ _ A2.out).mono ?_); rintro e w1 ⟨rfl, hd⟩; have hb := Drawn0.below hd; clear hd; have HBw : Aside0 (Below w.heap.size w w1) := Aside0.mk (below_chain (w := w) (by repeat (first | exact HBw.out | exact Below.refl _ _ | apply below_alloc | apply pw_below_drewN | apply below_drew1)) hb); have hb0 := pw_cell_below hb hb0; have hb1 := pw_cell_below hb hb1; have hx0 := pw_cell_below hb hx0; have hx0_1 := pw_cell_below hb hx0_1; have hh0 := blk_below hh0 hb; clear hf1 hf2; have hf1 := blk_frozen hh0 0; have hf2 := blk_frozen hh0 1; clear hb))
    go_wp2
    refine bodyPost_ret (results_ct rfl _ _ (w.heap.size + 1) 32 #[.slice none 0 0, .slice none 0 0] (0, 0) _ rfl (blk_put (blk_put hh0 0 _ rfl) 1 _ rfl) Try.underlying32 rfl (by kernel_rfl)) rfl ?_
    exact ⟨_, _, rfl, Kd.R_nil _ _ _ _ _, Kd.R_nil _ _ _ _ _, by repeat (first | exact HBw.out | refine below_set ?_ (by show w.heap.size ≤ w.heap.size + 1; omega))⟩
  | true =>
  by_cases hbad : a2 ≠ a1 ∧ 0 ≤ m
  · obtain ⟨hne, hm0⟩ := hbad
    have hnez : (a2 != a1) = true := bne_iff_ne.2 hne
    rw [if_neg (by simp [hne]; omega)] at H
    injection H with H1 H2
    injection H2 with H2 H3
    subst H1; subst H2; subst H3
    clear hne
    have hf1 := blk_frozen hh0 0
    have hf2 := blk_frozen hh0 1
    go_enter Try.func23, Try.ntmps23
    go_upto_region 1 with (fail)
    try rw [HW.out]
    clear HW
    go_upto_region 2 with (first | (go_at_call 54; (with_reducible refine (impl_hasContext.calls _ _ l0_0 _ _ l0_1 a1 _ _ (Kd.C_below HR0.out (by repeat (first | exact HBw.out | exact Below.refl _ _ | apply below_alloc | apply pw_below_drewN | apply below_drew1))) HC0.out (Kd.C_below HR1.out (by repeat (first | exact HBw.out | exact Below.refl _ _ | apply below_alloc | apply pw_below_drewN | apply below_drew1))) HC1.out A1.out).mono ?_); rintro e w1 ⟨rfl, hb⟩; have HBw : Aside0 (Below w.heap.size w w1) := Aside0.mk (below_chain (w := w) (by repeat (first | exact HBw.out | exact Below.refl _ _ | apply below_alloc | apply pw_below_drewN | apply below_drew1)) hb); have hb0 := pw_cell_below hb hb0; have hb1 := pw_cell_below hb hb1; have hx0 := pw_cell_below hb hx0; have hx0_1 := pw_cell_below hb hx0_1; have hh0 := blk_below hh0 hb; clear hf1 hf2; have hf1 := blk_frozen hh0 0; have hf2 := blk_frozen hh0 1; clear hb) | (go_at_call 55; (with_reducible refine (impl_isNumber.calls a2 _ _ A2.out).mono ?_); rintro e w1 ⟨rfl, hd⟩; have hb := Drawn0.below hd; clear hd; have HBw : Aside0 (Below w.heap.size w w1) := Aside0.mk (below_chain (w := w) (by repeat (first | exact HBw.out | exact Below.refl _ _ | apply below_alloc | apply pw_below_drewN | apply below_drew1)) hb); have hb0 := pw_cell_below hb hb0; have hb1 := pw_cell_below hb hb1; have hx0 := pw_cell_below hb hx0; have hx0_1 := pw_cell_below hb hx0_1; have hh0 := blk_below hh0 hb; clear hf1 hf2; have hf1 := blk_frozen hh0 0; have hf2 := blk_frozen hh0 1; clear hb) | (go_at_call 56; (with_reducible refine (impl_indexOf.calls _ _ l0_0 _ _ l0_1 a2 _ _ (Kd.C_below HR0.out (by repeat (first | exact HBw.out | exact Below.refl _ _ | apply below_alloc | apply pw_below_drewN | apply below_drew1))) HC0.out (Kd.C_below HR1.out (by repeat (first | exact HBw.out | exact Below.refl _ _ | apply below_alloc | apply pw_below_drewN | apply below_drew1))) HC1.out A3.out).mono ?_); rintro e w1 ⟨rfl, hb⟩; have HBw : Aside0 (Below w.heap.size w w1) := Aside0.mk (below_chain (w := w) (by repeat (first | exact HBw.out | exact Below.refl _ _ | apply below_alloc | apply pw_below_drewN | apply below_drew1)) hb); have hb0 := pw_cell_below hb hb0; have hb1 := pw_cell_below hb hb1; have hx0 := pw_cell_below hb hx0; have hx0_1 := pw_cell_below hb hx0_1; have hh0 := blk_below hh0 hb; clear hf1 hf2; have hf1 := blk_frozen hh0 0; have hf2 := blk_frozen hh0 1; clear hb))
    go_wp2
    refine bodyPost_ret (results_ct rfl _ _ (w.heap.size + 1) 32 #[.slice none 0 0, .slice none 0 0] (0, 0) _ rfl (blk_put (blk_put hh0 0 _ rfl) 1 _ rfl) Try.underlying32 rfl (by kernel_rfl)) rfl ?_
    exact ⟨_, _, rfl, Kd.R_nil _ _ _ _ _, Kd.R_nil _ _ _ _ _, by repeat (first | exact HBw.out | refine below_set ?_ (by show w.heap.size ≤ w.heap.size + 1; omega))⟩
  · rw [if_pos (by simp; by_cases e : a2 = a1; exact .inl e; exact .inr (by omega))] at H
    injection H with H1 H2
    injection H2 with H2 H3
    subst H1; subst H2; subst H3
    obtain ⟨i, hi⟩ : ∃ i : Nat, find l0_0 a1 = (i : Int) := ⟨(find l0_0 a1).toNat, by have h := HG.out; simp only [Bool.and_eq_true, decide_eq_true_eq] at h; omega⟩
    obtain ⟨hin, hget⟩ := find_get l0_0 a1 i hi
    have HIN := Aside0.mk hin
    have A4 := Aside0.mk (show impl_indexOf.f l0_0 l0_1 a1 = some (i : Int) from congrArg some hi)
    rw [hi, Int.toNat_natCast]
    have HL9 := Aside0.mk (show l0_0.length ≤ 1000 ∧ l0_1.length ≤ 1000 from by have h := HG.out; simp only [goodB, Bool.and_eq_true, decide_eq_true_eq] at h; have h2 := h.1.1.1; omega)
    have HND := Aside0.mk (show ((l0_0.set i ⟨a2, (l0_0.getD i z44).f1⟩).map (·.f0)).Nodup from by
      have hg : goodB l0_0 l0_1 = true := by have h := HG.out; simp only [Bool.and_eq_true] at h; exact h.1
      have hlt := goodB_ctx hg
      refine set_nodup (nodup_of_lt hlt) i _ (fun j hj hji => ?_)
      show l0_0[j].f0 ≠ a2
      by_cases e : a2 = a1
      · subst e
        intro e2
        have hgi : l0_0[i].f0 = a2 := by rw [List.getD_eq_getElem?_getD, List.getElem?_eq_getElem hin] at hget; exact hget
        rw [List.pairwise_iff_getElem] at hlt
        rcases Nat.lt_or_gt_of_ne hji with h | h
        · have := hlt j i hj hin h; omega
        · have := hlt i j hin hj h; omega
      · exact find_not l0_0 a2 (by rw [HM.out]; omega) _ (List.getElem_mem hj))
    clear hin hget hi
    obtain ⟨cs2, hcs2⟩ : ∃ cs2, l0_0.set i ⟨a2, (l0_0.getD i z44).f1⟩ = cs2 := ⟨_, rfl⟩
    have HC2 := Aside0.mk hcs2
    rw [hcs2] at HND ⊢
    clear hcs2
    have B1 := Aside0.mk hh0
    clear hh0
    have hbad2 : a2 = a1 ∨ (a2 ≠ a1 ∧ m < 0) := by by_cases e : a2 = a1; exact .inl e; exact .inr ⟨e, by omega⟩
    clear hbad
    rcases hbad2 with he | ⟨hne, hm0⟩
    case' inl =>
      have hnez : (a2 != a1) = false := by simp [he]
      clear he
      go_enter Try.func23, Try.ntmps23
      go_upto_region 1 with (fail)
      try rw [HW.out]
      clear HW
      go_upto_region 4 with (first | (go_at_call 54; (with_reducible refine (impl_hasContext.calls _ _ l0_0 _ _ l0_1 a1 _ _ (Kd.C_below HR0.out (by repeat (first | exact HBw.out | exact Below.refl _ _ | apply below_alloc | apply pw_below_drewN | apply below_drew1))) HC0.out (Kd.C_below HR1.out (by repeat (first | exact HBw.out | exact Below.refl _ _ | apply below_alloc | apply pw_below_drewN | apply below_drew1))) HC1.out A1.out).mono ?_); rintro e w1 ⟨rfl, hb⟩; have HBw : Aside0 (Below w.heap.size w w1) := Aside0.mk (below_chain (w := w) (by repeat (first | exact HBw.out | exact Below.refl _ _ | apply below_alloc | apply pw_below_drewN | apply below_drew1)) hb); have hb0 := pw_cell_below hb hb0; have hb1 := pw_cell_below hb hb1; have hx0 := pw_cell_below hb hx0; have hx0_1 := pw_cell_below hb hx0_1; have B1 := Aside0.mk (blk_below B1.out hb); clear hb) | (go_at_call 55; (with_reducible refine (impl_isNumber.calls a2 _ _ A2.out).mono ?_); rintro e w1 ⟨rfl, hd⟩; have hb := Drawn0.below hd; clear hd; have HBw : Aside0 (Below w.heap.size w w1) := Aside0.mk (below_chain (w := w) (by repeat (first | exact HBw.out | exact Below.refl _ _ | apply below_alloc | apply pw_below_drewN | apply below_drew1)) hb); have hb0 := pw_cell_below hb hb0; have hb1 := pw_cell_below hb hb1; have hx0 := pw_cell_below hb hx0; have hx0_1 := pw_cell_below hb hx0_1; have B1 := Aside0.mk (blk_below B1.out hb); clear hb) | (go_at_call 57; (with_reducible refine (impl_renamed.calls _ _ l0_0 _ _ l0_1 a1 a2 _ (Kd.C_below HR0.out (by repeat (first | exact HBw.out | exact Below.refl _ _ | apply below_alloc | apply pw_below_drewN | apply below_drew1))) HC0.out (Kd.C_below HR1.out (by repeat (first | exact HBw.out | exact Below.refl _ _ | apply below_alloc | apply pw_below_drewN | apply below_drew1))) HC1.out HL9.out.1 HL9.out.2).mono ?_); rintro e w2 ⟨v0, v1, rfl, hR0, hR1, hb⟩; obtain ⟨D0, d0, rfl, hd0, hC0⟩ := Kd.R_reads hR0; obtain ⟨D1, d1, he1, hd1, hC1⟩ := Kd.R_reads hR1; obtain ⟨n1, hn1⟩ : ∃ n, n = (l0_1.map (ren a1 a2)).length := ⟨_, rfl⟩; obtain rfl : v1 = .slice D1 n1 d1 := he1.trans (by rw [hn1]); have HN1 := Aside0.mk hn1; have HR0q := Aside0.mk (Kd.R_lower hR0 HBw.out.size); have HR1q := Aside0.mk (Kd.R_lower hR1 HBw.out.size); have HBw : Aside0 (Below w.heap.size w w2) := Aside0.mk (below_chain (w := w) (by repeat (first | exact HBw.out | exact Below.refl _ _ | apply below_alloc | apply pw_below_drewN | apply below_drew1)) hb); have hb0 := pw_cell_below hb hb0; have hb1 := pw_cell_below hb hb1; have hx0 := pw_cell_below hb hx0; have hx0_1 := pw_cell_below hb hx0_1; have B1 := Aside0.mk (blk_below B1.out hb); clear hb hR0 hR1 hC0 hC1 hd0 hd1 he1 hn1))
    case' inr =>
      have hnez : (a2 != a1) = true := bne_iff_ne.2 hne
      have hmz : ¬ 0 ≤ m := by omega
      clear hne hm0
      go_enter Try.func23, Try.ntmps23
      go_upto_region 1 with (fail)
      try rw [HW.out]
      clear HW
      go_upto_region 4 with (first | (go_at_call 54; (with_reducible refine (impl_hasContext.calls _ _ l0_0 _ _ l0_1 a1 _ _ (Kd.C_below HR0.out (by repeat (first | exact HBw.out | exact Below.refl _ _ | apply below_alloc | apply pw_below_drewN | apply below_drew1))) HC0.out (Kd.C_below HR1.out (by repeat (first | exact HBw.out | exact Below.refl _ _ | apply below_alloc | apply pw_below_drewN | apply below_drew1))) HC1.out A1.out).mono ?_); rintro e w1 ⟨rfl, hb⟩; have HBw : Aside0 (Below w.heap.size w w1) := Aside0.mk (below_chain (w := w) (by repeat (first | exact HBw.out | exact Below.refl _ _ | apply below_alloc | apply pw_below_drewN | apply below_drew1)) hb); have hb0 := pw_cell_below hb hb0; have hb1 := pw_cell_below hb hb1; have hx0 := pw_cell_below hb hx0; have hx0_1 := pw_cell_below hb hx0_1; have B1 := Aside0.mk (blk_below B1.out hb); clear hb) | (go_at_call 55; (with_reducible refine (impl_isNumber.calls a2 _ _ A2.out).mono ?_); rintro e w1 ⟨rfl, hd⟩; have hb := Drawn0.below hd; clear hd; have HBw : Aside0 (Below w.heap.size w w1) := Aside0.mk (below_chain (w := w) (by repeat (first | exact HBw.out | exact Below.refl _ _ | apply below_alloc | apply pw_below_drewN | apply below_drew1)) hb); have hb0 := pw_cell_below hb hb0; have hb1 := pw_cell_below hb hb1; have hx0 := pw_cell_below hb hx0; have hx0_1 := pw_cell_below hb hx0_1; have B1 := Aside0.mk (blk_below B1.out hb); clear hb) | (go_at_call 56; (with_reducible refine (impl_indexOf.calls _ _ l0_0 _ _ l0_1 a2 _ _ (Kd.C_below HR0.out (by repeat (first | exact HBw.out | exact Below.refl _ _ | apply below_alloc | apply pw_below_drewN | apply below_drew1))) HC0.out (Kd.C_below HR1.out (by repeat (first | exact HBw.out | exact Below.refl _ _ | apply below_alloc | apply pw_below_drewN | apply below_drew1))) HC1.out A3.out).mono ?_); rintro e w1 ⟨rfl, hb⟩; have HBw : Aside0 (Below w.heap.size w w1) := Aside0.mk (below_chain (w := w) (by repeat (first | exact HBw.out | exact Below.refl _ _ | apply below_alloc | apply pw_below_drewN | apply below_drew1)) hb); have hb0 := pw_cell_below hb hb0; have hb1 := pw_cell_below hb hb1; have hx0 := pw_cell_below hb hx0; have hx0_1 := pw_cell_below hb hx0_1; have B1 := Aside0.mk (blk_below B1.out hb); clear hb) | (go_at_call 57; (with_reducible refine (impl_renamed.calls _ _ l0_0 _ _ l0_1 a1 a2 _ (Kd.C_below HR0.out (by repeat (first | exact HBw.out | exact Below.refl _ _ | apply below_alloc | apply pw_below_drewN | apply below_drew1))) HC0.out (Kd.C_below HR1.out (by repeat (first | exact HBw.out | exact Below.refl _ _ | apply below_alloc | apply pw_below_drewN | apply below_drew1))) HC1.out HL9.out.1 HL9.out.2).mono ?_); rintro e w2 ⟨v0, v1, rfl, hR0, hR1, hb⟩; obtain ⟨D0, d0, rfl, hd0, hC0⟩ := Kd.R_reads hR0; obtain ⟨D1, d1, he1, hd1, hC1⟩ := Kd.R_reads hR1; obtain ⟨n1, hn1⟩ : ∃ n, n = (l0_1.map (ren a1 a2)).length := ⟨_, rfl⟩; obtain rfl : v1 = .slice D1 n1 d1 := he1.trans (by rw [hn1]); have HN1 := Aside0.mk hn1; have HR0q := Aside0.mk (Kd.R_lower hR0 HBw.out.size); have HR1q := Aside0.mk (Kd.R_lower hR1 HBw.out.size); have HBw : Aside0 (Below w.heap.size w w2) := Aside0.mk (below_chain (w := w) (by repeat (first | exact HBw.out | exact Below.refl _ _ | apply below_alloc | apply pw_below_drewN | apply below_drew1)) hb); have hb0 := pw_cell_below hb hb0; have hb1 := pw_cell_below hb hb1; have hx0 := pw_cell_below hb hx0; have hx0_1 := pw_cell_below hb hx0_1; have B1 := Aside0.mk (blk_below B1.out hb); clear hb hR0 hR1 hC0 hC1 hd0 hd1 he1 hn1))
    all_goals
      obtain ⟨gb, hgb⟩ : ∃ g, w2.heap.size = g := ⟨_, rfl⟩
      have B0 := Aside0.mk (blk_new w2 (.cells #[.slice D0 l0_0.length d0, .slice D1 n1 d1] 32 (0, 0)))
      have hlt : w.heap.size + 1 < w2.heap.size := blk_lt B1.out
      have B1 := Aside0.mk (blk_alloc B1.out (.cells #[.slice D0 l0_0.length d0, .slice D1 n1 d1] 32 (0, 0)))
      have HBw := Aside0.mk (below_alloc HBw.out (.cells #[.slice D0 l0_0.length d0, .slice D1 n1 d1] 32 (0, 0)))
      have HR0q := Aside0.mk (Kd.R_alloc HR0q.out (.cells #[.slice D0 l0_0.length d0, .slice D1 n1 d1] 32 (0, 0)))
      have HR1q := Aside0.mk (Kd.R_alloc HR1q.out (.cells #[.slice D0 l0_0.length d0, .slice D1 n1 d1] 32 (0, 0)))
      have hb0 := pw_cell_below (below_alloc (Below.refl _ _) (.cells #[.slice D0 l0_0.length d0, .slice D1 n1 d1] 32 (0, 0))) hb0
      have hb1 := pw_cell_below (below_alloc (Below.refl _ _) (.cells #[.slice D0 l0_0.length d0, .slice D1 n1 d1] 32 (0, 0))) hb1
      generalize w2.alloc (.cells #[.slice D0 l0_0.length d0, .slice D1 n1 d1] 32 (0, 0)) = wq at B0 B1 HBw HR0q HR1q hb0 hb1 ⊢
      rw [hgb] at B0
      try rw [hgb]
      have HGL := Aside0.mk (show w.heap.size + 1 < gb from by omega)
      clear hgb hlt hx0 hx0_1
      have c0 : wq.cell? ⟨gb, 0, none⟩ = some (.slice D0 l0_0.length d0) := (blk_cell B0.out 0).trans rfl
      have hpos : 0 < l0_0.length := by have := HIN.out; omega
      obtain ⟨g1, cp, hv1, hcap, hbase, hg1, _⟩ := R_form HR0q.out hpos
      injection hv1 with e1 e2 e3
      subst e1; subst e3
      clear e2 hpos hcap hbase hg1
      have hltz : (i : Int) < (l0_0.length : Int) := by have := HIN.out; omega
      all_goals refine start_ (n := 9) (S := (fun w' : World => w'.cell? ⟨gb, 0, none⟩ = some (.slice (some ⟨g1, 0, none⟩) l0_0.length d0) ∧ w'.cell? ⟨w.heap.size, 0, none⟩ = some (.slice A0_0 l0_0.length c0_0) ∧ w'.cell? ⟨w.heap.size, 1, none⟩ = some (.slice A0_1 l0_1.length c0_1) ∧ Aside0 (Below w.heap.size w w') ∧ Aside0 (w'.heap[gb]? = some (.cells #[.slice (some ⟨g1, 0, none⟩) l0_0.length d0, .slice D1 n1 d1] 32 (0, 0))) ∧ Aside0 (w'.heap[w.heap.size + 1]? = some (.cells #[.slice none 0 0, .slice none 0 0] 32 (0, 0))) ∧ Aside0 (Kd.R k44 44 w' w.heap.size (fun _ => True) (.slice (some ⟨g1, 0, none⟩) l0_0.length d0) l0_0) ∧ Aside0 (Kd.R k36 36 w' w.heap.size (fun _ => True) (.slice D1 n1 d1) (l0_1.map (ren a1 a2))))) (ds := [8]) (bl 0 9) (by kernel_rfl) rfl rfl ⟨c0, hb0, hb1, ⟨below_drew1 HBw.out⟩, ⟨blk_drew B0.out⟩, ⟨blk_drew B1.out⟩, ⟨Kd.R_drew HR0q.out⟩, ⟨Kd.R_drew HR1q.out⟩⟩ (fun hHeld => ?_); refine with_tabW impl_RenumberContext.tab4 impl_RenumberContext.bits4 (fun HT_ HW_ => ?_)
      all_goals generalize wq.drew = wv at hHeld ⊢
      all_goals first | refine pA_ 0 (some 34) (bl 1 9) HT_.out (h := ?_) | refine pO_ 0 (some 34) (bl 1 9) HT_.out (h := ?_)
      all_goals first | refine pA_ 3 (some 37) (bx 1 [3] 9) HT_.out (h := ?_) | refine pO_ 3 (some 37) (bx 1 [3] 9) HT_.out (h := ?_)
      all_goals first | refine pA_ 5 (some 39) (bx 1 [3, 5] 9) HT_.out (h := ?_) | refine pO_ 5 (some 39) (bx 1 [3, 5] 9) HT_.out (h := ?_)
      all_goals first | refine tA_ 1 (some 35) (bx 2 [3, 5] 9) HT_.out HW_.out hHeld (h := ?_) | refine pO_ 1 (some 35) (bx 2 [3, 5] 9) HT_.out (h := ?_)
      all_goals first | refine tA_ 2 (some 36) (bx 4 [5] 9) HT_.out HW_.out hHeld (h := ?_) | refine pO_ 2 (some 36) (bx 4 [5] 9) HT_.out (h := ?_)
      all_goals first | refine pO_ 4 (some 38) (bl 6 9) HT_.out (h := ?_) | (refine one_ (i := 4) (N := some 38) (bl 6 9) rfl rfl (one_of HT_.out (by kernel_rfl)) (by decide) (fun K hK => ?_); refine goes_ Try.func56 (by kernel_rfl) rfl #[.agg #[.slice A0_0 l0_0.length c0_0, .slice A0_1 l0_1.length c0_1], .int .i64 a1] (by rfl) rfl rfl (by (try simp only [List.map_toArray, List.map_cons, List.map_nil]); first | done | rfl) ?_; with_reducible refine (impl_indexOf.calls _ _ l0_0 _ _ l0_1 a1 _ _ (Kd.C_below HR0.out hHeld.2.2.2.1.out) HC0.out (Kd.C_below HR1.out hHeld.2.2.2.1.out) HC1.out A4.out).mono ?_; rintro e w' ⟨rfl, hb⟩; refine ⟨_, rfl, ?_⟩; refine hK.out _ _ ⟨pw_cell_below hb hHeld.1, pw_cell_below hb hHeld.2.1, pw_cell_below hb hHeld.2.2.1, ⟨below_chain hHeld.2.2.2.1.out hb⟩, ⟨blk_below hHeld.2.2.2.2.1.out hb⟩, ⟨blk_below hHeld.2.2.2.2.2.1.out hb⟩, ⟨Kd.R_below hHeld.2.2.2.2.2.2.1.out hb⟩, ⟨Kd.R_below hHeld.2.2.2.2.2.2.2.out hb⟩⟩ (fun hHeld => ?_); clear hK K; refine norm_ (a' := ?_) ?_ ?_; rotate_left; (show Act.put _ (some 38) _ = _; simp only [Act.put, List.setIfInBounds_toArray, List.set_cons_zero, List.set_cons_succ, i64_w, i32_w]; rfl))
      all_goals first | refine pA_ 6 (some 40) (bl 7 9) HT_.out (h := ?_) | refine pO_ 6 (some 40) (bl 7 9) HT_.out (h := ?_)
      all_goals first | refine pA_ 7 (some 41) (bl 8 9) HT_.out (h := ?_) | refine pO_ 7 (some 41) (bl 8 9) HT_.out (h := ?_)
      all_goals (refine last_ (i := 8) (N := none) (bl 9 9) rfl rfl (one_of HT_.out (by kernel_rfl)) (by decide) (fun K hK => ?_); obtain ⟨hx, hfz, hRs, hGs⟩ := ctx_at hHeld.2.2.2.2.2.2.1.out i HIN.out a2; rw [HC2.out] at hRs; have HPRE := hHeld; have HRs := Aside0.mk hRs; have HGs := Aside0.mk hGs; clear hHeld hRs hGs; refine skip_ (by rfl) rfl (by go_simp; rfl) ?_; refine hK.out _ _ ?_; clear hK K)
      all_goals refine done_ (done_of HT_.out (by kernel_rfl)) ?_
      obtain ⟨c0, hb0, hb1, HBw, B0, B1, HR0q, HR1q⟩ := HPRE
      have HR1q := Aside0.mk (Kd.R_grown2 HR1q.out rfl HGs.out (rows_ne HR0q.out HR1q.out (by decide)))
      have B1 := Aside0.mk (blk_grown B1.out HGs.out (Kd.R_ne HR0q.out B1.out (by decide)))
      have B0 := Aside0.mk (blk_grown B0.out HGs.out (Kd.R_ne HR0q.out B0.out (by decide)))
      have HBw := Aside0.mk (below_of_grown HBw.out HGs.out (fun b hb => Kd.R_base HR0q.out b hb))
      have HR0q := HRs
      clear c0 hb0 hb1 HRs hx hfz HGs hltz
      obtain ⟨wz, hwz⟩ : ∃ x, w'.setCell ⟨g1, i * 2, none⟩ (.int .i64 a2) = x := ⟨_, rfl⟩
      rw [hwz] at HR0q HR1q B0 B1 HBw ⊢
      clear hwz
      have c0 : wz.cell? ⟨gb, 0, none⟩ = some (.slice (some ⟨g1, 0, none⟩) l0_0.length d0) := (blk_cell B0.out 0).trans rfl
      have c1 : wz.cell? ⟨gb, 1, none⟩ = some (.slice D1 n1 d1) := (blk_cell B0.out 1).trans rfl
      have HT9 := Aside0.mk (show (cs2).length ≤ 1000 ∧ (l0_1.map (ren a1 a2)).length ≤ 1000 from by have h := HL9.out; rw [← HC2.out, List.length_set, List.length_map]; exact h)
      obtain ⟨T, hT⟩ : ∃ T, tidyR (l0_1.map (ren a1 a2)) = T := ⟨_, rfl⟩
      have HT := Aside0.mk hT
      clear hT B0
      go_wp2_with (go_at_call 49; (refine (impl_tidyRecord.calls w (.slice (some ⟨g1, 0, none⟩) l0_0.length d0) (.slice D1 n1 d1) (cs2) (l0_1.map (ren a1 a2)) _ HBw.out HR0q.out HR1q.out HT9.out.1 HT9.out.2).mono ?_); rintro e w5 ⟨v5, cs', ys, rfl, hC, hR, hp, hs, hp2, hs2, hb, hk⟩; rw [tidyR_eq hp2 (hs2.imp fun h => by rw [ltR] at h; exact h), HT.out] at hR; obtain ⟨D5, d5, he5, hd5, _⟩ := Kd.R_reads hR; obtain ⟨n5, hn5⟩ : ∃ n, n = T.length := ⟨_, rfl⟩; obtain rfl : v5 = .slice D5 n5 d5 := he5.trans (by rw [hn5]); have GE := Aside0.mk (show cs' = _ from tidyC_uniq HND.out hp hs); have B1 := Aside0.mk ((hk.2 _ (blk_lt B1.out) (fun h => by rcases h with h | h; exact Kd.R_ne HR0q.out B1.out (by decide) h; exact Kd.R_ne HR1q.out B1.out (by decide) h)).trans B1.out); have HRa := Aside0.mk hC; have HRb := Aside0.mk (Kd.R_mono (ok' := fun _ => True) hR (fun _ _ => trivial)); have HBw := Aside0.mk hb; clear hC hR hp hs hp2 hs2 hb hk he5 hd5 hn5 c0 c1; have q0 : w5.cell? ⟨w.heap.size + 1, 0, none⟩ = some (.slice none 0 0) := (blk_cell B1.out 0).trans rfl; have q1 : w5.cell? ⟨w.heap.size + 1, 1, none⟩ = some (.slice none 0 0) := (blk_cell B1.out 1).trans rfl; have f0 := blk_frozen B1.out 0; have f1 := blk_frozen B1.out 1)
      refine bodyPost_ret (results_ct rfl _ _ (w.heap.size + 1) 32 #[.slice (some ⟨g1, 0, none⟩) l0_0.length d0, .slice D5 n5 d5] (0, 0) _ rfl (blk_put (blk_put B1.out 0 _ rfl) 1 _ rfl) Try.underlying32 rfl (by kernel_rfl)) rfl ?_
      exact ⟨_, _, rfl, by rw [← GE.out]; exact Kd.R_set (Kd.R_set HRa.out B1.out (by decide) 0 _) (blk_put B1.out 0 _ rfl) (by decide) 1 _, by rw [HT.out]; exact Kd.R_set (Kd.R_set HRb.out B1.out (by decide) 0 _) (blk_put B1.out 0 _ rfl) (by decide) 1 _, below_set (below_set HBw.out (by omega)) (by omega)⟩

end Go.Proofs.Ytlmdmnenljmdgaa.Q
