/- Texts Pr, PrW, PrE, PrF, PrG, PrL of this seat as one (wip/tools/mergeup.py). -/
import Derived.Test.YtdmbboijcaelcaaDoorQ0
import Derived.Test.YtdmbboijcaelcaaDoorQF92
import Derived.Test.YtdmbboijcaelcaaDoorPrX
import Derived.Test.YtdmbboijcaelcaaDoorQB1
import Derived.Test.YtdmbboijcaelcaaDoorQM0
import Derived.Test.YtdmbboijcaelcaaDoorQM1
import Derived.Test.YtdmbboijcaelcaaDoorQLBBaseB
/-! ### Pr -/
/- impl.ParseRecord walked (printed by wip/xprint.py, the world's word WF handed on by wip/gen/mkparserec.py). -/
-- Written by a program of this session (wip/xprint.py over the kit's printer).
namespace Go.Proofs.YtdmbboijcaelcaaDoor.Q
open Go.RowKit Go.Proofs.YtdmbboijcaelcaaDoorW.PrintWords Go.Proofs.YtdmbboijcaelcaaDoorW.PrintLast
set_option linter.unusedVariables false
set_option linter.unusedSimpArgs false

/-! ### impl_ParseRecord: function 44 -/
theorem rdOf_taken (y t : List ByteArray) (m : Nat) (i : Int) (h : y = t.take m) (h0 : 0 ≤ i) (h1 : i < (y.length : Int)) : rdOf ByteArray.empty y i = rdOf ByteArray.empty t i := by
  subst h
  obtain ⟨n, rfl⟩ : ∃ n : Nat, i = n := ⟨i.toNat, by omega⟩
  have hn : n < (t.take m).length := by omega
  have hn2 : n < t.length := by rw [List.length_take] at hn; omega
  simp only [rdOf, Int.toNat_natCast, List.getD_eq_getElem?_getD, List.getElem?_eq_getElem hn, List.getElem?_eq_getElem hn2, Option.getD_some, List.getElem_take]
def impl_ParseRecord.l0 : Nat → ByteArray → List ByteArray → Int → Int → List (S94) → List (S96) → Option ((List (S94)) × (List (S96)) × Bool)
 | 0, _, _, _, _, _, _ => none
 | k + 1, x0, x30, x31, x32, x153000, x153001 => if x32 < x31 then (if 0 ≤ x32 then (if x32 < (x30.length : Int) then ((strings_Split.f (rdOf ByteArray.empty x30 x32) (⟨#[32]⟩ : ByteArray)).bind fun t163 => (if (t163.length : Int) = 3 then (if 0 < (t163.length : Int) then (if (rdOf ByteArray.empty t163 0).toList = ([99, 111, 110, 116, 101, 120, 116] : List UInt8) then (if 1 < (t163.length : Int) then ((impl_ParseInt.f (rdOf ByteArray.empty t163 1)).bind fun bt168 => (if 2 < (t163.length : Int) then ((impl_ParseKind.f k (rdOf ByteArray.empty t163 2)).bind fun bt171 => (if x153000.length < 8796093022208 then (impl_ParseRecord.l0 k x0 x30 x31 (wrap64 (x32 + 1)) (x153000 ++ [(⟨bt168.1, bt171.1⟩ : S94)]) x153001) else (none))) else (none))) else (none)) else ((impl_ParseInt.f (rdOf ByteArray.empty t163 0)).bind fun bt177 => (if 2 < (t163.length : Int) then ((impl_ParseInt.f (rdOf ByteArray.empty t163 2)).bind fun bt180 => (if x153001.length < 8796093022208 then (impl_ParseRecord.l0 k x0 x30 x31 (wrap64 (x32 + 1)) x153000 (x153001 ++ [(⟨bt177.1, bt180.1⟩ : S96)])) else (none))) else (none)))) else (none)) else (some (([] : List (S94)), ([] : List (S96)), false)))) else (none)) else (none)) else ((impl_FmtStd.f x153000 x153001).bind fun bt160 => (if bt160.2 = true then (if bt160.1.toList = x0.toList then (some (x153000, x153001, true)) else (some (([] : List (S94)), ([] : List (S96)), false))) else (some (([] : List (S94)), ([] : List (S96)), false))))
def impl_ParseRecord.f (k : Nat) (a0 : ByteArray) : Option ((List (S94)) × (List (S96)) × Bool) := if (a0.size : Int) > 4000 then (some (([] : List (S94)), ([] : List (S96)), false)) else ((strings_Split.f a0 (⟨#[10]⟩ : ByteArray)).bind fun t153 => (if 0 ≤ (wrap64 ((t153.length : Int) - 1)) then (if (wrap64 ((t153.length : Int) - 1)) ≤ (t153.length : Int) then ((some (t153.take ((wrap64 ((t153.length : Int) - 1)) : Int).toNat : List ByteArray)).bind fun y156 => (impl_ParseRecord.l0 k a0 y156 (y156.length : Int) 0 ([] : List (S94)) ([] : List (S96)))) else (none)) else (none)))
theorem impl_ParseRecord.mono_l : ∀ k, (∀ y0 y1 y2 y3 y4 y5, LeO (impl_ParseRecord.l0 k y0 y1 y2 y3 y4 y5) (impl_ParseRecord.l0 (k + 1) y0 y1 y2 y3 y4 y5))
 | 0 => fun _ _ _ _ _ _ r h => by simp [impl_ParseRecord.l0] at h
 | k + 1 => by
  have ih0 := impl_ParseRecord.mono_l k
  ·intro y0 y1 y2 y3 y4 y5
   unfold impl_ParseRecord.l0
   repeat' first
   | (with_reducible exact ih0 _ _ _ _ _ _)
   | (with_reducible exact impl_ParseKind.mono _ _)
   | (with_reducible exact LeO.refl _)
   | (with_reducible exact LeO.none _)
   | (with_reducible refine LeO.ite ?_ ?_)
   | (with_reducible refine LeO.bind ?_ (fun _ => ?_))
   | exact ih0 _ _ _ _ _ _
   | exact impl_ParseKind.mono _ _
   | exact LeO.none _
   | refine LeO.ite ?_ ?_
   | refine LeO.bind ?_ (fun _ => ?_)
theorem impl_ParseRecord.mono : ∀ a0 k, LeO (impl_ParseRecord.f k a0) (impl_ParseRecord.f (k + 1) a0) := by
 intro a0 k
 have ih0 := impl_ParseRecord.mono_l k
 unfold impl_ParseRecord.f
 repeat' first
   | (with_reducible exact ih0 _ _ _ _ _ _)
   | (with_reducible exact impl_ParseKind.mono _ _)
   | (with_reducible exact LeO.refl _)
   | (with_reducible exact LeO.none _)
   | (with_reducible refine LeO.ite ?_ ?_)
   | (with_reducible refine LeO.bind ?_ (fun _ => ?_))
   | exact ih0 _ _ _ _ _ _
   | exact impl_ParseKind.mono _ _
   | exact LeO.none _
   | refine LeO.ite ?_ ?_
   | refine LeO.bind ?_ (fun _ => ?_)
set_option maxHeartbeats 8000000 in
set_option maxRecDepth 100000 in
theorem impl_ParseRecord.calls (k : Nat) (a0 : ByteArray) (r1 : List (S94)) (r2 : List (S96)) (r3 : Bool) (w : World) (h : impl_ParseRecord.f k a0 = some (r1, r2, r3)) (hwf : WF w) :
  Calls Tryd.prog 44 #[.string a0] w fun e w' => ∃ v0_ v1_ : Value, e = .returned (.tuple #[.agg #[v0_, v1_], .bool r3]) ∧ Kd.R k94 94 w' w.heap.size (fun _ => True) v0_ r1 ∧ Kd.R k96 96 w' w.heap.size (fun _ => True) v1_ r2 ∧ Below w.heap.size w w' := by
 have HWF := Aside0.mk hwf
 have hu52 := Tryd.underlying52
 have hu94 := Tryd.underlying94
 have hu96 := Tryd.underlying96
 have HB := Aside0.mk (Below.refl w.heap.size w)
 have H : (if (a0.size : Int) > 4000 then (some (([] : List (S94)), ([] : List (S96)), false)) else ((strings_Split.f a0 (⟨#[10]⟩ : ByteArray)).bind fun t153 => (if 0 ≤ (wrap64 ((t153.length : Int) - 1)) then (if (wrap64 ((t153.length : Int) - 1)) ≤ (t153.length : Int) then ((some (t153.take ((wrap64 ((t153.length : Int) - 1)) : Int).toNat : List ByteArray)).bind fun y156 => (impl_ParseRecord.l0 k a0 y156 (y156.length : Int) 0 ([] : List (S94)) ([] : List (S96)))) else (none)) else (none)))) = some (r1, r2, r3) := h
 clear h
 by_cases c2 : (a0.size : Int) > 4000
 ·rw [if_pos c2] at H
  have c2b0 : decide (4000 < (a0.size : Int)) = true := decide_eq_true c2
  have c2b1 : decide (4000 < a0.size) = true := decide_eq_true (by omega)
  clear c2
  simp only [Option.some.injEq, Prod.mk.injEq] at H
  obtain ⟨rfl, rfl, rfl⟩ := H
  go_enter Tryd.func44, Tryd.ntmps44
  go_wp2_with (first | ((with_reducible refine gate_dst (N := 2) rfl ?_); refine box_event ?hg (N := 2) ?hd (cs := #[.slice none 0 0, .slice none 0 0]) (t := 52) ?hr ?_; (case hd => rfl); (case hg => rfl); (case hr => first | (go_simp; done) | (go_simp; rfl)); intro gb151 hg w3 hbox hb; have n0_ := Aside0.mk (below_step (wz_ HB.out) hb); have n1_ := Aside0.mk (hbox); have n2_ := Aside0.mk ((by rw [hg]; exact (below_size (wz_ HB.out)) : w.heap.size ≤ gb151)); have n3_ := Aside0.mk ((by rw [hg]; exact (below_size (wz_ HB.out)) : w.heap.size ≤ gb151)); clear HB; have HB := n0_; have BK151 := n1_; have GW151 := n2_; have GE151 := n3_; clear n0_ n1_ n2_ n3_; clear hb hbox hg; have hcz4_0 : w3.cell? ⟨gb151, 0, none⟩ = some (.slice none 0 0) := (blk_cell BK151.out 0).trans rfl; have hcz4_1 : w3.cell? ⟨gb151, 1, none⟩ = some (.slice none 0 0) := (blk_cell BK151.out 1).trans rfl; have hfz4_0 := blk_frozen BK151.out 0; have hfz4_1 := blk_frozen BK151.out 1))
  refine bodyPost_ret (results_ct rfl _ _ gb151 52 #[.slice none 0 0, .slice none 0 0] (0, 0) _ rfl (by (with_reducible repeat (first | refine blk_drewN ?_ _ | refine blk_drew ?_ | refine blk_alloc ?_ _)); refine blk_put (cs := #[.slice none 0 0, .slice none 0 0]) ?_ 1 _ rfl; (with_reducible repeat (first | refine blk_drewN ?_ _ | refine blk_drew ?_ | refine blk_alloc ?_ _)); refine blk_put (cs := #[.slice none 0 0, .slice none 0 0]) ?_ 0 _ rfl; (with_reducible repeat (first | refine blk_drewN ?_ _ | refine blk_drew ?_ | refine blk_alloc ?_ _)); exact BK151.out) Tryd.underlying52 rfl (by kernel_rfl)) rfl ?_
  exact ⟨_, _, by first | rfl | (simp [errW_none, errW_some] <;> rfl) | (simp [*, errW_none, errW_some] <;> rfl), by first | exact Kd.R_nil _ _ _ _ _ | exact Kd.N_nil _ _ _ _ _ | exact Kd.V_nil _ _ _ _ _ | exact Kd.Q_nil _ _ _ _ _ | exact Kd.S_nil _ _ _ _ _, by first | exact Kd.R_nil _ _ _ _ _ | exact Kd.N_nil _ _ _ _ _ | exact Kd.V_nil _ _ _ _ _ | exact Kd.Q_nil _ _ _ _ _ | exact Kd.S_nil _ _ _ _ _, by repeat (first | (with_reducible first | exact HB.out | apply below_alloc | apply pw_below_drewN | apply below_drew1 | refine below_set ?_ GE151.out) | exact HB.out)⟩
 ·rw [if_neg c2] at H
  have c2b0 : decide (4000 < (a0.size : Int)) = false := decide_eq_false c2
  have c2b1 : decide (4000 < a0.size) = false := decide_eq_false (by omega)
  clear c2
  replace H := Option.bind_eq_some_iff.mp H
  obtain ⟨t153, A50, H⟩ := H
  replace H : (if 0 ≤ (wrap64 ((t153.length : Int) - 1)) then (if (wrap64 ((t153.length : Int) - 1)) ≤ (t153.length : Int) then ((some (t153.take ((wrap64 ((t153.length : Int) - 1)) : Int).toNat : List ByteArray)).bind fun y156 => (impl_ParseRecord.l0 k a0 y156 (y156.length : Int) 0 ([] : List (S94)) ([] : List (S96)))) else (none)) else (none)) = some (r1, r2, r3) := H
  have A5 := Aside0.mk A50
  clear A50
  obtain ⟨ji6, hji6⟩ : ∃ j_ : Int, (wrap64 ((t153.length : Int) - 1)) = j_ := ⟨_, rfl⟩
  replace H : (if 0 ≤ (ji6) then (if (ji6) ≤ (t153.length : Int) then ((some (t153.take ((ji6) : Int).toNat : List ByteArray)).bind fun y156 => (impl_ParseRecord.l0 k a0 y156 (y156.length : Int) 0 ([] : List (S94)) ([] : List (S96)))) else (none)) else (none)) = some (r1, r2, r3) := by first | (rw [hji6] at H; exact H) | (simp only [hji6] at H ⊢; exact H)
  (try rw [hji6] at A5)
  have hji6w : (IntKind.i64.wrap ((t153.length : Int) - 1)) = ji6 := (i64_w _).trans hji6
  by_cases c7 : 0 ≤ (ji6)
  ·rw [if_pos c7] at H
   have c7b0 := eq_true c7
   have c7b1 : decide (0 ≤ (ji6)) = true := decide_eq_true c7
   clear c7
   by_cases c8 : (ji6) ≤ (t153.length : Int)
   ·rw [if_pos c8] at H
    have c8b0 := eq_true c8
    have c8b1 : decide ((ji6) ≤ (t153.length : Int)) = true := decide_eq_true c8
    clear c8
    obtain ⟨y156, hy156⟩ : ∃ y_ : List ByteArray, y_ = (t153.take ((ji6) : Int).toNat) := ⟨_, rfl⟩
    replace H : (impl_ParseRecord.l0 k a0 y156 (y156.length : Int) 0 ([] : List (S94)) ([] : List (S96))) = some (r1, r2, r3) := by first | (rw [hy156]; with_reducible exact H) | (have H2_ := (Option.bind_some _ _).symm.trans H; rw [hy156]; with_reducible exact H2_) | (have H2_ := (Option.bind_some _ _).symm.trans H; with_reducible exact H2_) | with_reducible exact H | (rw [hy156]; exact H) | exact H
    have Ny156 := Aside0.mk hy156
    clear hy156
    have H' := Aside0.mk H
    clear H
    go_enter Tryd.func44, Tryd.ntmps44
    go_wp2_with (first | ((with_reducible refine gate_dst (N := 2) rfl ?_); refine box_event ?hg (N := 2) ?hd (cs := #[.slice none 0 0, .slice none 0 0]) (t := 52) ?hr ?_; (case hd => rfl); (case hg => rfl); (case hr => first | (go_simp; done) | (go_simp; rfl)); intro gb151 hg w9 hbox hb; have n0_ := Aside0.mk (below_step (wz_ HB.out) hb); have n1_ := Aside0.mk (hbox); have n2_ := Aside0.mk ((by rw [hg]; exact (below_size (wz_ HB.out)) : w.heap.size ≤ gb151)); have n3_ := Aside0.mk ((by rw [hg]; exact (below_size (wz_ HB.out)) : w.heap.size ≤ gb151)); clear HB; have HB := n0_; have BK151 := n1_; have GW151 := n2_; have GE151 := n3_; clear n0_ n1_ n2_ n3_; clear hb hbox hg) | ((with_reducible refine gate_dst (N := 4) rfl ?_); refine box_event ?hg (N := 4) ?hd (cs := #[.slice none 0 0, .slice none 0 0]) (t := 52) ?hr ?_; (case hd => rfl); (case hg => rfl); (case hr => first | (go_simp; done) | (go_simp; rfl)); intro gb152 hg w10 hbox hb; have n0_ := Aside0.mk (blk_below (bz_ BK151.out) hb); have n1_ := Aside0.mk (below_step (by repeat (first | (with_reducible first | exact HB.out | apply below_alloc | apply pw_below_drewN | apply below_drew1 | refine below_set ?_ GE151.out) | exact HB.out)) hb); have n2_ := Aside0.mk (hbox); have n3_ := Aside0.mk ((by rw [hg]; exact (below_size (by repeat (first | (with_reducible first | exact HB.out | apply below_alloc | apply pw_below_drewN | apply below_drew1 | refine below_set ?_ GE151.out) | exact HB.out))) : w.heap.size ≤ gb152)); have n4_ := Aside0.mk ((by rw [hg]; exact (below_size (by repeat (first | (with_reducible first | exact HB.out | apply below_alloc | apply pw_below_drewN | apply below_drew1 | refine below_set ?_ GE151.out) | exact HB.out))) : w.heap.size ≤ gb152)); have n5_ := Aside0.mk ((by rw [hg]; exact Nat.ne_of_lt (blk_lt (g := gb151) (o := .cells #[.slice none 0 0, .slice none 0 0] 52 (0, 0)) (bz_ BK151.out)) : gb151 ≠ gb152)); have n6_ := Aside0.mk ((by rw [hg]; exact Nat.ne_of_gt (blk_lt (g := gb151) (o := .cells #[.slice none 0 0, .slice none 0 0] 52 (0, 0)) (bz_ BK151.out)) : gb152 ≠ gb151)); clear BK151; clear HB; have BK151 := n0_; have HB := n1_; have BK152 := n2_; have GW152 := n3_; have GE152 := n4_; have NB151_152 := n5_; have NB152_151 := n6_; clear n0_ n1_ n2_ n3_ n4_ n5_ n6_; clear hb hbox hg; have hnb11 := NB152_151.out; have hnc11 := NB151_152.out; have hcz12_0 : w10.cell? ⟨gb152, 0, none⟩ = some (.slice none 0 0) := (blk_cell BK152.out 0).trans rfl; have hcz12_1 : w10.cell? ⟨gb152, 1, none⟩ = some (.slice none 0 0) := (blk_cell BK152.out 1).trans rfl; have hfz12_0 := blk_frozen BK152.out 0; have hfz12_1 := blk_frozen BK152.out 1) | ((with_reducible refine gate_callee (f := 56) rfl ?_); refine goesL_ (some 25) rfl rfl Tryd.func56 (by kernel_rfl) rfl #[.string a0, .string (⟨#[10]⟩ : ByteArray)] rfl (by (try simp only [List.map_toArray, List.map_cons, List.map_nil]); first | done | rfl | (simp only [List.length_drop, List.length_take]; rfl)) ?_; (with_reducible refine (strings_Split.calls a0 (⟨#[10]⟩ : ByteArray) t153 _ A5.out (WF.below HWF.out (by repeat (first | (with_reducible first | exact HB.out | apply below_alloc | apply pw_below_drewN | apply below_drew1 | refine below_set ?_ GE151.out | refine below_set ?_ GE152.out) | exact HB.out)))).mono ?_); rintro e w13 ⟨v154, rfl, ho0, hb⟩; refine ⟨_, rfl, ?_⟩; have n0_ := Aside0.mk (Kd.R_lower ho0 (below_size (by repeat (first | (with_reducible first | exact HB.out | apply below_alloc | apply pw_below_drewN | apply below_drew1 | refine below_set ?_ GE151.out | refine below_set ?_ GE152.out) | exact HB.out)))); have n1_ := Aside0.mk (blk_below (g := gb151) (o := .cells #[.slice none 0 0, .slice none 0 0] 52 (0, 0)) (by (with_reducible repeat (first | refine blk_drewN ?_ _ | refine blk_drew ?_ | refine blk_alloc ?_ _)); refine blk_far ?_ NB151_152.out _; (with_reducible repeat (first | refine blk_drewN ?_ _ | refine blk_drew ?_ | refine blk_alloc ?_ _)); refine blk_far ?_ NB151_152.out _; (with_reducible repeat (first | refine blk_drewN ?_ _ | refine blk_drew ?_ | refine blk_alloc ?_ _)); exact BK151.out) hb); have n2_ := Aside0.mk (blk_below (g := gb152) (o := .cells #[.slice none 0 0, .slice none 0 0] 52 (0, 0)) (by (with_reducible repeat (first | refine blk_drewN ?_ _ | refine blk_drew ?_ | refine blk_alloc ?_ _)); refine blk_put (cs := #[.slice none 0 0, .slice none 0 0]) ?_ 1 _ rfl; (with_reducible repeat (first | refine blk_drewN ?_ _ | refine blk_drew ?_ | refine blk_alloc ?_ _)); refine blk_put (cs := #[.slice none 0 0, .slice none 0 0]) ?_ 0 _ rfl; (with_reducible repeat (first | refine blk_drewN ?_ _ | refine blk_drew ?_ | refine blk_alloc ?_ _)); exact BK152.out) hb); have n3_ := Aside0.mk (below_step (by repeat (first | (with_reducible first | exact HB.out | apply below_alloc | apply pw_below_drewN | apply below_drew1 | refine below_set ?_ GE151.out | refine below_set ?_ GE152.out) | exact HB.out)) hb); clear BK151; clear BK152; clear HB; have HO155 := n0_; have BK151 := n1_; have BK152 := n2_; have HB := n3_; clear n0_ n1_ n2_ n3_; (try clear hb); (try clear hb2); (try clear hk); (try clear hi); (try clear ho0); obtain ⟨Ao14, co14, eo14⟩ := Kd.R_slice HO155.out; subst eo14; have q15 : ((ji6) : Int) ≤ ((t153.length : Int) : Int) := of_decide_eq_true (by first | (with_reducible assumption) | assumption); obtain ⟨i015, hi015, _, hsz15, _⟩ := info_parts info9; have hroom15 : t153.length ≤ co14 := (Kd.R_reads' HO155.out).2.1; have hC15 : Kd.C Kd.string _ Ao14 t153.length t153 := (Kd.R_reads' HO155.out).2.2; have hcut15 := cut_to (P := Tryd.prog) 25 9 .i64 Tryd.underlying25 hi015 Ao14 t153.length co14 (ji6) (of_decide_eq_true (by first | (with_reducible assumption) | assumption)) q15 hroom15; have hr15 := Kd.C_take (m := ((ji6) : Int).toNat) hC15 (by omega); have hy15 : y156.length = ((ji6) : Int).toNat := (by rw [Ny156.out, List.length_take]; omega); rw [← Ny156.out] at hr15; rw [← hy15] at hcut15; have HR159 := Aside0.mk hr15; have HC159 := Aside0.mk (show y156.length ≤ co14 from by omega); clear hr15 hC15 hroom15 hi015 hsz15; have KY15 := Aside0.mk hy15; clear hy15; have KL15 := Aside0.mk (show ((ji6) : Int).toNat ≤ t153.length from by omega); replace q15 := eq_true q15))
    go_loopg [32] k (fun kq v32 w' => ∃ (x32_1 : Int) (x153000_1 : List (S94)) (x153001_1 : List (S96)) (u153000 : Value) (u153001 : Value), v32 = .int .i64 x32_1 ∧ Aside0 (impl_ParseRecord.l0 kq a0 y156 (y156.length : Int) x32_1 x153000_1 x153001_1 = some (r1, r2, r3)) ∧ Aside0 (kq ≤ k) ∧ Aside0 (Kd.R k94 94 w' w.heap.size (fun _ => True) u153000 x153000_1) ∧ Aside0 (Kd.R k96 96 w' w.heap.size (fun _ => True) u153001 x153001_1) ∧ Aside0 (w'.heap[gb151]? = some (.cells #[(.slice none 0 0), (.slice none 0 0)] 52 (0, 0))) ∧ Aside0 (w'.heap[gb152]? = some (.cells #[u153000, u153001] 52 (0, 0))) ∧ Aside0 (Below w.heap.size w w') ∧ Aside0 (Kd.R Kd.string 9 w' w.heap.size (fun _ => True) (.slice Ao14 t153.length co14) t153))
    case atStart => exact ⟨(0), (([] : List (S94))), (([] : List (S96))), (.slice none 0 0), (.slice none 0 0), (by first | rfl | (simp; done) | (simp [*]; done)), H', ⟨Nat.le_refl _⟩, ⟨by first | exact Kd.R_nil _ _ _ _ _ | exact Kd.N_nil _ _ _ _ _ | exact Kd.V_nil _ _ _ _ _ | exact Kd.Q_nil _ _ _ _ _ | exact Kd.S_nil _ _ _ _ _⟩, ⟨by first | exact Kd.R_nil _ _ _ _ _ | exact Kd.N_nil _ _ _ _ _ | exact Kd.V_nil _ _ _ _ _ | exact Kd.Q_nil _ _ _ _ _ | exact Kd.S_nil _ _ _ _ _⟩, ⟨bz_ BK151.out⟩, ⟨bz_ BK152.out⟩, ⟨by repeat (first | (with_reducible first | exact HB.out | apply below_alloc | apply pw_below_drewN | apply below_drew1 | refine below_set ?_ GE151.out | refine below_set ?_ GE152.out) | exact HB.out)⟩, ⟨rz_ HO155.out⟩⟩
    case round =>
     clear H'
     try clear c1
     try clear q1
     try clear c2
     try clear c2b0
     try clear c2b1
     try clear p2
     try clear c4
     try clear c5
     try clear p6
     try clear c7
     try clear c7b0
     try clear c7b1
     try clear c8
     try clear c8b0
     try clear c8b1
     try clear c11
     try clear q15
     try clear hcz12_0
     try clear hcz12_1
     try clear hcz4_0
     try clear hcz4_1
     try clear hfz12_0
     try clear hfz12_1
     try clear hfz4_0
     try clear hfz4_1
     try clear q15
     obtain ⟨x32_1, x153000_1, x153001_1, u153000, u153001, rfl, HA, HK1, HO_153000, HO_153001, BK151, BK152, HB, HOL⟩ := hrel
     cases gk with
     | zero => exact absurd HA.out (by simp [impl_ParseRecord.l0])
     | succ k1 =>
      have H := HA.out
      clear HA
      simp only [impl_ParseRecord.l0] at H
      by_cases c16 : x32_1 < (y156.length : Int)
      ·rw [if_pos c16] at H
       have c16b0 : decide (x32_1 < (y156.length : Int)) = true := decide_eq_true c16
       clear c16
       by_cases c17 : 0 ≤ x32_1
       ·rw [if_pos c17] at H
        have c17b0 : decide (0 ≤ x32_1) = true := decide_eq_true c17
        clear c17
        by_cases c18 : x32_1 < (y156.length : Int)
        ·rw [if_pos c18] at H
         have c18b0 : decide (x32_1 < (y156.length : Int)) = true := decide_eq_true c18
         clear c18
         replace H := Option.bind_eq_some_iff.mp H
         obtain ⟨t163, A190, H⟩ := H
         replace H : (if (t163.length : Int) = 3 then (if 0 < (t163.length : Int) then (if (rdOf ByteArray.empty t163 0).toList = ([99, 111, 110, 116, 101, 120, 116] : List UInt8) then (if 1 < (t163.length : Int) then ((impl_ParseInt.f (rdOf ByteArray.empty t163 1)).bind fun bt168 => (if 2 < (t163.length : Int) then ((impl_ParseKind.f k1 (rdOf ByteArray.empty t163 2)).bind fun bt171 => (if x153000_1.length < 8796093022208 then (impl_ParseRecord.l0 k1 a0 y156 (y156.length : Int) (wrap64 (x32_1 + 1)) (x153000_1 ++ [(⟨bt168.1, bt171.1⟩ : S94)]) x153001_1) else (none))) else (none))) else (none)) else ((impl_ParseInt.f (rdOf ByteArray.empty t163 0)).bind fun bt177 => (if 2 < (t163.length : Int) then ((impl_ParseInt.f (rdOf ByteArray.empty t163 2)).bind fun bt180 => (if x153001_1.length < 8796093022208 then (impl_ParseRecord.l0 k1 a0 y156 (y156.length : Int) (wrap64 (x32_1 + 1)) x153000_1 (x153001_1 ++ [(⟨bt177.1, bt180.1⟩ : S96)])) else (none))) else (none)))) else (none)) else (some (([] : List (S94)), ([] : List (S96)), false))) = some (r1, r2, r3) := H
         have A19 := Aside0.mk A190
         clear A190
         by_cases c20 : (t163.length : Int) = 3
         ·rw [if_pos c20] at H
          have c20b0 : ((t163.length : Int) == 3) = true := beq_iff_eq.mpr c20
          have c20b1 : ((t163.length : Int) != 3) = false := bne_eq_false_iff_eq.mpr c20
          clear c20
          by_cases c21 : 0 < (t163.length : Int)
          ·rw [if_pos c21] at H
           have c21b0 : decide (0 < (t163.length : Int)) = true := decide_eq_true c21
           have c21b1 : decide (0 < t163.length) = true := decide_eq_true (by omega)
           clear c21
           by_cases c22 : (rdOf ByteArray.empty t163 0).toList = ([99, 111, 110, 116, 101, 120, 116] : List UInt8)
           ·rw [if_pos c22] at H
            have c22b0 : ((rdOf ByteArray.empty t163 0).toList == ([99, 111, 110, 116, 101, 120, 116] : List UInt8)) = true := beq_iff_eq.mpr c22
            have c22b1 : ((rdOf ByteArray.empty t163 0).toList != ([99, 111, 110, 116, 101, 120, 116] : List UInt8)) = false := bne_eq_false_iff_eq.mpr c22
            clear c22
            by_cases c23 : 1 < (t163.length : Int)
            ·rw [if_pos c23] at H
             have c23b0 : decide (1 < (t163.length : Int)) = true := decide_eq_true c23
             have c23b1 : decide (1 < t163.length) = true := decide_eq_true (by omega)
             clear c23
             replace H := Option.bind_eq_some_iff.mp H
             obtain ⟨⟨t168, t169⟩, A240, H⟩ := H
             replace H : (if 2 < (t163.length : Int) then ((impl_ParseKind.f k1 (rdOf ByteArray.empty t163 2)).bind fun bt171 => (if x153000_1.length < 8796093022208 then (impl_ParseRecord.l0 k1 a0 y156 (y156.length : Int) (wrap64 (x32_1 + 1)) (x153000_1 ++ [(⟨t168, bt171.1⟩ : S94)]) x153001_1) else (none))) else (none)) = some (r1, r2, r3) := H
             have A24 := Aside0.mk A240
             clear A240
             by_cases c25 : 2 < (t163.length : Int)
             ·rw [if_pos c25] at H
              have c25b0 : decide (2 < (t163.length : Int)) = true := decide_eq_true c25
              have c25b1 : decide (2 < t163.length) = true := decide_eq_true (by omega)
              clear c25
              replace H := Option.bind_eq_some_iff.mp H
              obtain ⟨⟨t171, t172⟩, A260, H⟩ := H
              replace H : (if x153000_1.length < 8796093022208 then (impl_ParseRecord.l0 k1 a0 y156 (y156.length : Int) (wrap64 (x32_1 + 1)) (x153000_1 ++ [(⟨t168, t171⟩ : S94)]) x153001_1) else (none)) = some (r1, r2, r3) := H
              have A26 := Aside0.mk A260
              clear A260
              by_cases c27 : x153000_1.length < 8796093022208
              ·rw [if_pos c27] at H
               have LMc27 := Aside0.mk c27
               clear c27
               obtain ⟨y173, hy173⟩ : ∃ y_ : List (S94), y_ = (x153000_1 ++ [(⟨t168, t171⟩ : S94)]) := ⟨_, rfl⟩
               replace H : (impl_ParseRecord.l0 k1 a0 y156 (y156.length : Int) (wrap64 (x32_1 + 1)) y173 x153001_1) = some (r1, r2, r3) := by first | (rw [hy173]; with_reducible exact H) | (have H2_ := (Option.bind_some _ _).symm.trans H; rw [hy173]; with_reducible exact H2_) | (have H2_ := (Option.bind_some _ _).symm.trans H; with_reducible exact H2_) | with_reducible exact H | (rw [hy173]; exact H) | exact H
               have Ny173 := Aside0.mk hy173
               clear hy173
               have H' := Aside0.mk H
               clear H
               have p162 : 0 ≤ (x32_1 : Int) := of_decide_eq_true (by first | (with_reducible assumption) | assumption)
               have q162 : x32_1 < (y156.length : Int) := of_decide_eq_true (by first | (with_reducible assumption) | assumption)
               have hyl_ : y156.length ≤ t153.length := by rw [Ny156.out, List.length_take]; omega
               obtain ⟨ad162, e162, hx162_0⟩ := Kd.at_string (Kd.R_reads' HOL.out).2.2 x32_1 p162 (by omega)
               rw [← rdOf_taken y156 t153 _ x32_1 Ny156.out p162 q162] at hx162_0
               clear hyl_
               cases e162

               replace p162 := eq_true p162
               replace q162 := eq_true q162
               go_wp2_with (first | ((with_reducible refine gate_callee (f := 56) rfl ?_); refine goesL_ (some 37) rfl rfl Tryd.func56 (by kernel_rfl) rfl #[.string (rdOf ByteArray.empty y156 x32_1), .string (⟨#[32]⟩ : ByteArray)] rfl (by (try simp only [List.map_toArray, List.map_cons, List.map_nil]); first | done | rfl | (simp only [List.length_drop, List.length_take]; rfl)) ?_; (with_reducible refine (strings_Split.calls (rdOf ByteArray.empty y156 x32_1) (⟨#[32]⟩ : ByteArray) t163 _ A19.out (WF.below HWF.out (by repeat (first | (with_reducible first | exact HB.out | apply below_alloc | apply pw_below_drewN | apply below_drew1 | refine below_set ?_ GE151.out | refine below_set ?_ GE152.out) | exact HB.out)))).mono ?_); rintro e w28 ⟨v164, rfl, ho0, hb⟩; refine ⟨_, rfl, ?_⟩; have HOL_ := Aside0.mk (Kd.R_below (rz_ HOL.out) hb); clear HOL; have HOL := HOL_; clear HOL_; have n0_ := Aside0.mk (Kd.R_below (rz_ HO_153000.out) hb); have n1_ := Aside0.mk (Kd.R_below (rz_ HO_153001.out) hb); have n2_ := Aside0.mk (Kd.R_lower ho0 (below_size (by repeat (first | (with_reducible first | exact HB.out | apply below_alloc | apply pw_below_drewN | apply below_drew1 | refine below_set ?_ GE151.out | refine below_set ?_ GE152.out) | exact HB.out)))); have n3_ := Aside0.mk (blk_below (bz_ BK151.out) hb); have n4_ := Aside0.mk (blk_below (bz_ BK152.out) hb); have n5_ := Aside0.mk (below_step (by repeat (first | (with_reducible first | exact HB.out | apply below_alloc | apply pw_below_drewN | apply below_drew1 | refine below_set ?_ GE151.out | refine below_set ?_ GE152.out) | exact HB.out)) hb); clear HO_153000; clear HO_153001; clear BK151; clear BK152; clear HB; have HO_153000 := n0_; have HO_153001 := n1_; have HO165 := n2_; have BK151 := n3_; have BK152 := n4_; have HB := n5_; clear n0_ n1_ n2_ n3_ n4_ n5_; (try clear hb); (try clear hb2); (try clear hk); (try clear hi); (try clear ho0); obtain ⟨Ao29, co29, eo29⟩ := Kd.R_slice HO165.out; subst eo29; have p166 : 0 ≤ (0 : Int) := (by omega); have q166 : 0 < (t163.length : Int) := of_decide_eq_true (by first | (with_reducible assumption) | assumption); obtain ⟨ad166, e166, hx166_0⟩ := Kd.at_string (Kd.R_reads' HO165.out).2.2 0 p166 q166; cases e166; have qi166 : (0 < t163.length) = True := eq_true (by omega); (try rw [show ((0 : Int)).toNat = 0 from rfl] at hx166_0); (try rw [Addr.add_zero'] at hx166_0); replace p166 := eq_true p166; replace q166 := eq_true q166; have p167 : 0 ≤ (1 : Int) := (by omega); have q167 : 1 < (t163.length : Int) := of_decide_eq_true (by first | (with_reducible assumption) | assumption); obtain ⟨ad167, e167, hx167_0⟩ := Kd.at_string (Kd.R_reads' HO165.out).2.2 1 p167 q167; obtain rfl : ad166 = ad167 := (by injection e167); (try simp only [show (1 : Int).toNat = 1 from rfl, Nat.reduceMul, Nat.reduceEqDiff, Go.Addr.add, ↓reduceIte] at hx167_0); have qi167 : (1 < t163.length) = True := eq_true (by omega); (try rw [show ((1 : Int)).toNat = 1 from rfl] at hx167_0); replace p167 := eq_true p167; replace q167 := eq_true q167) | ((with_reducible refine gate_callee (f := 30) rfl ?_); refine goesL_ (some 50) rfl rfl Tryd.func30 (by kernel_rfl) rfl #[.string (rdOf ByteArray.empty t163 1)] rfl (by (try simp only [List.map_toArray, List.map_cons, List.map_nil]); first | done | rfl | (simp only [List.length_drop, List.length_take]; rfl)) ?_; (with_reducible refine (impl_ParseInt.calls (rdOf ByteArray.empty t163 1) t168 t169 _ A24.out (WF.below HWF.out (by repeat (first | (with_reducible first | exact HB.out | apply below_alloc | apply pw_below_drewN | apply below_drew1 | refine below_set ?_ GE151.out | refine below_set ?_ GE152.out) | exact HB.out)))).mono ?_); rintro e w30 ⟨rfl, hb⟩; refine ⟨_, rfl, ?_⟩; have HOL_ := Aside0.mk (Kd.R_below (rz_ HOL.out) hb); clear HOL; have HOL := HOL_; clear HOL_; have n0_ := Aside0.mk (Kd.R_below (rz_ HO_153000.out) hb); have n1_ := Aside0.mk (Kd.R_below (rz_ HO_153001.out) hb); have n2_ := Aside0.mk (Kd.R_below (rz_ HO165.out) hb); have n3_ := Aside0.mk (blk_below (bz_ BK151.out) hb); have n4_ := Aside0.mk (blk_below (bz_ BK152.out) hb); have n5_ := Aside0.mk (below_step (by repeat (first | (with_reducible first | exact HB.out | apply below_alloc | apply pw_below_drewN | apply below_drew1 | refine below_set ?_ GE151.out | refine below_set ?_ GE152.out) | exact HB.out)) hb); clear HO_153000; clear HO_153001; clear HO165; clear BK151; clear BK152; clear HB; have HO_153000 := n0_; have HO_153001 := n1_; have HO165 := n2_; have BK151 := n3_; have BK152 := n4_; have HB := n5_; clear n0_ n1_ n2_ n3_ n4_ n5_; (try clear hb); (try clear hb2); (try clear hk); (try clear hi); have p170 : 0 ≤ (2 : Int) := (by omega); have q170 : 2 < (t163.length : Int) := of_decide_eq_true (by first | (with_reducible assumption) | assumption); obtain ⟨ad170, e170, hx170_0⟩ := Kd.at_string (Kd.R_reads' HO165.out).2.2 2 p170 q170; obtain rfl : ad166 = ad170 := (by injection e170); (try simp only [show (2 : Int).toNat = 2 from rfl, Nat.reduceMul, Nat.reduceEqDiff, Go.Addr.add, ↓reduceIte] at hx170_0); have qi170 : (2 < t163.length) = True := eq_true (by omega); (try rw [show ((2 : Int)).toNat = 2 from rfl] at hx170_0); replace p170 := eq_true p170; replace q170 := eq_true q170) | ((with_reducible refine gate_callee (f := 92) rfl ?_); refine goesL_ (some 57) rfl rfl Tryd.func92 (by kernel_rfl) rfl #[.string (rdOf ByteArray.empty t163 2)] rfl (by (try simp only [List.map_toArray, List.map_cons, List.map_nil]); first | done | rfl | (simp only [List.length_drop, List.length_take]; rfl)) ?_; (with_reducible refine (impl_ParseKind.calls k1 (rdOf ByteArray.empty t163 2) t171 t172 _ A26.out).mono ?_); rintro e w31 ⟨rfl, hb⟩; refine ⟨_, rfl, ?_⟩; have HOL_ := Aside0.mk (Kd.R_below (rz_ HOL.out) hb); clear HOL; have HOL := HOL_; clear HOL_; have n0_ := Aside0.mk (Kd.R_below (rz_ HO_153000.out) hb); have n1_ := Aside0.mk (Kd.R_below (rz_ HO_153001.out) hb); have n2_ := Aside0.mk (Kd.R_below (rz_ HO165.out) hb); have n3_ := Aside0.mk (blk_below (bz_ BK151.out) hb); have n4_ := Aside0.mk (blk_below (bz_ BK152.out) hb); have n5_ := Aside0.mk (below_step (by repeat (first | (with_reducible first | exact HB.out | apply below_alloc | apply pw_below_drewN | apply below_drew1 | refine below_set ?_ GE151.out | refine below_set ?_ GE152.out) | exact HB.out)) hb); clear HO_153000; clear HO_153001; clear HO165; clear BK151; clear BK152; clear HB; have HO_153000 := n0_; have HO_153001 := n1_; have HO165 := n2_; have BK151 := n3_; have BK152 := n4_; have HB := n5_; clear n0_ n1_ n2_ n3_ n4_ n5_; (try clear hb); (try clear hb2); (try clear hk); (try clear hi); have hnb32 := NB152_151.out; have hnc32 := NB151_152.out; have hcz33_0 : w31.cell? ⟨gb152, 0, none⟩ = some (u153000) := (blk_cell BK152.out 0).trans rfl; have hcz33_1 : w31.cell? ⟨gb152, 1, none⟩ = some (u153001) := (blk_cell BK152.out 1).trans rfl; have hfz33_0 := blk_frozen BK152.out 0; have hfz33_1 := blk_frozen BK152.out 1) | ((with_reducible refine gate_builtin (b := .append) (xs := #[.tmp 61, .tmp 65]) rfl ?_); at_builtin; refine Kd.R_append k94 (w0 := w) w.heap.size rfl (.tmp 61) (.tmp 65) 49 94 (.agg #[(.int .i64 0), (.int .i64 0)]) 16 rfl Tryd.underlying49 info94 rfl (by decide) (by omega) u153000 x153000_1 (⟨t168, t171⟩ : S94) [.int .i64 t168, .int .i64 t171] (fun _ => True) (fun _ => False) rfl rfl ?aP (fun _ hk => hk.elim) ?aF ?aO ?aB ?aS ?aL ?_; (case aP => exact k94_mkM _ _ _ (⟨t168, t171⟩ : S94)); (case aB => exact (by repeat (first | (with_reducible first | exact HB.out | apply below_alloc | apply pw_below_drewN | apply below_drew1 | refine below_set ?_ GE151.out | refine below_set ?_ GE152.out) | exact HB.out))); (case aF => exact (fun _ _ => trivial)); (case aO => exact (rz_ HO_153000.out)); (case aS => exact (below_size (by repeat (first | (with_reducible first | exact HB.out | apply below_alloc | apply pw_below_drewN | apply below_drew1 | refine below_set ?_ GE151.out | refine below_set ?_ GE152.out) | exact HB.out)))); (case aL => have := LMc27.out; omega); intro v174 w34 ho hb hg hat; have HOL_ := Aside0.mk (Kd.R_over' (rz_ HOL.out) (Kd.R_typed (rz_ HO_153000.out)) (by decide) hg); clear HOL; have HOL := HOL_; clear HOL_; rw [← Ny173.out] at ho; have n0_ := Aside0.mk (Kd.R_over' (rz_ HO_153001.out) (Kd.R_typed (rz_ HO_153000.out)) (by decide) hg); have n1_ := Aside0.mk (blk_grown (g := gb151) (o := .cells #[.slice none 0 0, .slice none 0 0] 52 (0, 0)) (bz_ BK151.out) hg (Kd.R_ne HO_153000.out BK151.out (by decide))); have n2_ := Aside0.mk (blk_grown (g := gb152) (o := .cells #[u153000, u153001] 52 (0, 0)) (bz_ BK152.out) hg (Kd.R_ne HO_153000.out BK152.out (by decide))); have n3_ := Aside0.mk (Kd.R_over' (rz_ HO165.out) (Kd.R_typed (rz_ HO_153000.out)) (by decide) hg); have n4_ := Aside0.mk (hb); have n5_ := Aside0.mk (ho); clear HO_153001; clear BK151; clear BK152; clear HO165; clear HB; clear HO_153000; have HO_153001 := n0_; have BK151 := n1_; have BK152 := n2_; have HO165 := n3_; have HB := n4_; have HO175 := n5_; clear n0_ n1_ n2_ n3_ n4_ n5_; clear ho hb hg hat; obtain ⟨Ao35, co35, eo35⟩ := Kd.R_slice HO175.out; subst eo35; have hcz36_0 : w34.cell? ⟨gb152, 0, none⟩ = some (u153000) := (blk_cell BK152.out 0).trans rfl; have hcz36_1 : w34.cell? ⟨gb152, 1, none⟩ = some (u153001) := (blk_cell BK152.out 1).trans rfl; have hfz36_0 := blk_frozen BK152.out 0; have hfz36_1 := blk_frozen BK152.out 1))
               go_roundg k1
               case measure => have := HK1.out; omega
               case rel => exact ⟨(wrap64 (x32_1 + 1)), (y173), (x153001_1), (.slice Ao35 y173.length co35), (u153001), (by first | rfl | (simp; done) | (simp [*]; done)), H', ⟨by have := HK1.out; omega⟩, ⟨rz_ (Kd.R_mono (Kd.R_far (p := ⟨gb152, 0, none⟩) (Kd.R_types HO175.out BK152.out (by decide)) (fun _ hk => hk.2) (.slice Ao35 y173.length co35)) (fun _ hk => trivial))⟩, ⟨rz_ (Kd.R_mono (Kd.R_far (p := ⟨gb152, 0, none⟩) (Kd.R_types HO_153001.out BK152.out (by decide)) (fun _ hk => hk.2) (.slice Ao35 y173.length co35)) (fun _ hk => trivial))⟩, ⟨by (with_reducible repeat (first | refine blk_drewN ?_ _ | refine blk_drew ?_ | refine blk_alloc ?_ _)); refine blk_far ?_ NB151_152.out _; (with_reducible repeat (first | refine blk_drewN ?_ _ | refine blk_drew ?_ | refine blk_alloc ?_ _)); exact BK151.out⟩, ⟨by (with_reducible repeat (first | refine blk_drewN ?_ _ | refine blk_drew ?_ | refine blk_alloc ?_ _)); refine blk_put (cs := #[u153000, u153001]) ?_ 0 _ rfl; (with_reducible repeat (first | refine blk_drewN ?_ _ | refine blk_drew ?_ | refine blk_alloc ?_ _)); exact BK152.out⟩, ⟨by repeat (first | (with_reducible first | exact HB.out | apply below_alloc | apply pw_below_drewN | apply below_drew1 | refine below_set ?_ GE151.out | refine below_set ?_ GE152.out) | exact HB.out)⟩, ⟨rz_ (Kd.R_mono (Kd.R_far (p := ⟨gb152, 0, none⟩) (Kd.R_types HOL.out BK152.out (by decide)) (fun _ hk => hk.2) (.slice Ao35 y173.length co35)) (fun _ hk => trivial))⟩⟩
              ·rw [if_neg c27] at H
               exact absurd H (by simp)
             ·rw [if_neg c25] at H
              exact absurd H (by simp)
            ·rw [if_neg c23] at H
             exact absurd H (by simp)
           ·rw [if_neg c22] at H
            have c22b0 : ((rdOf ByteArray.empty t163 0).toList == ([99, 111, 110, 116, 101, 120, 116] : List UInt8)) = false := beq_eq_false_iff_ne.mpr c22
            have c22b1 : ((rdOf ByteArray.empty t163 0).toList != ([99, 111, 110, 116, 101, 120, 116] : List UInt8)) = true := bne_iff_ne.mpr c22
            replace H := Option.bind_eq_some_iff.mp H
            obtain ⟨⟨t177, t178⟩, A370, H⟩ := H
            replace H : (if 2 < (t163.length : Int) then ((impl_ParseInt.f (rdOf ByteArray.empty t163 2)).bind fun bt180 => (if x153001_1.length < 8796093022208 then (impl_ParseRecord.l0 k1 a0 y156 (y156.length : Int) (wrap64 (x32_1 + 1)) x153000_1 (x153001_1 ++ [(⟨t177, bt180.1⟩ : S96)])) else (none))) else (none)) = some (r1, r2, r3) := H
            have A37 := Aside0.mk A370
            clear A370
            by_cases c38 : 2 < (t163.length : Int)
            ·rw [if_pos c38] at H
             have c38b0 : decide (2 < (t163.length : Int)) = true := decide_eq_true c38
             have c38b1 : decide (2 < t163.length) = true := decide_eq_true (by omega)
             clear c38
             replace H := Option.bind_eq_some_iff.mp H
             obtain ⟨⟨t180, t181⟩, A390, H⟩ := H
             replace H : (if x153001_1.length < 8796093022208 then (impl_ParseRecord.l0 k1 a0 y156 (y156.length : Int) (wrap64 (x32_1 + 1)) x153000_1 (x153001_1 ++ [(⟨t177, t180⟩ : S96)])) else (none)) = some (r1, r2, r3) := H
             have A39 := Aside0.mk A390
             clear A390
             by_cases c40 : x153001_1.length < 8796093022208
             ·rw [if_pos c40] at H
              have LMc40 := Aside0.mk c40
              clear c40
              obtain ⟨y182, hy182⟩ : ∃ y_ : List (S96), y_ = (x153001_1 ++ [(⟨t177, t180⟩ : S96)]) := ⟨_, rfl⟩
              replace H : (impl_ParseRecord.l0 k1 a0 y156 (y156.length : Int) (wrap64 (x32_1 + 1)) x153000_1 y182) = some (r1, r2, r3) := by first | (rw [hy182]; with_reducible exact H) | (have H2_ := (Option.bind_some _ _).symm.trans H; rw [hy182]; with_reducible exact H2_) | (have H2_ := (Option.bind_some _ _).symm.trans H; with_reducible exact H2_) | with_reducible exact H | (rw [hy182]; exact H) | exact H
              have Ny182 := Aside0.mk hy182
              clear hy182
              have H' := Aside0.mk H
              clear H
              have p162 : 0 ≤ (x32_1 : Int) := of_decide_eq_true (by first | (with_reducible assumption) | assumption)
              have q162 : x32_1 < (y156.length : Int) := of_decide_eq_true (by first | (with_reducible assumption) | assumption)
              have hyl_ : y156.length ≤ t153.length := by rw [Ny156.out, List.length_take]; omega
              obtain ⟨ad162, e162, hx162_0⟩ := Kd.at_string (Kd.R_reads' HOL.out).2.2 x32_1 p162 (by omega)
              rw [← rdOf_taken y156 t153 _ x32_1 Ny156.out p162 q162] at hx162_0
              clear hyl_
              cases e162

              replace p162 := eq_true p162
              replace q162 := eq_true q162
              go_wp2_with (first | ((with_reducible refine gate_callee (f := 56) rfl ?_); refine goesL_ (some 37) rfl rfl Tryd.func56 (by kernel_rfl) rfl #[.string (rdOf ByteArray.empty y156 x32_1), .string (⟨#[32]⟩ : ByteArray)] rfl (by (try simp only [List.map_toArray, List.map_cons, List.map_nil]); first | done | rfl | (simp only [List.length_drop, List.length_take]; rfl)) ?_; (with_reducible refine (strings_Split.calls (rdOf ByteArray.empty y156 x32_1) (⟨#[32]⟩ : ByteArray) t163 _ A19.out (WF.below HWF.out (by repeat (first | (with_reducible first | exact HB.out | apply below_alloc | apply pw_below_drewN | apply below_drew1 | refine below_set ?_ GE151.out | refine below_set ?_ GE152.out) | exact HB.out)))).mono ?_); rintro e w41 ⟨v164, rfl, ho0, hb⟩; refine ⟨_, rfl, ?_⟩; have HOL_ := Aside0.mk (Kd.R_below (rz_ HOL.out) hb); clear HOL; have HOL := HOL_; clear HOL_; have n0_ := Aside0.mk (Kd.R_below (rz_ HO_153000.out) hb); have n1_ := Aside0.mk (Kd.R_below (rz_ HO_153001.out) hb); have n2_ := Aside0.mk (Kd.R_lower ho0 (below_size (by repeat (first | (with_reducible first | exact HB.out | apply below_alloc | apply pw_below_drewN | apply below_drew1 | refine below_set ?_ GE151.out | refine below_set ?_ GE152.out) | exact HB.out)))); have n3_ := Aside0.mk (blk_below (bz_ BK151.out) hb); have n4_ := Aside0.mk (blk_below (bz_ BK152.out) hb); have n5_ := Aside0.mk (below_step (by repeat (first | (with_reducible first | exact HB.out | apply below_alloc | apply pw_below_drewN | apply below_drew1 | refine below_set ?_ GE151.out | refine below_set ?_ GE152.out) | exact HB.out)) hb); clear HO_153000; clear HO_153001; clear BK151; clear BK152; clear HB; have HO_153000 := n0_; have HO_153001 := n1_; have HO165 := n2_; have BK151 := n3_; have BK152 := n4_; have HB := n5_; clear n0_ n1_ n2_ n3_ n4_ n5_; (try clear hb); (try clear hb2); (try clear hk); (try clear hi); (try clear ho0); obtain ⟨Ao42, co42, eo42⟩ := Kd.R_slice HO165.out; subst eo42; have p166 : 0 ≤ (0 : Int) := (by omega); have q166 : 0 < (t163.length : Int) := of_decide_eq_true (by first | (with_reducible assumption) | assumption); obtain ⟨ad166, e166, hx166_0⟩ := Kd.at_string (Kd.R_reads' HO165.out).2.2 0 p166 q166; cases e166; have qi166 : (0 < t163.length) = True := eq_true (by omega); (try rw [show ((0 : Int)).toNat = 0 from rfl] at hx166_0); (try rw [Addr.add_zero'] at hx166_0); replace p166 := eq_true p166; replace q166 := eq_true q166; have p176 : 0 ≤ (0 : Int) := (by omega); have q176 : 0 < (t163.length : Int) := of_decide_eq_true (by first | (with_reducible assumption) | assumption); obtain ⟨ad176, e176, hx176_0⟩ := Kd.at_string (Kd.R_reads' HO165.out).2.2 0 p176 q176; obtain rfl : ad166 = ad176 := (by injection e176); have qi176 : (0 < t163.length) = True := eq_true (by omega); (try rw [show ((0 : Int)).toNat = 0 from rfl] at hx176_0); (try rw [Addr.add_zero'] at hx176_0); replace p176 := eq_true p176; replace q176 := eq_true q176) | ((with_reducible refine gate_callee (f := 30) rfl ?_); refine goesL_ (some 72) rfl rfl Tryd.func30 (by kernel_rfl) rfl #[.string (rdOf ByteArray.empty t163 0)] rfl (by (try simp only [List.map_toArray, List.map_cons, List.map_nil]); first | done | rfl | (simp only [List.length_drop, List.length_take]; rfl)) ?_; (with_reducible refine (impl_ParseInt.calls (rdOf ByteArray.empty t163 0) t177 t178 _ A37.out (WF.below HWF.out (by repeat (first | (with_reducible first | exact HB.out | apply below_alloc | apply pw_below_drewN | apply below_drew1 | refine below_set ?_ GE151.out | refine below_set ?_ GE152.out) | exact HB.out)))).mono ?_); rintro e w43 ⟨rfl, hb⟩; refine ⟨_, rfl, ?_⟩; have HOL_ := Aside0.mk (Kd.R_below (rz_ HOL.out) hb); clear HOL; have HOL := HOL_; clear HOL_; have n0_ := Aside0.mk (Kd.R_below (rz_ HO_153000.out) hb); have n1_ := Aside0.mk (Kd.R_below (rz_ HO_153001.out) hb); have n2_ := Aside0.mk (Kd.R_below (rz_ HO165.out) hb); have n3_ := Aside0.mk (blk_below (bz_ BK151.out) hb); have n4_ := Aside0.mk (blk_below (bz_ BK152.out) hb); have n5_ := Aside0.mk (below_step (by repeat (first | (with_reducible first | exact HB.out | apply below_alloc | apply pw_below_drewN | apply below_drew1 | refine below_set ?_ GE151.out | refine below_set ?_ GE152.out) | exact HB.out)) hb); clear HO_153000; clear HO_153001; clear HO165; clear BK151; clear BK152; clear HB; have HO_153000 := n0_; have HO_153001 := n1_; have HO165 := n2_; have BK151 := n3_; have BK152 := n4_; have HB := n5_; clear n0_ n1_ n2_ n3_ n4_ n5_; (try clear hb); (try clear hb2); (try clear hk); (try clear hi); have p179 : 0 ≤ (2 : Int) := (by omega); have q179 : 2 < (t163.length : Int) := of_decide_eq_true (by first | (with_reducible assumption) | assumption); obtain ⟨ad179, e179, hx179_0⟩ := Kd.at_string (Kd.R_reads' HO165.out).2.2 2 p179 q179; obtain rfl : ad166 = ad179 := (by injection e179); (try simp only [show (2 : Int).toNat = 2 from rfl, Nat.reduceMul, Nat.reduceEqDiff, Go.Addr.add, ↓reduceIte] at hx179_0); have qi179 : (2 < t163.length) = True := eq_true (by omega); (try rw [show ((2 : Int)).toNat = 2 from rfl] at hx179_0); replace p179 := eq_true p179; replace q179 := eq_true q179) | ((with_reducible refine gate_callee (f := 30) rfl ?_); refine goesL_ (some 79) rfl rfl Tryd.func30 (by kernel_rfl) rfl #[.string (rdOf ByteArray.empty t163 2)] rfl (by (try simp only [List.map_toArray, List.map_cons, List.map_nil]); first | done | rfl | (simp only [List.length_drop, List.length_take]; rfl)) ?_; (with_reducible refine (impl_ParseInt.calls (rdOf ByteArray.empty t163 2) t180 t181 _ A39.out (WF.below HWF.out (by repeat (first | (with_reducible first | exact HB.out | apply below_alloc | apply pw_below_drewN | apply below_drew1 | refine below_set ?_ GE151.out | refine below_set ?_ GE152.out) | exact HB.out)))).mono ?_); rintro e w44 ⟨rfl, hb⟩; refine ⟨_, rfl, ?_⟩; have HOL_ := Aside0.mk (Kd.R_below (rz_ HOL.out) hb); clear HOL; have HOL := HOL_; clear HOL_; have n0_ := Aside0.mk (Kd.R_below (rz_ HO_153000.out) hb); have n1_ := Aside0.mk (Kd.R_below (rz_ HO_153001.out) hb); have n2_ := Aside0.mk (Kd.R_below (rz_ HO165.out) hb); have n3_ := Aside0.mk (blk_below (bz_ BK151.out) hb); have n4_ := Aside0.mk (blk_below (bz_ BK152.out) hb); have n5_ := Aside0.mk (below_step (by repeat (first | (with_reducible first | exact HB.out | apply below_alloc | apply pw_below_drewN | apply below_drew1 | refine below_set ?_ GE151.out | refine below_set ?_ GE152.out) | exact HB.out)) hb); clear HO_153000; clear HO_153001; clear HO165; clear BK151; clear BK152; clear HB; have HO_153000 := n0_; have HO_153001 := n1_; have HO165 := n2_; have BK151 := n3_; have BK152 := n4_; have HB := n5_; clear n0_ n1_ n2_ n3_ n4_ n5_; (try clear hb); (try clear hb2); (try clear hk); (try clear hi); have hnb45 := NB152_151.out; have hnc45 := NB151_152.out; have hcz46_0 : w44.cell? ⟨gb152, 0, none⟩ = some (u153000) := (blk_cell BK152.out 0).trans rfl; have hcz46_1 : w44.cell? ⟨gb152, 1, none⟩ = some (u153001) := (blk_cell BK152.out 1).trans rfl; have hfz46_0 := blk_frozen BK152.out 0; have hfz46_1 := blk_frozen BK152.out 1) | ((with_reducible refine gate_builtin (b := .append) (xs := #[.tmp 83, .tmp 87]) rfl ?_); at_builtin; refine Kd.R_append k96 (w0 := w) w.heap.size rfl (.tmp 83) (.tmp 87) 50 96 (.agg #[(.int .i64 0), (.int .i64 0)]) 16 rfl Tryd.underlying50 info96 rfl (by decide) (by omega) u153001 x153001_1 (⟨t177, t180⟩ : S96) [.int .i64 t177, .int .i64 t180] (fun _ => True) (fun _ => False) rfl rfl ?aP (fun _ hk => hk.elim) ?aF ?aO ?aB ?aS ?aL ?_; (case aP => exact k96_mkM _ _ _ (⟨t177, t180⟩ : S96)); (case aB => exact (by repeat (first | (with_reducible first | exact HB.out | apply below_alloc | apply pw_below_drewN | apply below_drew1 | refine below_set ?_ GE151.out | refine below_set ?_ GE152.out) | exact HB.out))); (case aF => exact (fun _ _ => trivial)); (case aO => exact (rz_ HO_153001.out)); (case aS => exact (below_size (by repeat (first | (with_reducible first | exact HB.out | apply below_alloc | apply pw_below_drewN | apply below_drew1 | refine below_set ?_ GE151.out | refine below_set ?_ GE152.out) | exact HB.out)))); (case aL => have := LMc40.out; omega); intro v183 w47 ho hb hg hat; have HOL_ := Aside0.mk (Kd.R_over' (rz_ HOL.out) (Kd.R_typed (rz_ HO_153001.out)) (by decide) hg); clear HOL; have HOL := HOL_; clear HOL_; rw [← Ny182.out] at ho; have n0_ := Aside0.mk (Kd.R_over' (rz_ HO_153000.out) (Kd.R_typed (rz_ HO_153001.out)) (by decide) hg); have n1_ := Aside0.mk (blk_grown (g := gb151) (o := .cells #[.slice none 0 0, .slice none 0 0] 52 (0, 0)) (bz_ BK151.out) hg (Kd.R_ne HO_153001.out BK151.out (by decide))); have n2_ := Aside0.mk (blk_grown (g := gb152) (o := .cells #[u153000, u153001] 52 (0, 0)) (bz_ BK152.out) hg (Kd.R_ne HO_153001.out BK152.out (by decide))); have n3_ := Aside0.mk (Kd.R_over' (rz_ HO165.out) (Kd.R_typed (rz_ HO_153001.out)) (by decide) hg); have n4_ := Aside0.mk (hb); have n5_ := Aside0.mk (ho); clear HO_153000; clear BK151; clear BK152; clear HO165; clear HB; clear HO_153001; have HO_153000 := n0_; have BK151 := n1_; have BK152 := n2_; have HO165 := n3_; have HB := n4_; have HO184 := n5_; clear n0_ n1_ n2_ n3_ n4_ n5_; clear ho hb hg hat; obtain ⟨Ao48, co48, eo48⟩ := Kd.R_slice HO184.out; subst eo48; have hcz49_0 : w47.cell? ⟨gb152, 0, none⟩ = some (u153000) := (blk_cell BK152.out 0).trans rfl; have hcz49_1 : w47.cell? ⟨gb152, 1, none⟩ = some (u153001) := (blk_cell BK152.out 1).trans rfl; have hfz49_0 := blk_frozen BK152.out 0; have hfz49_1 := blk_frozen BK152.out 1))
              go_roundg k1
              case measure => have := HK1.out; omega
              case rel => exact ⟨(wrap64 (x32_1 + 1)), (x153000_1), (y182), (u153000), (.slice Ao48 y182.length co48), (by first | rfl | (simp; done) | (simp [*]; done)), H', ⟨by have := HK1.out; omega⟩, ⟨rz_ (Kd.R_mono (Kd.R_far (p := ⟨gb152, 1, none⟩) (Kd.R_types HO_153000.out BK152.out (by decide)) (fun _ hk => hk.2) (.slice Ao48 y182.length co48)) (fun _ hk => trivial))⟩, ⟨rz_ (Kd.R_mono (Kd.R_far (p := ⟨gb152, 1, none⟩) (Kd.R_types HO184.out BK152.out (by decide)) (fun _ hk => hk.2) (.slice Ao48 y182.length co48)) (fun _ hk => trivial))⟩, ⟨by (with_reducible repeat (first | refine blk_drewN ?_ _ | refine blk_drew ?_ | refine blk_alloc ?_ _)); refine blk_far ?_ NB151_152.out _; (with_reducible repeat (first | refine blk_drewN ?_ _ | refine blk_drew ?_ | refine blk_alloc ?_ _)); exact BK151.out⟩, ⟨by (with_reducible repeat (first | refine blk_drewN ?_ _ | refine blk_drew ?_ | refine blk_alloc ?_ _)); refine blk_put (cs := #[u153000, u153001]) ?_ 1 _ rfl; (with_reducible repeat (first | refine blk_drewN ?_ _ | refine blk_drew ?_ | refine blk_alloc ?_ _)); exact BK152.out⟩, ⟨by repeat (first | (with_reducible first | exact HB.out | apply below_alloc | apply pw_below_drewN | apply below_drew1 | refine below_set ?_ GE151.out | refine below_set ?_ GE152.out) | exact HB.out)⟩, ⟨rz_ (Kd.R_mono (Kd.R_far (p := ⟨gb152, 1, none⟩) (Kd.R_types HOL.out BK152.out (by decide)) (fun _ hk => hk.2) (.slice Ao48 y182.length co48)) (fun _ hk => trivial))⟩⟩
             ·rw [if_neg c40] at H
              exact absurd H (by simp)
            ·rw [if_neg c38] at H
             exact absurd H (by simp)
          ·rw [if_neg c21] at H
           exact absurd H (by simp)
         ·rw [if_neg c20] at H
          have c20b0 : ((t163.length : Int) == 3) = false := beq_eq_false_iff_ne.mpr c20
          have c20b1 : ((t163.length : Int) != 3) = true := bne_iff_ne.mpr c20
          simp only [Option.some.injEq, Prod.mk.injEq] at H
          obtain ⟨rfl, rfl, rfl⟩ := H
          have p162 : 0 ≤ (x32_1 : Int) := of_decide_eq_true (by first | (with_reducible assumption) | assumption)
          have q162 : x32_1 < (y156.length : Int) := of_decide_eq_true (by first | (with_reducible assumption) | assumption)
          have hyl_ : y156.length ≤ t153.length := by rw [Ny156.out, List.length_take]; omega
          obtain ⟨ad162, e162, hx162_0⟩ := Kd.at_string (Kd.R_reads' HOL.out).2.2 x32_1 p162 (by omega)
          rw [← rdOf_taken y156 t153 _ x32_1 Ny156.out p162 q162] at hx162_0
          clear hyl_
          cases e162

          replace p162 := eq_true p162
          replace q162 := eq_true q162
          go_wp2_with (first | ((with_reducible refine gate_callee (f := 56) rfl ?_); refine goesL_ (some 37) rfl rfl Tryd.func56 (by kernel_rfl) rfl #[.string (rdOf ByteArray.empty y156 x32_1), .string (⟨#[32]⟩ : ByteArray)] rfl (by (try simp only [List.map_toArray, List.map_cons, List.map_nil]); first | done | rfl | (simp only [List.length_drop, List.length_take]; rfl)) ?_; (with_reducible refine (strings_Split.calls (rdOf ByteArray.empty y156 x32_1) (⟨#[32]⟩ : ByteArray) t163 _ A19.out (WF.below HWF.out (by repeat (first | (with_reducible first | exact HB.out | apply below_alloc | apply pw_below_drewN | apply below_drew1 | refine below_set ?_ GE151.out | refine below_set ?_ GE152.out) | exact HB.out)))).mono ?_); rintro e w50 ⟨v164, rfl, ho0, hb⟩; refine ⟨_, rfl, ?_⟩; have HOL_ := Aside0.mk (Kd.R_below (rz_ HOL.out) hb); clear HOL; have HOL := HOL_; clear HOL_; have n0_ := Aside0.mk (Kd.R_below (rz_ HO_153000.out) hb); have n1_ := Aside0.mk (Kd.R_below (rz_ HO_153001.out) hb); have n2_ := Aside0.mk (Kd.R_lower ho0 (below_size (by repeat (first | (with_reducible first | exact HB.out | apply below_alloc | apply pw_below_drewN | apply below_drew1 | refine below_set ?_ GE151.out | refine below_set ?_ GE152.out) | exact HB.out)))); have n3_ := Aside0.mk (blk_below (bz_ BK151.out) hb); have n4_ := Aside0.mk (blk_below (bz_ BK152.out) hb); have n5_ := Aside0.mk (below_step (by repeat (first | (with_reducible first | exact HB.out | apply below_alloc | apply pw_below_drewN | apply below_drew1 | refine below_set ?_ GE151.out | refine below_set ?_ GE152.out) | exact HB.out)) hb); clear HO_153000; clear HO_153001; clear BK151; clear BK152; clear HB; have HO_153000 := n0_; have HO_153001 := n1_; have HO165 := n2_; have BK151 := n3_; have BK152 := n4_; have HB := n5_; clear n0_ n1_ n2_ n3_ n4_ n5_; (try clear hb); (try clear hb2); (try clear hk); (try clear hi); (try clear ho0); obtain ⟨Ao51, co51, eo51⟩ := Kd.R_slice HO165.out; subst eo51; have hnb52 := NB151_152.out; have hnc52 := NB152_151.out; have hcz53_0 : w50.cell? ⟨gb151, 0, none⟩ = some (.slice none 0 0) := (blk_cell BK151.out 0).trans rfl; have hcz53_1 : w50.cell? ⟨gb151, 1, none⟩ = some (.slice none 0 0) := (blk_cell BK151.out 1).trans rfl; have hfz53_0 := blk_frozen BK151.out 0; have hfz53_1 := blk_frozen BK151.out 1))
          refine bodyPost_ret (results_ct rfl _ _ gb151 52 #[.slice none 0 0, .slice none 0 0] (0, 0) _ rfl (by (with_reducible repeat (first | refine blk_drewN ?_ _ | refine blk_drew ?_ | refine blk_alloc ?_ _)); refine blk_put (cs := #[.slice none 0 0, .slice none 0 0]) ?_ 1 _ rfl; (with_reducible repeat (first | refine blk_drewN ?_ _ | refine blk_drew ?_ | refine blk_alloc ?_ _)); refine blk_put (cs := #[.slice none 0 0, .slice none 0 0]) ?_ 0 _ rfl; (with_reducible repeat (first | refine blk_drewN ?_ _ | refine blk_drew ?_ | refine blk_alloc ?_ _)); exact BK151.out) Tryd.underlying52 rfl (by kernel_rfl)) rfl ?_
          exact ⟨_, _, by first | rfl | (simp [errW_none, errW_some] <;> rfl) | (simp only [← hji6]; first | rfl | (simp [errW_none, errW_some] <;> rfl)) | (simp [*, errW_none, errW_some] <;> rfl), by first | exact Kd.R_nil _ _ _ _ _ | exact Kd.N_nil _ _ _ _ _ | exact Kd.V_nil _ _ _ _ _ | exact Kd.Q_nil _ _ _ _ _ | exact Kd.S_nil _ _ _ _ _, by first | exact Kd.R_nil _ _ _ _ _ | exact Kd.N_nil _ _ _ _ _ | exact Kd.V_nil _ _ _ _ _ | exact Kd.Q_nil _ _ _ _ _ | exact Kd.S_nil _ _ _ _ _, by repeat (first | (with_reducible first | exact HB.out | apply below_alloc | apply pw_below_drewN | apply below_drew1 | refine below_set ?_ GE151.out | refine below_set ?_ GE152.out) | exact HB.out)⟩
        ·rw [if_neg c18] at H
         exact absurd H (by simp)
       ·rw [if_neg c17] at H
        exact absurd H (by simp)
      ·rw [if_neg c16] at H
       have c16b0 : decide (x32_1 < (y156.length : Int)) = false := decide_eq_false c16
       clear c16
       replace H := Option.bind_eq_some_iff.mp H
       obtain ⟨⟨t160, t161⟩, A540, H⟩ := H
       replace H : (if t161 = true then (if t160.toList = a0.toList then (some (x153000_1, x153001_1, true)) else (some (([] : List (S94)), ([] : List (S96)), false))) else (some (([] : List (S94)), ([] : List (S96)), false))) = some (r1, r2, r3) := H
       have A54 := Aside0.mk A540
       clear A540
       by_cases c55 : t161 = true
       ·subst c55
        have H1 : (if t160.toList = a0.toList then (some (x153000_1, x153001_1, true)) else (some (([] : List (S94)), ([] : List (S96)), false))) = some (r1, r2, r3) := by rw [if_pos rfl] at H; exact H
        clear H
        have H := H1
        clear H1
        by_cases c56 : t160.toList = a0.toList
        ·rw [if_pos c56] at H
         have c56b0 : (t160.toList == a0.toList) = true := beq_iff_eq.mpr c56
         have c56b1 : (t160.toList != a0.toList) = false := bne_eq_false_iff_eq.mpr c56
         clear c56
         simp only [Option.some.injEq, Prod.mk.injEq] at H
         obtain ⟨rfl, rfl, rfl⟩ := H
         have hnb57 := NB152_151.out
         have hnc57 := NB151_152.out
         have hcz58_0 : wr.cell? ⟨gb152, 0, none⟩ = some (u153000) := (blk_cell BK152.out 0).trans rfl
         have hcz58_1 : wr.cell? ⟨gb152, 1, none⟩ = some (u153001) := (blk_cell BK152.out 1).trans rfl
         have hfz58_0 := blk_frozen BK152.out 0
         have hfz58_1 := blk_frozen BK152.out 1
         obtain ⟨Ao59, co59, eo59⟩ := Kd.R_slice HO_153000.out
         subst eo59
         obtain ⟨Ao60, co60, eo60⟩ := Kd.R_slice HO_153001.out
         subst eo60
         go_wp2_with (first | ((with_reducible refine gate_callee (f := 38) rfl ?_); refine goesL_ (some 93) rfl rfl Tryd.func38 (by kernel_rfl) rfl #[.agg #[.slice Ao59 x153000_1.length co59, .slice Ao60 x153001_1.length co60]] rfl (by (try simp only [List.map_toArray, List.map_cons, List.map_nil]); first | done | rfl | (simp only [List.length_drop, List.length_take]; rfl)) ?_; (with_reducible refine (impl_FmtStd.calls _ _ x153000_1 _ _ x153001_1 t160 true _ ?side1 ?side2 ?side3 ?side4 A54.out (WF.below HWF.out (by repeat (first | (with_reducible first | exact HB.out | apply below_alloc | apply pw_below_drewN | apply below_drew1 | refine below_set ?_ GE151.out | refine below_set ?_ GE152.out) | exact HB.out)))).mono ?_); (case side1 => exact cz_ (Kd.R_reads' HO_153000.out).2.2); (case side2 => exact (Kd.R_reads' HO_153000.out).2.1); (case side3 => exact cz_ (Kd.R_reads' HO_153001.out).2.2); (case side4 => exact (Kd.R_reads' HO_153001.out).2.1); rintro e w61 ⟨rfl, hb⟩; refine ⟨_, rfl, ?_⟩; have HOL_ := Aside0.mk (Kd.R_below (rz_ HOL.out) hb); clear HOL; have HOL := HOL_; clear HOL_; have n0_ := Aside0.mk (Kd.R_below (rz_ HO_153000.out) hb); have n1_ := Aside0.mk (Kd.R_below (rz_ HO_153001.out) hb); have n2_ := Aside0.mk (blk_below (bz_ BK151.out) hb); have n3_ := Aside0.mk (blk_below (bz_ BK152.out) hb); have n4_ := Aside0.mk (below_step (by repeat (first | (with_reducible first | exact HB.out | apply below_alloc | apply pw_below_drewN | apply below_drew1 | refine below_set ?_ GE151.out | refine below_set ?_ GE152.out) | exact HB.out)) hb); clear HO_153000; clear HO_153001; clear BK151; clear BK152; clear HB; have HO_153000 := n0_; have HO_153001 := n1_; have BK151 := n2_; have BK152 := n3_; have HB := n4_; clear n0_ n1_ n2_ n3_ n4_; (try clear hb); (try clear hb2); (try clear hk); (try clear hi); have hcz62_0 : w61.cell? ⟨gb152, 0, none⟩ = some (.slice Ao59 x153000_1.length co59) := (blk_cell BK152.out 0).trans rfl; have hcz62_1 : w61.cell? ⟨gb152, 1, none⟩ = some (.slice Ao60 x153001_1.length co60) := (blk_cell BK152.out 1).trans rfl; have hfz62_0 := blk_frozen BK152.out 0; have hfz62_1 := blk_frozen BK152.out 1; have hcz63_0 : w61.cell? ⟨gb151, 0, none⟩ = some (.slice none 0 0) := (blk_cell BK151.out 0).trans rfl; have hcz63_1 : w61.cell? ⟨gb151, 1, none⟩ = some (.slice none 0 0) := (blk_cell BK151.out 1).trans rfl; have hfz63_0 := blk_frozen BK151.out 0; have hfz63_1 := blk_frozen BK151.out 1))
         refine bodyPost_ret (results_ct rfl _ _ gb151 52 #[.slice Ao59 x153000_1.length co59, .slice Ao60 x153001_1.length co60] (0, 0) _ rfl (by (with_reducible repeat (first | refine blk_drewN ?_ _ | refine blk_drew ?_ | refine blk_alloc ?_ _)); refine blk_put (cs := #[.slice Ao59 x153000_1.length co59, .slice none 0 0]) ?_ 1 _ rfl; (with_reducible repeat (first | refine blk_drewN ?_ _ | refine blk_drew ?_ | refine blk_alloc ?_ _)); refine blk_put (cs := #[.slice none 0 0, .slice none 0 0]) ?_ 0 _ rfl; (with_reducible repeat (first | refine blk_drewN ?_ _ | refine blk_drew ?_ | refine blk_alloc ?_ _)); exact BK151.out) Tryd.underlying52 rfl (by kernel_rfl)) rfl ?_
         exact ⟨_, _, by first | rfl | (simp [errW_none, errW_some] <;> rfl) | (simp only [← hji6]; first | rfl | (simp [errW_none, errW_some] <;> rfl)) | (simp [*, errW_none, errW_some] <;> rfl), rz_ (Kd.R_mono (Kd.R_far (p := ⟨gb151, 1, none⟩) (Kd.R_far (p := ⟨gb151, 0, none⟩) (Kd.R_types HO_153000.out BK151.out (by decide)) (fun _ hk => hk.2) (.slice Ao59 x153000_1.length co59)) (fun _ hk => hk.2) (.slice Ao60 x153001_1.length co60)) (fun _ hk => trivial)), rz_ (Kd.R_mono (Kd.R_far (p := ⟨gb151, 1, none⟩) (Kd.R_far (p := ⟨gb151, 0, none⟩) (Kd.R_types HO_153001.out BK151.out (by decide)) (fun _ hk => hk.2) (.slice Ao59 x153000_1.length co59)) (fun _ hk => hk.2) (.slice Ao60 x153001_1.length co60)) (fun _ hk => trivial)), by repeat (first | (with_reducible first | exact HB.out | apply below_alloc | apply pw_below_drewN | apply below_drew1 | refine below_set ?_ GE151.out | refine below_set ?_ GE152.out) | exact HB.out)⟩
        ·rw [if_neg c56] at H
         have c56b0 : (t160.toList == a0.toList) = false := beq_eq_false_iff_ne.mpr c56
         have c56b1 : (t160.toList != a0.toList) = true := bne_iff_ne.mpr c56
         simp only [Option.some.injEq, Prod.mk.injEq] at H
         obtain ⟨rfl, rfl, rfl⟩ := H
         have hnb64 := NB152_151.out
         have hnc64 := NB151_152.out
         have hcz65_0 : wr.cell? ⟨gb152, 0, none⟩ = some (u153000) := (blk_cell BK152.out 0).trans rfl
         have hcz65_1 : wr.cell? ⟨gb152, 1, none⟩ = some (u153001) := (blk_cell BK152.out 1).trans rfl
         have hfz65_0 := blk_frozen BK152.out 0
         have hfz65_1 := blk_frozen BK152.out 1
         obtain ⟨Ao66, co66, eo66⟩ := Kd.R_slice HO_153000.out
         subst eo66
         obtain ⟨Ao67, co67, eo67⟩ := Kd.R_slice HO_153001.out
         subst eo67
         go_wp2_with (first | ((with_reducible refine gate_callee (f := 38) rfl ?_); refine goesL_ (some 93) rfl rfl Tryd.func38 (by kernel_rfl) rfl #[.agg #[.slice Ao66 x153000_1.length co66, .slice Ao67 x153001_1.length co67]] rfl (by (try simp only [List.map_toArray, List.map_cons, List.map_nil]); first | done | rfl | (simp only [List.length_drop, List.length_take]; rfl)) ?_; (with_reducible refine (impl_FmtStd.calls _ _ x153000_1 _ _ x153001_1 t160 true _ ?side1 ?side2 ?side3 ?side4 A54.out (WF.below HWF.out (by repeat (first | (with_reducible first | exact HB.out | apply below_alloc | apply pw_below_drewN | apply below_drew1 | refine below_set ?_ GE151.out | refine below_set ?_ GE152.out) | exact HB.out)))).mono ?_); (case side1 => exact cz_ (Kd.R_reads' HO_153000.out).2.2); (case side2 => exact (Kd.R_reads' HO_153000.out).2.1); (case side3 => exact cz_ (Kd.R_reads' HO_153001.out).2.2); (case side4 => exact (Kd.R_reads' HO_153001.out).2.1); rintro e w68 ⟨rfl, hb⟩; refine ⟨_, rfl, ?_⟩; have HOL_ := Aside0.mk (Kd.R_below (rz_ HOL.out) hb); clear HOL; have HOL := HOL_; clear HOL_; have n0_ := Aside0.mk (Kd.R_below (rz_ HO_153000.out) hb); have n1_ := Aside0.mk (Kd.R_below (rz_ HO_153001.out) hb); have n2_ := Aside0.mk (blk_below (bz_ BK151.out) hb); have n3_ := Aside0.mk (blk_below (bz_ BK152.out) hb); have n4_ := Aside0.mk (below_step (by repeat (first | (with_reducible first | exact HB.out | apply below_alloc | apply pw_below_drewN | apply below_drew1 | refine below_set ?_ GE151.out | refine below_set ?_ GE152.out) | exact HB.out)) hb); clear HO_153000; clear HO_153001; clear BK151; clear BK152; clear HB; have HO_153000 := n0_; have HO_153001 := n1_; have BK151 := n2_; have BK152 := n3_; have HB := n4_; clear n0_ n1_ n2_ n3_ n4_; (try clear hb); (try clear hb2); (try clear hk); (try clear hi); have hcz69_0 : w68.cell? ⟨gb151, 0, none⟩ = some (.slice none 0 0) := (blk_cell BK151.out 0).trans rfl; have hcz69_1 : w68.cell? ⟨gb151, 1, none⟩ = some (.slice none 0 0) := (blk_cell BK151.out 1).trans rfl; have hfz69_0 := blk_frozen BK151.out 0; have hfz69_1 := blk_frozen BK151.out 1))
         refine bodyPost_ret (results_ct rfl _ _ gb151 52 #[.slice none 0 0, .slice none 0 0] (0, 0) _ rfl (by (with_reducible repeat (first | refine blk_drewN ?_ _ | refine blk_drew ?_ | refine blk_alloc ?_ _)); refine blk_put (cs := #[.slice none 0 0, .slice none 0 0]) ?_ 1 _ rfl; (with_reducible repeat (first | refine blk_drewN ?_ _ | refine blk_drew ?_ | refine blk_alloc ?_ _)); refine blk_put (cs := #[.slice none 0 0, .slice none 0 0]) ?_ 0 _ rfl; (with_reducible repeat (first | refine blk_drewN ?_ _ | refine blk_drew ?_ | refine blk_alloc ?_ _)); exact BK151.out) Tryd.underlying52 rfl (by kernel_rfl)) rfl ?_
         exact ⟨_, _, by first | rfl | (simp [errW_none, errW_some] <;> rfl) | (simp only [← hji6]; first | rfl | (simp [errW_none, errW_some] <;> rfl)) | (simp [*, errW_none, errW_some] <;> rfl), by first | exact Kd.R_nil _ _ _ _ _ | exact Kd.N_nil _ _ _ _ _ | exact Kd.V_nil _ _ _ _ _ | exact Kd.Q_nil _ _ _ _ _ | exact Kd.S_nil _ _ _ _ _, by first | exact Kd.R_nil _ _ _ _ _ | exact Kd.N_nil _ _ _ _ _ | exact Kd.V_nil _ _ _ _ _ | exact Kd.Q_nil _ _ _ _ _ | exact Kd.S_nil _ _ _ _ _, by repeat (first | (with_reducible first | exact HB.out | apply below_alloc | apply pw_below_drewN | apply below_drew1 | refine below_set ?_ GE151.out | refine below_set ?_ GE152.out) | exact HB.out)⟩
       ·replace c55 := Bool.eq_false_iff.mpr c55
        subst c55
        have H1 : (some (([] : List (S94)), ([] : List (S96)), false)) = some (r1, r2, r3) := by rw [if_neg (show ¬ (false = true) by decide)] at H; exact H
        clear H
        have H := H1
        clear H1
        simp only [Option.some.injEq, Prod.mk.injEq] at H
        obtain ⟨rfl, rfl, rfl⟩ := H
        have hnb70 := NB152_151.out
        have hnc70 := NB151_152.out
        have hcz71_0 : wr.cell? ⟨gb152, 0, none⟩ = some (u153000) := (blk_cell BK152.out 0).trans rfl
        have hcz71_1 : wr.cell? ⟨gb152, 1, none⟩ = some (u153001) := (blk_cell BK152.out 1).trans rfl
        have hfz71_0 := blk_frozen BK152.out 0
        have hfz71_1 := blk_frozen BK152.out 1
        obtain ⟨Ao72, co72, eo72⟩ := Kd.R_slice HO_153000.out
        subst eo72
        obtain ⟨Ao73, co73, eo73⟩ := Kd.R_slice HO_153001.out
        subst eo73
        go_wp2_with (first | ((with_reducible refine gate_callee (f := 38) rfl ?_); refine goesL_ (some 93) rfl rfl Tryd.func38 (by kernel_rfl) rfl #[.agg #[.slice Ao72 x153000_1.length co72, .slice Ao73 x153001_1.length co73]] rfl (by (try simp only [List.map_toArray, List.map_cons, List.map_nil]); first | done | rfl | (simp only [List.length_drop, List.length_take]; rfl)) ?_; (with_reducible refine (impl_FmtStd.calls _ _ x153000_1 _ _ x153001_1 t160 false _ ?side1 ?side2 ?side3 ?side4 A54.out (WF.below HWF.out (by repeat (first | (with_reducible first | exact HB.out | apply below_alloc | apply pw_below_drewN | apply below_drew1 | refine below_set ?_ GE151.out | refine below_set ?_ GE152.out) | exact HB.out)))).mono ?_); (case side1 => exact cz_ (Kd.R_reads' HO_153000.out).2.2); (case side2 => exact (Kd.R_reads' HO_153000.out).2.1); (case side3 => exact cz_ (Kd.R_reads' HO_153001.out).2.2); (case side4 => exact (Kd.R_reads' HO_153001.out).2.1); rintro e w74 ⟨rfl, hb⟩; refine ⟨_, rfl, ?_⟩; have HOL_ := Aside0.mk (Kd.R_below (rz_ HOL.out) hb); clear HOL; have HOL := HOL_; clear HOL_; have n0_ := Aside0.mk (Kd.R_below (rz_ HO_153000.out) hb); have n1_ := Aside0.mk (Kd.R_below (rz_ HO_153001.out) hb); have n2_ := Aside0.mk (blk_below (bz_ BK151.out) hb); have n3_ := Aside0.mk (blk_below (bz_ BK152.out) hb); have n4_ := Aside0.mk (below_step (by repeat (first | (with_reducible first | exact HB.out | apply below_alloc | apply pw_below_drewN | apply below_drew1 | refine below_set ?_ GE151.out | refine below_set ?_ GE152.out) | exact HB.out)) hb); clear HO_153000; clear HO_153001; clear BK151; clear BK152; clear HB; have HO_153000 := n0_; have HO_153001 := n1_; have BK151 := n2_; have BK152 := n3_; have HB := n4_; clear n0_ n1_ n2_ n3_ n4_; (try clear hb); (try clear hb2); (try clear hk); (try clear hi); have hcz75_0 : w74.cell? ⟨gb151, 0, none⟩ = some (.slice none 0 0) := (blk_cell BK151.out 0).trans rfl; have hcz75_1 : w74.cell? ⟨gb151, 1, none⟩ = some (.slice none 0 0) := (blk_cell BK151.out 1).trans rfl; have hfz75_0 := blk_frozen BK151.out 0; have hfz75_1 := blk_frozen BK151.out 1))
        refine bodyPost_ret (results_ct rfl _ _ gb151 52 #[.slice none 0 0, .slice none 0 0] (0, 0) _ rfl (by (with_reducible repeat (first | refine blk_drewN ?_ _ | refine blk_drew ?_ | refine blk_alloc ?_ _)); refine blk_put (cs := #[.slice none 0 0, .slice none 0 0]) ?_ 1 _ rfl; (with_reducible repeat (first | refine blk_drewN ?_ _ | refine blk_drew ?_ | refine blk_alloc ?_ _)); refine blk_put (cs := #[.slice none 0 0, .slice none 0 0]) ?_ 0 _ rfl; (with_reducible repeat (first | refine blk_drewN ?_ _ | refine blk_drew ?_ | refine blk_alloc ?_ _)); exact BK151.out) Tryd.underlying52 rfl (by kernel_rfl)) rfl ?_
        exact ⟨_, _, by first | rfl | (simp [errW_none, errW_some] <;> rfl) | (simp only [← hji6]; first | rfl | (simp [errW_none, errW_some] <;> rfl)) | (simp [*, errW_none, errW_some] <;> rfl), by first | exact Kd.R_nil _ _ _ _ _ | exact Kd.N_nil _ _ _ _ _ | exact Kd.V_nil _ _ _ _ _ | exact Kd.Q_nil _ _ _ _ _ | exact Kd.S_nil _ _ _ _ _, by first | exact Kd.R_nil _ _ _ _ _ | exact Kd.N_nil _ _ _ _ _ | exact Kd.V_nil _ _ _ _ _ | exact Kd.Q_nil _ _ _ _ _ | exact Kd.S_nil _ _ _ _ _, by repeat (first | (with_reducible first | exact HB.out | apply below_alloc | apply pw_below_drewN | apply below_drew1 | refine below_set ?_ GE151.out | refine below_set ?_ GE152.out) | exact HB.out)⟩
   ·rw [if_neg c8] at H
    exact absurd H (by simp)
  ·rw [if_neg c7] at H
   exact absurd H (by simp)

end Go.Proofs.YtdmbboijcaelcaaDoor.Q
/-! ### PrW -/
/- The law of ParseRecord walked (printed by wip/xprint.py, the world's word WF handed on by wip/gen/mkparserec.py). -/
-- Written by a program of this session (wip/xprint.py over the kit's printer).
namespace Go.Proofs.YtdmbboijcaelcaaDoor.Q
open Go.RowKit Go.Proofs.YtdmbboijcaelcaaDoorW.PrintWords Go.Proofs.YtdmbboijcaelcaaDoorW.PrintLast
set_option linter.unusedVariables false
set_option linter.unusedSimpArgs false

/-! ### laws_FnExactParseRecord: function 12 -/
mutual
def laws_FnExactParseRecord.j0 : Nat → ByteArray → Bool → Bool → List (S94) → List (S96) → List (S94) → List (S96) → Option (Bool)
 | 0, _, _, _, _, _, _, _ => none
 | k + 1, x0, x4, x32, x159000, x159001, x167000, x167001 => if x32 = true then (some false) else ((laws_markRecord.f k x167000 x167001 1).bind fun bt168 => ((laws_heldRecord.f k bt168.2.1 bt168.2.2 1).bind fun t171 => (if t171 < 0 then (some false) else (if t171 = bt168.1 then ((impl_ParseRecord.f k x0).bind fun bt172 => ((laws_eqRecord.f k bt172.1 bt172.2.1 x159000 x159001).bind fun t180 => (if t180 = true then (laws_FnExactParseRecord.j1 k bt168.1 (bt172.2.2 != x4) bt168.2.1 bt168.2.2) else (laws_FnExactParseRecord.j1 k bt168.1 true bt168.2.1 bt168.2.2)))) else (some false)))))
def laws_FnExactParseRecord.j1 : Nat → Int → Bool → List (S94) → List (S96) → Option (Bool)
 | 0, _, _, _, _ => none
 | k + 1, x7, x57, x167000, x167001 => if x57 = true then (some false) else ((laws_heldRecord.f k x167000 x167001 1).bind fun t181 => (if t181 < 0 then (some false) else (if t181 = x7 then (some true) else (some false))))
end
def laws_FnExactParseRecord.f (k : Nat) (a0 : ByteArray) : Option (Bool) := if (a0.size : Int) > 1048576 then (some true) else ((spec_ParseRecord.f k a0).bind fun bt151 => ((impl_ParseRecord.f k a0).bind fun bt159 => ((laws_eqRecord.f k bt159.1 bt159.2.1 bt151.1 bt151.2.1).bind fun t167 => (if t167 = true then (laws_FnExactParseRecord.j0 k a0 bt151.2.2 (bt159.2.2 != bt151.2.2) bt151.1 bt151.2.1 bt159.1 bt159.2.1) else (laws_FnExactParseRecord.j0 k a0 bt151.2.2 true bt151.1 bt151.2.1 bt159.1 bt159.2.1)))))
theorem laws_FnExactParseRecord.mono_l : ∀ k, (∀ y0 y1 y2 y3 y4 y5 y6, LeO (laws_FnExactParseRecord.j0 k y0 y1 y2 y3 y4 y5 y6) (laws_FnExactParseRecord.j0 (k + 1) y0 y1 y2 y3 y4 y5 y6)) ∧ (∀ y0 y1 y2 y3, LeO (laws_FnExactParseRecord.j1 k y0 y1 y2 y3) (laws_FnExactParseRecord.j1 (k + 1) y0 y1 y2 y3))
 | 0 => ⟨fun _ _ _ _ _ _ _ r h => by simp [laws_FnExactParseRecord.j0] at h, fun _ _ _ _ r h => by simp [laws_FnExactParseRecord.j1] at h⟩
 | k + 1 => by
  obtain ⟨ih0, ih1⟩ := laws_FnExactParseRecord.mono_l k
  refine ⟨?_, ?_⟩
  ·intro y0 y1 y2 y3 y4 y5 y6
   unfold laws_FnExactParseRecord.j0
   repeat' first
   | (with_reducible exact ih0 _ _ _ _ _ _ _)
   | (with_reducible exact ih1 _ _ _ _)
   | (with_reducible exact impl_ParseRecord.mono _ _)
   | (with_reducible exact laws_eqRecord.mono _ _ _ _ _)
   | (with_reducible exact laws_heldRecord.mono _ _ _ _)
   | (with_reducible exact laws_markRecord.mono _ _ _ _)
   | (with_reducible exact spec_ParseRecord.mono _ _)
   | (with_reducible exact LeO.refl _)
   | (with_reducible exact LeO.none _)
   | (with_reducible refine LeO.ite ?_ ?_)
   | (with_reducible refine LeO.bind ?_ (fun _ => ?_))
   | exact ih0 _ _ _ _ _ _ _
   | exact ih1 _ _ _ _
   | exact impl_ParseRecord.mono _ _
   | exact laws_eqRecord.mono _ _ _ _ _
   | exact laws_heldRecord.mono _ _ _ _
   | exact laws_markRecord.mono _ _ _ _
   | exact spec_ParseRecord.mono _ _
   | exact LeO.none _
   | refine LeO.ite ?_ ?_
   | refine LeO.bind ?_ (fun _ => ?_)
  ·intro y0 y1 y2 y3
   unfold laws_FnExactParseRecord.j1
   repeat' first
   | (with_reducible exact ih0 _ _ _ _ _ _ _)
   | (with_reducible exact ih1 _ _ _ _)
   | (with_reducible exact impl_ParseRecord.mono _ _)
   | (with_reducible exact laws_eqRecord.mono _ _ _ _ _)
   | (with_reducible exact laws_heldRecord.mono _ _ _ _)
   | (with_reducible exact laws_markRecord.mono _ _ _ _)
   | (with_reducible exact spec_ParseRecord.mono _ _)
   | (with_reducible exact LeO.refl _)
   | (with_reducible exact LeO.none _)
   | (with_reducible refine LeO.ite ?_ ?_)
   | (with_reducible refine LeO.bind ?_ (fun _ => ?_))
   | exact ih0 _ _ _ _ _ _ _
   | exact ih1 _ _ _ _
   | exact impl_ParseRecord.mono _ _
   | exact laws_eqRecord.mono _ _ _ _ _
   | exact laws_heldRecord.mono _ _ _ _
   | exact laws_markRecord.mono _ _ _ _
   | exact spec_ParseRecord.mono _ _
   | exact LeO.none _
   | refine LeO.ite ?_ ?_
   | refine LeO.bind ?_ (fun _ => ?_)
theorem laws_FnExactParseRecord.mono : ∀ a0 k, LeO (laws_FnExactParseRecord.f k a0) (laws_FnExactParseRecord.f (k + 1) a0) := by
 intro a0 k
 obtain ⟨ih0, ih1⟩ := laws_FnExactParseRecord.mono_l k
 unfold laws_FnExactParseRecord.f
 repeat' first
   | (with_reducible exact ih0 _ _ _ _ _ _ _)
   | (with_reducible exact ih1 _ _ _ _)
   | (with_reducible exact impl_ParseRecord.mono _ _)
   | (with_reducible exact laws_eqRecord.mono _ _ _ _ _)
   | (with_reducible exact laws_heldRecord.mono _ _ _ _)
   | (with_reducible exact laws_markRecord.mono _ _ _ _)
   | (with_reducible exact spec_ParseRecord.mono _ _)
   | (with_reducible exact LeO.refl _)
   | (with_reducible exact LeO.none _)
   | (with_reducible refine LeO.ite ?_ ?_)
   | (with_reducible refine LeO.bind ?_ (fun _ => ?_))
   | exact ih0 _ _ _ _ _ _ _
   | exact ih1 _ _ _ _
   | exact impl_ParseRecord.mono _ _
   | exact laws_eqRecord.mono _ _ _ _ _
   | exact laws_heldRecord.mono _ _ _ _
   | exact laws_markRecord.mono _ _ _ _
   | exact spec_ParseRecord.mono _ _
   | exact LeO.none _
   | refine LeO.ite ?_ ?_
   | refine LeO.bind ?_ (fun _ => ?_)
set_option maxHeartbeats 8000000 in
set_option maxRecDepth 100000 in
theorem laws_FnExactParseRecord.calls (k : Nat) (a0 : ByteArray) (r : Bool) (w : World) (h : laws_FnExactParseRecord.f k a0 = some r) (hwf : WF w) :
  Calls Tryd.prog 12 #[.string a0] w fun e w' => e = .returned (.bool r) ∧ Below w.heap.size w w' := by
 have HWF := Aside0.mk hwf
 have hu52 := Tryd.underlying52
 have HB := Aside0.mk (Below.refl w.heap.size w)
 have H : (if (a0.size : Int) > 1048576 then (some true) else ((spec_ParseRecord.f k a0).bind fun bt151 => ((impl_ParseRecord.f k a0).bind fun bt159 => ((laws_eqRecord.f k bt159.1 bt159.2.1 bt151.1 bt151.2.1).bind fun t167 => (if t167 = true then (laws_FnExactParseRecord.j0 k a0 bt151.2.2 (bt159.2.2 != bt151.2.2) bt151.1 bt151.2.1 bt159.1 bt159.2.1) else (laws_FnExactParseRecord.j0 k a0 bt151.2.2 true bt151.1 bt151.2.1 bt159.1 bt159.2.1)))))) = some r := h
 clear h
 by_cases c2 : (a0.size : Int) > 1048576
 ·rw [if_pos c2] at H
  have c2b0 : decide (1048576 < (a0.size : Int)) = true := decide_eq_true c2
  have c2b1 : decide (1048576 < a0.size) = true := decide_eq_true (by omega)
  clear c2
  obtain rfl := Option.some.inj H
  go_enter Tryd.func12, Tryd.ntmps12
  go_wp2
  go_ret
  exact ⟨by first | rfl | (simp [errW_none, errW_some] <;> rfl) | (simp [*, errW_none, errW_some] <;> rfl), by repeat (first | (with_reducible first | exact HB.out | apply below_alloc | apply pw_below_drewN | apply below_drew1) | exact HB.out)⟩
 ·rw [if_neg c2] at H
  have c2b0 : decide (1048576 < (a0.size : Int)) = false := decide_eq_false c2
  have c2b1 : decide (1048576 < a0.size) = false := decide_eq_false (by omega)
  clear c2
  replace H := Option.bind_eq_some_iff.mp H
  obtain ⟨⟨t151, t154, t157⟩, A30, H⟩ := H
  replace H : ((impl_ParseRecord.f k a0).bind fun bt159 => ((laws_eqRecord.f k bt159.1 bt159.2.1 t151 t154).bind fun t167 => (if t167 = true then (laws_FnExactParseRecord.j0 k a0 t157 (bt159.2.2 != t157) t151 t154 bt159.1 bt159.2.1) else (laws_FnExactParseRecord.j0 k a0 t157 true t151 t154 bt159.1 bt159.2.1)))) = some r := H
  have A3 := Aside0.mk A30
  clear A30
  replace H := Option.bind_eq_some_iff.mp H
  obtain ⟨⟨t159, t162, t165⟩, A40, H⟩ := H
  replace H : ((laws_eqRecord.f k t159 t162 t151 t154).bind fun t167 => (if t167 = true then (laws_FnExactParseRecord.j0 k a0 t157 (t165 != t157) t151 t154 t159 t162) else (laws_FnExactParseRecord.j0 k a0 t157 true t151 t154 t159 t162))) = some r := H
  have A4 := Aside0.mk A40
  clear A40
  have HC5 := Aside0.mk H
  clear H
  go_enter Tryd.func12, Tryd.ntmps12
  go_upto_region 5 with (first | ((with_reducible refine gate_callee (f := 43) rfl ?_); refine goesL_ (some 16) rfl rfl Tryd.func43 (by kernel_rfl) rfl #[.string a0] rfl (by (try simp only [List.map_toArray, List.map_cons, List.map_nil]); first | done | rfl | (simp only [List.length_drop, List.length_take]; rfl)) ?_; (with_reducible refine (spec_ParseRecord.calls k a0 t151 t154 t157 _ A3.out).mono ?_); rintro e w6 ⟨v152, v155, rfl, ho0, ho1, hb⟩; refine ⟨_, rfl, ?_⟩; have n0_ := Aside0.mk (Kd.R_lower ho0 (below_size (wz_ HB.out))); have n1_ := Aside0.mk (Kd.R_lower ho1 (below_size (wz_ HB.out))); have n2_ := Aside0.mk (below_step (wz_ HB.out) hb); clear HB; have HO153 := n0_; have HO156 := n1_; have HB := n2_; clear n0_ n1_ n2_; (try clear hb); (try clear hb2); (try clear hk); (try clear hi); (try clear ho0); (try clear ho1)) | ((with_reducible refine gate_dst (N := 3) rfl ?_); refine box_event ?hg (N := 3) ?hd (cs := #[.slice none 0 0, .slice none 0 0]) (t := 52) ?hr ?_; (case hd => rfl); (case hg => rfl); (case hr => first | (go_simp; done) | (go_simp; rfl)); intro gb158 hg w7 hbox hb; have n0_ := Aside0.mk (Kd.R_below (rz_ HO153.out) hb); have n1_ := Aside0.mk (Kd.R_below (rz_ HO156.out) hb); have n2_ := Aside0.mk (below_step (wz_ HB.out) hb); have n3_ := Aside0.mk (hbox); have n4_ := Aside0.mk ((by rw [hg]; exact (below_size (wz_ HB.out)) : w.heap.size ≤ gb158)); have n5_ := Aside0.mk ((by rw [hg]; exact (below_size (wz_ HB.out)) : w.heap.size ≤ gb158)); clear HO153; clear HO156; clear HB; have HO153 := n0_; have HO156 := n1_; have HB := n2_; have BK158 := n3_; have GW158 := n4_; have GE158 := n5_; clear n0_ n1_ n2_ n3_ n4_ n5_; clear hb hbox hg; obtain ⟨Ao8, co8, eo8⟩ := Kd.R_slice HO153.out; subst eo8; have hcz9_0 : w7.cell? ⟨gb158, 0, none⟩ = some (.slice none 0 0) := (blk_cell BK158.out 0).trans rfl; have hcz9_1 : w7.cell? ⟨gb158, 1, none⟩ = some (.slice none 0 0) := (blk_cell BK158.out 1).trans rfl; have hfz9_0 := blk_frozen BK158.out 0; have hfz9_1 := blk_frozen BK158.out 1; obtain ⟨Ao10, co10, eo10⟩ := Kd.R_slice HO156.out; subst eo10) | ((with_reducible refine gate_callee (f := 44) rfl ?_); refine goesL_ (some 21) rfl rfl Tryd.func44 (by kernel_rfl) rfl #[.string a0] rfl (by (try simp only [List.map_toArray, List.map_cons, List.map_nil]); first | done | rfl | (simp only [List.length_drop, List.length_take]; rfl)) ?_; (with_reducible refine (impl_ParseRecord.calls k a0 t159 t162 t165 _ A4.out (WF.below HWF.out (by repeat (first | (with_reducible first | exact HB.out | apply below_alloc | apply pw_below_drewN | apply below_drew1 | refine below_set ?_ GE158.out) | exact HB.out)))).mono ?_); rintro e w11 ⟨v160, v163, rfl, ho0, ho1, hb⟩; refine ⟨_, rfl, ?_⟩; have n0_ := Aside0.mk (Kd.R_elder' (rz_ (Kd.R_mono (Kd.R_far (p := ⟨gb158, 1, none⟩) (Kd.R_far (p := ⟨gb158, 0, none⟩) (Kd.R_types HO153.out BK158.out (by decide)) (fun _ hk => hk.2) (.slice Ao8 t151.length co8)) (fun _ hk => hk.2) (.slice Ao10 t154.length co10)) (fun _ h_ => h_.1))) (Kd.R_base ho0) hb); have n1_ := Aside0.mk (Kd.R_elder' (rz_ (Kd.R_mono (Kd.R_far (p := ⟨gb158, 1, none⟩) (Kd.R_far (p := ⟨gb158, 0, none⟩) (Kd.R_types HO156.out BK158.out (by decide)) (fun _ hk => hk.2) (.slice Ao8 t151.length co8)) (fun _ hk => hk.2) (.slice Ao10 t154.length co10)) (fun _ h_ => h_.1))) (Kd.R_base ho1) hb); have n2_ := Aside0.mk (Kd.R_lower (Kd.R_new' ho0 (Kd.R_lt (rz_ (Kd.R_mono (Kd.R_far (p := ⟨gb158, 1, none⟩) (Kd.R_far (p := ⟨gb158, 0, none⟩) (Kd.R_types HO153.out BK158.out (by decide)) (fun _ hk => hk.2) (.slice Ao8 t151.length co8)) (fun _ hk => hk.2) (.slice Ao10 t154.length co10)) (fun _ h_ => h_.1))))) (below_size (by repeat (first | (with_reducible first | exact HB.out | apply below_alloc | apply pw_below_drewN | apply below_drew1 | refine below_set ?_ GE158.out) | exact HB.out)))); have n3_ := Aside0.mk (Kd.R_lower (Kd.R_new' ho1 (Kd.R_lt (rz_ (Kd.R_mono (Kd.R_far (p := ⟨gb158, 1, none⟩) (Kd.R_far (p := ⟨gb158, 0, none⟩) (Kd.R_types HO156.out BK158.out (by decide)) (fun _ hk => hk.2) (.slice Ao8 t151.length co8)) (fun _ hk => hk.2) (.slice Ao10 t154.length co10)) (fun _ h_ => h_.1))))) (below_size (by repeat (first | (with_reducible first | exact HB.out | apply below_alloc | apply pw_below_drewN | apply below_drew1 | refine below_set ?_ GE158.out) | exact HB.out)))); have n4_ := Aside0.mk (blk_below (g := gb158) (o := .cells #[.slice Ao8 t151.length co8, .slice Ao10 t154.length co10] 52 (0, 0)) (by (with_reducible repeat (first | refine blk_drewN ?_ _ | refine blk_drew ?_ | refine blk_alloc ?_ _)); refine blk_put (cs := #[.slice Ao8 t151.length co8, .slice none 0 0]) ?_ 1 _ rfl; (with_reducible repeat (first | refine blk_drewN ?_ _ | refine blk_drew ?_ | refine blk_alloc ?_ _)); refine blk_put (cs := #[.slice none 0 0, .slice none 0 0]) ?_ 0 _ rfl; (with_reducible repeat (first | refine blk_drewN ?_ _ | refine blk_drew ?_ | refine blk_alloc ?_ _)); exact BK158.out) hb); have n5_ := Aside0.mk (below_step (by repeat (first | (with_reducible first | exact HB.out | apply below_alloc | apply pw_below_drewN | apply below_drew1 | refine below_set ?_ GE158.out) | exact HB.out)) hb); clear HO153; clear HO156; clear BK158; clear HB; have HO153 := n0_; have HO156 := n1_; have HO161 := n2_; have HO164 := n3_; have BK158 := n4_; have HB := n5_; clear n0_ n1_ n2_ n3_ n4_ n5_; (try clear hb); (try clear hb2); (try clear hk); (try clear hi); (try clear ho0); (try clear ho1)) | ((with_reducible refine gate_dst (N := 5) rfl ?_); refine box_event ?hg (N := 5) ?hd (cs := #[.slice none 0 0, .slice none 0 0]) (t := 52) ?hr ?_; (case hd => rfl); (case hg => rfl); (case hr => first | (go_simp; done) | (go_simp; rfl)); intro gb166 hg w12 hbox hb; have n0_ := Aside0.mk (Kd.R_below (rz_ HO153.out) hb); have n1_ := Aside0.mk (Kd.R_below (rz_ HO156.out) hb); have n2_ := Aside0.mk (Kd.R_below (rz_ HO161.out) hb); have n3_ := Aside0.mk (Kd.R_below (rz_ HO164.out) hb); have n4_ := Aside0.mk (blk_below (bz_ BK158.out) hb); have n5_ := Aside0.mk (below_step (by repeat (first | (with_reducible first | exact HB.out | apply below_alloc | apply pw_below_drewN | apply below_drew1 | refine below_set ?_ GE158.out) | exact HB.out)) hb); have n6_ := Aside0.mk (hbox); have n7_ := Aside0.mk ((by rw [hg]; exact (below_size (by repeat (first | (with_reducible first | exact HB.out | apply below_alloc | apply pw_below_drewN | apply below_drew1 | refine below_set ?_ GE158.out) | exact HB.out))) : w.heap.size ≤ gb166)); have n8_ := Aside0.mk ((by rw [hg]; exact (below_size (by repeat (first | (with_reducible first | exact HB.out | apply below_alloc | apply pw_below_drewN | apply below_drew1 | refine below_set ?_ GE158.out) | exact HB.out))) : w.heap.size ≤ gb166)); have n9_ := Aside0.mk ((by rw [hg]; exact Nat.ne_of_lt (blk_lt (g := gb158) (o := .cells #[.slice Ao8 t151.length co8, .slice Ao10 t154.length co10] 52 (0, 0)) (bz_ BK158.out)) : gb158 ≠ gb166)); have n10_ := Aside0.mk ((by rw [hg]; exact Nat.ne_of_gt (blk_lt (g := gb158) (o := .cells #[.slice Ao8 t151.length co8, .slice Ao10 t154.length co10] 52 (0, 0)) (bz_ BK158.out)) : gb166 ≠ gb158)); clear HO153; clear HO156; clear HO161; clear HO164; clear BK158; clear HB; have HO153 := n0_; have HO156 := n1_; have HO161 := n2_; have HO164 := n3_; have BK158 := n4_; have HB := n5_; have BK166 := n6_; have GW166 := n7_; have GE166 := n8_; have NB158_166 := n9_; have NB166_158 := n10_; clear n0_ n1_ n2_ n3_ n4_ n5_ n6_ n7_ n8_ n9_ n10_; clear hb hbox hg; obtain ⟨Ao13, co13, eo13⟩ := Kd.R_slice HO161.out; subst eo13; have hnb14 := NB166_158.out; have hnc14 := NB158_166.out; have hcz15_0 : w12.cell? ⟨gb166, 0, none⟩ = some (.slice none 0 0) := (blk_cell BK166.out 0).trans rfl; have hcz15_1 : w12.cell? ⟨gb166, 1, none⟩ = some (.slice none 0 0) := (blk_cell BK166.out 1).trans rfl; have hfz15_0 := blk_frozen BK166.out 0; have hfz15_1 := blk_frozen BK166.out 1; obtain ⟨Ao16, co16, eo16⟩ := Kd.R_slice HO164.out; subst eo16))
  (try simp only [Act.put, List.setIfInBounds_toArray, List.set_cons_zero, List.set_cons_succ])
  go_cut [32] (fun v32 wc => ∃ (kq : Nat) (x32_4 : Bool), v32 = .bool x32_4 ∧ Aside0 (laws_FnExactParseRecord.j0 kq a0 t157 x32_4 t151 t154 t159 t162 = some r) ∧ Aside0 (kq ≤ k) ∧ Aside0 (Kd.R k94 94 wc w.heap.size (fun k_ => some k_ ≠ ((.slice Ao13 t159.length co13) : Value).ownBlock) (.slice Ao8 t151.length co8) t151) ∧ Aside0 (Kd.R k96 96 wc w.heap.size (fun k_ => some k_ ≠ ((.slice Ao16 t162.length co16) : Value).ownBlock) (.slice Ao10 t154.length co10) t154) ∧ Aside0 (Kd.R k94 94 wc w.heap.size (fun k_ => some k_ ≠ ((.slice Ao8 t151.length co8) : Value).ownBlock) (.slice Ao13 t159.length co13) t159) ∧ Aside0 (Kd.R k96 96 wc w.heap.size (fun k_ => some k_ ≠ ((.slice Ao10 t154.length co10) : Value).ownBlock) (.slice Ao16 t162.length co16) t162) ∧ Aside0 (wc.heap[gb158]? = some (.cells #[(.slice Ao8 t151.length co8), (.slice Ao10 t154.length co10)] 52 (0, 0))) ∧ Aside0 (wc.heap[gb166]? = some (.cells #[(.slice Ao13 t159.length co13), (.slice Ao16 t162.length co16)] 52 (0, 0))) ∧ Aside0 (Below w.heap.size w wc))
  case first =>
   have H := HC5.out
   clear HC5
   replace H := Option.bind_eq_some_iff.mp H
   obtain ⟨t167, A170, H⟩ := H
   replace H : (if t167 = true then (laws_FnExactParseRecord.j0 k a0 t157 (t165 != t157) t151 t154 t159 t162) else (laws_FnExactParseRecord.j0 k a0 t157 true t151 t154 t159 t162)) = some r := H
   have A17 := Aside0.mk A170
   clear A170
   by_cases c18 : t167 = true
   ·subst c18
    have H1 : (laws_FnExactParseRecord.j0 k a0 t157 (t165 != t157) t151 t154 t159 t162) = some r := by rw [if_pos rfl] at H; exact H
    clear H
    have H := H1
    clear H1
    have H' := Aside0.mk H
    clear H
    have hnb19 := NB166_158.out
    have hnc19 := NB158_166.out
    have hcz20_0 : w12.cell? ⟨gb166, 0, none⟩ = some (.slice none 0 0) := (blk_cell BK166.out 0).trans rfl
    have hcz20_1 : w12.cell? ⟨gb166, 1, none⟩ = some (.slice none 0 0) := (blk_cell BK166.out 1).trans rfl
    have hfz20_0 := blk_frozen BK166.out 0
    have hfz20_1 := blk_frozen BK166.out 1
    have hcz21_0 : w12.cell? ⟨gb158, 0, none⟩ = some (.slice Ao8 t151.length co8) := (blk_cell BK158.out 0).trans rfl
    have hcz21_1 : w12.cell? ⟨gb158, 1, none⟩ = some (.slice Ao10 t154.length co10) := (blk_cell BK158.out 1).trans rfl
    have hfz21_0 := blk_frozen BK158.out 0
    have hfz21_1 := blk_frozen BK158.out 1
    go_wp2_with (first | ((with_reducible refine gate_callee (f := 39) rfl ?_); refine goesL_ (some 26) rfl rfl Tryd.func39 (by kernel_rfl) rfl #[.agg #[.slice Ao13 t159.length co13, .slice Ao16 t162.length co16], .agg #[.slice Ao8 t151.length co8, .slice Ao10 t154.length co10]] rfl (by (try simp only [List.map_toArray, List.map_cons, List.map_nil]); first | done | rfl | (simp only [List.length_drop, List.length_take]; rfl)) ?_; (with_reducible refine (laws_eqRecord.calls k _ _ t159 _ _ t162 _ _ t151 _ _ t154 true _ ?side1 ?side2 ?side3 ?side4 ?side5 ?side6 ?side7 ?side8 A17.out).mono ?_); (case side1 => refine (Kd.R_reads' (e := 94) (base := w.heap.size) (ok := fun k_ => (True ∧ some k_ ≠ (.slice Ao8 t151.length co8 : Value).ownBlock)) (n := t159.length) (c := co13) ?_).2.2; exact (rz_ (Kd.R_mono (Kd.R_far (p := ⟨gb166, 1, none⟩) (Kd.R_far (p := ⟨gb166, 0, none⟩) (Kd.R_types HO161.out BK166.out (by decide)) (fun _ hk => hk.2) (.slice Ao13 t159.length co13)) (fun _ hk => hk.2) (.slice Ao16 t162.length co16)) (fun _ h_ => h_.1)))); (case side2 => exact (Kd.R_reads' HO161.out).2.1); (case side3 => refine (Kd.R_reads' (e := 96) (base := w.heap.size) (ok := fun k_ => (True ∧ some k_ ≠ (.slice Ao10 t154.length co10 : Value).ownBlock)) (n := t162.length) (c := co16) ?_).2.2; exact (rz_ (Kd.R_mono (Kd.R_far (p := ⟨gb166, 1, none⟩) (Kd.R_far (p := ⟨gb166, 0, none⟩) (Kd.R_types HO164.out BK166.out (by decide)) (fun _ hk => hk.2) (.slice Ao13 t159.length co13)) (fun _ hk => hk.2) (.slice Ao16 t162.length co16)) (fun _ h_ => h_.1)))); (case side4 => exact (Kd.R_reads' HO164.out).2.1); (case side5 => refine (Kd.R_reads' (e := 94) (base := w.heap.size) (ok := fun k_ => (True ∧ some k_ ≠ (.slice Ao13 t159.length co13 : Value).ownBlock)) (n := t151.length) (c := co8) ?_).2.2; exact (rz_ (Kd.R_mono (Kd.R_far (p := ⟨gb166, 1, none⟩) (Kd.R_far (p := ⟨gb166, 0, none⟩) (Kd.R_types HO153.out BK166.out (by decide)) (fun _ hk => hk.2) (.slice Ao13 t159.length co13)) (fun _ hk => hk.2) (.slice Ao16 t162.length co16)) (fun _ h_ => h_.1)))); (case side6 => exact (Kd.R_reads' HO153.out).2.1); (case side7 => refine (Kd.R_reads' (e := 96) (base := w.heap.size) (ok := fun k_ => (True ∧ some k_ ≠ (.slice Ao16 t162.length co16 : Value).ownBlock)) (n := t154.length) (c := co10) ?_).2.2; exact (rz_ (Kd.R_mono (Kd.R_far (p := ⟨gb166, 1, none⟩) (Kd.R_far (p := ⟨gb166, 0, none⟩) (Kd.R_types HO156.out BK166.out (by decide)) (fun _ hk => hk.2) (.slice Ao13 t159.length co13)) (fun _ hk => hk.2) (.slice Ao16 t162.length co16)) (fun _ h_ => h_.1)))); (case side8 => exact (Kd.R_reads' HO156.out).2.1); rintro e w22 ⟨rfl, hb⟩; refine ⟨_, rfl, ?_⟩; have n0_ := Aside0.mk (Kd.R_below (rz_ (Kd.R_mono (Kd.R_far (p := ⟨gb166, 1, none⟩) (Kd.R_far (p := ⟨gb166, 0, none⟩) (Kd.R_types HO153.out BK166.out (by decide)) (fun _ hk => hk.2) (.slice Ao13 t159.length co13)) (fun _ hk => hk.2) (.slice Ao16 t162.length co16)) (fun _ h_ => h_.1))) hb); have n1_ := Aside0.mk (Kd.R_below (rz_ (Kd.R_mono (Kd.R_far (p := ⟨gb166, 1, none⟩) (Kd.R_far (p := ⟨gb166, 0, none⟩) (Kd.R_types HO156.out BK166.out (by decide)) (fun _ hk => hk.2) (.slice Ao13 t159.length co13)) (fun _ hk => hk.2) (.slice Ao16 t162.length co16)) (fun _ h_ => h_.1))) hb); have n2_ := Aside0.mk (Kd.R_below (rz_ (Kd.R_mono (Kd.R_far (p := ⟨gb166, 1, none⟩) (Kd.R_far (p := ⟨gb166, 0, none⟩) (Kd.R_types HO161.out BK166.out (by decide)) (fun _ hk => hk.2) (.slice Ao13 t159.length co13)) (fun _ hk => hk.2) (.slice Ao16 t162.length co16)) (fun _ h_ => h_.1))) hb); have n3_ := Aside0.mk (Kd.R_below (rz_ (Kd.R_mono (Kd.R_far (p := ⟨gb166, 1, none⟩) (Kd.R_far (p := ⟨gb166, 0, none⟩) (Kd.R_types HO164.out BK166.out (by decide)) (fun _ hk => hk.2) (.slice Ao13 t159.length co13)) (fun _ hk => hk.2) (.slice Ao16 t162.length co16)) (fun _ h_ => h_.1))) hb); have n4_ := Aside0.mk (blk_below (g := gb158) (o := .cells #[.slice Ao8 t151.length co8, .slice Ao10 t154.length co10] 52 (0, 0)) (by (with_reducible repeat (first | refine blk_drewN ?_ _ | refine blk_drew ?_ | refine blk_alloc ?_ _)); refine blk_far ?_ NB158_166.out _; (with_reducible repeat (first | refine blk_drewN ?_ _ | refine blk_drew ?_ | refine blk_alloc ?_ _)); refine blk_far ?_ NB158_166.out _; (with_reducible repeat (first | refine blk_drewN ?_ _ | refine blk_drew ?_ | refine blk_alloc ?_ _)); exact BK158.out) hb); have n5_ := Aside0.mk (blk_below (g := gb166) (o := .cells #[.slice Ao13 t159.length co13, .slice Ao16 t162.length co16] 52 (0, 0)) (by (with_reducible repeat (first | refine blk_drewN ?_ _ | refine blk_drew ?_ | refine blk_alloc ?_ _)); refine blk_put (cs := #[.slice Ao13 t159.length co13, .slice none 0 0]) ?_ 1 _ rfl; (with_reducible repeat (first | refine blk_drewN ?_ _ | refine blk_drew ?_ | refine blk_alloc ?_ _)); refine blk_put (cs := #[.slice none 0 0, .slice none 0 0]) ?_ 0 _ rfl; (with_reducible repeat (first | refine blk_drewN ?_ _ | refine blk_drew ?_ | refine blk_alloc ?_ _)); exact BK166.out) hb); have n6_ := Aside0.mk (below_step (by repeat (first | (with_reducible first | exact HB.out | apply below_alloc | apply pw_below_drewN | apply below_drew1 | refine below_set ?_ GE158.out | refine below_set ?_ GE166.out) | exact HB.out)) hb); clear HO153; clear HO156; clear HO161; clear HO164; clear BK158; clear BK166; clear HB; have HO153 := n0_; have HO156 := n1_; have HO161 := n2_; have HO164 := n3_; have BK158 := n4_; have BK166 := n5_; have HB := n6_; clear n0_ n1_ n2_ n3_ n4_ n5_ n6_; (try clear hb); (try clear hb2); (try clear hk); (try clear hi)))
    go_meet
    case rel => exact ⟨_, ((t165 != t157)), (by first | rfl | (simp; done) | (simp [*]; done)), H', ⟨by first | omega | exact Nat.le_refl _⟩, ⟨rz_ (Kd.R_mono HO153.out (fun _ hk => hk.2))⟩, ⟨rz_ (Kd.R_mono HO156.out (fun _ hk => hk.2))⟩, ⟨rz_ (Kd.R_mono HO161.out (fun _ hk => hk.2))⟩, ⟨rz_ (Kd.R_mono HO164.out (fun _ hk => hk.2))⟩, ⟨bz_ BK158.out⟩, ⟨bz_ BK166.out⟩, ⟨by repeat (first | (with_reducible first | exact HB.out | apply below_alloc | apply pw_below_drewN | apply below_drew1 | refine below_set ?_ GE158.out | refine below_set ?_ GE166.out) | exact HB.out)⟩⟩
   ·replace c18 := Bool.eq_false_iff.mpr c18
    subst c18
    have H1 : (laws_FnExactParseRecord.j0 k a0 t157 true t151 t154 t159 t162) = some r := by rw [if_neg (show ¬ (false = true) by decide)] at H; exact H
    clear H
    have H := H1
    clear H1
    have H' := Aside0.mk H
    clear H
    have hnb23 := NB166_158.out
    have hnc23 := NB158_166.out
    have hcz24_0 : w12.cell? ⟨gb166, 0, none⟩ = some (.slice none 0 0) := (blk_cell BK166.out 0).trans rfl
    have hcz24_1 : w12.cell? ⟨gb166, 1, none⟩ = some (.slice none 0 0) := (blk_cell BK166.out 1).trans rfl
    have hfz24_0 := blk_frozen BK166.out 0
    have hfz24_1 := blk_frozen BK166.out 1
    have hcz25_0 : w12.cell? ⟨gb158, 0, none⟩ = some (.slice Ao8 t151.length co8) := (blk_cell BK158.out 0).trans rfl
    have hcz25_1 : w12.cell? ⟨gb158, 1, none⟩ = some (.slice Ao10 t154.length co10) := (blk_cell BK158.out 1).trans rfl
    have hfz25_0 := blk_frozen BK158.out 0
    have hfz25_1 := blk_frozen BK158.out 1
    go_wp2_with (first | ((with_reducible refine gate_callee (f := 39) rfl ?_); refine goesL_ (some 26) rfl rfl Tryd.func39 (by kernel_rfl) rfl #[.agg #[.slice Ao13 t159.length co13, .slice Ao16 t162.length co16], .agg #[.slice Ao8 t151.length co8, .slice Ao10 t154.length co10]] rfl (by (try simp only [List.map_toArray, List.map_cons, List.map_nil]); first | done | rfl | (simp only [List.length_drop, List.length_take]; rfl)) ?_; (with_reducible refine (laws_eqRecord.calls k _ _ t159 _ _ t162 _ _ t151 _ _ t154 false _ ?side1 ?side2 ?side3 ?side4 ?side5 ?side6 ?side7 ?side8 A17.out).mono ?_); (case side1 => refine (Kd.R_reads' (e := 94) (base := w.heap.size) (ok := fun k_ => (True ∧ some k_ ≠ (.slice Ao8 t151.length co8 : Value).ownBlock)) (n := t159.length) (c := co13) ?_).2.2; exact (rz_ (Kd.R_mono (Kd.R_far (p := ⟨gb166, 1, none⟩) (Kd.R_far (p := ⟨gb166, 0, none⟩) (Kd.R_types HO161.out BK166.out (by decide)) (fun _ hk => hk.2) (.slice Ao13 t159.length co13)) (fun _ hk => hk.2) (.slice Ao16 t162.length co16)) (fun _ h_ => h_.1)))); (case side2 => exact (Kd.R_reads' HO161.out).2.1); (case side3 => refine (Kd.R_reads' (e := 96) (base := w.heap.size) (ok := fun k_ => (True ∧ some k_ ≠ (.slice Ao10 t154.length co10 : Value).ownBlock)) (n := t162.length) (c := co16) ?_).2.2; exact (rz_ (Kd.R_mono (Kd.R_far (p := ⟨gb166, 1, none⟩) (Kd.R_far (p := ⟨gb166, 0, none⟩) (Kd.R_types HO164.out BK166.out (by decide)) (fun _ hk => hk.2) (.slice Ao13 t159.length co13)) (fun _ hk => hk.2) (.slice Ao16 t162.length co16)) (fun _ h_ => h_.1)))); (case side4 => exact (Kd.R_reads' HO164.out).2.1); (case side5 => refine (Kd.R_reads' (e := 94) (base := w.heap.size) (ok := fun k_ => (True ∧ some k_ ≠ (.slice Ao13 t159.length co13 : Value).ownBlock)) (n := t151.length) (c := co8) ?_).2.2; exact (rz_ (Kd.R_mono (Kd.R_far (p := ⟨gb166, 1, none⟩) (Kd.R_far (p := ⟨gb166, 0, none⟩) (Kd.R_types HO153.out BK166.out (by decide)) (fun _ hk => hk.2) (.slice Ao13 t159.length co13)) (fun _ hk => hk.2) (.slice Ao16 t162.length co16)) (fun _ h_ => h_.1)))); (case side6 => exact (Kd.R_reads' HO153.out).2.1); (case side7 => refine (Kd.R_reads' (e := 96) (base := w.heap.size) (ok := fun k_ => (True ∧ some k_ ≠ (.slice Ao16 t162.length co16 : Value).ownBlock)) (n := t154.length) (c := co10) ?_).2.2; exact (rz_ (Kd.R_mono (Kd.R_far (p := ⟨gb166, 1, none⟩) (Kd.R_far (p := ⟨gb166, 0, none⟩) (Kd.R_types HO156.out BK166.out (by decide)) (fun _ hk => hk.2) (.slice Ao13 t159.length co13)) (fun _ hk => hk.2) (.slice Ao16 t162.length co16)) (fun _ h_ => h_.1)))); (case side8 => exact (Kd.R_reads' HO156.out).2.1); rintro e w26 ⟨rfl, hb⟩; refine ⟨_, rfl, ?_⟩; have n0_ := Aside0.mk (Kd.R_below (rz_ (Kd.R_mono (Kd.R_far (p := ⟨gb166, 1, none⟩) (Kd.R_far (p := ⟨gb166, 0, none⟩) (Kd.R_types HO153.out BK166.out (by decide)) (fun _ hk => hk.2) (.slice Ao13 t159.length co13)) (fun _ hk => hk.2) (.slice Ao16 t162.length co16)) (fun _ h_ => h_.1))) hb); have n1_ := Aside0.mk (Kd.R_below (rz_ (Kd.R_mono (Kd.R_far (p := ⟨gb166, 1, none⟩) (Kd.R_far (p := ⟨gb166, 0, none⟩) (Kd.R_types HO156.out BK166.out (by decide)) (fun _ hk => hk.2) (.slice Ao13 t159.length co13)) (fun _ hk => hk.2) (.slice Ao16 t162.length co16)) (fun _ h_ => h_.1))) hb); have n2_ := Aside0.mk (Kd.R_below (rz_ (Kd.R_mono (Kd.R_far (p := ⟨gb166, 1, none⟩) (Kd.R_far (p := ⟨gb166, 0, none⟩) (Kd.R_types HO161.out BK166.out (by decide)) (fun _ hk => hk.2) (.slice Ao13 t159.length co13)) (fun _ hk => hk.2) (.slice Ao16 t162.length co16)) (fun _ h_ => h_.1))) hb); have n3_ := Aside0.mk (Kd.R_below (rz_ (Kd.R_mono (Kd.R_far (p := ⟨gb166, 1, none⟩) (Kd.R_far (p := ⟨gb166, 0, none⟩) (Kd.R_types HO164.out BK166.out (by decide)) (fun _ hk => hk.2) (.slice Ao13 t159.length co13)) (fun _ hk => hk.2) (.slice Ao16 t162.length co16)) (fun _ h_ => h_.1))) hb); have n4_ := Aside0.mk (blk_below (g := gb158) (o := .cells #[.slice Ao8 t151.length co8, .slice Ao10 t154.length co10] 52 (0, 0)) (by (with_reducible repeat (first | refine blk_drewN ?_ _ | refine blk_drew ?_ | refine blk_alloc ?_ _)); refine blk_far ?_ NB158_166.out _; (with_reducible repeat (first | refine blk_drewN ?_ _ | refine blk_drew ?_ | refine blk_alloc ?_ _)); refine blk_far ?_ NB158_166.out _; (with_reducible repeat (first | refine blk_drewN ?_ _ | refine blk_drew ?_ | refine blk_alloc ?_ _)); exact BK158.out) hb); have n5_ := Aside0.mk (blk_below (g := gb166) (o := .cells #[.slice Ao13 t159.length co13, .slice Ao16 t162.length co16] 52 (0, 0)) (by (with_reducible repeat (first | refine blk_drewN ?_ _ | refine blk_drew ?_ | refine blk_alloc ?_ _)); refine blk_put (cs := #[.slice Ao13 t159.length co13, .slice none 0 0]) ?_ 1 _ rfl; (with_reducible repeat (first | refine blk_drewN ?_ _ | refine blk_drew ?_ | refine blk_alloc ?_ _)); refine blk_put (cs := #[.slice none 0 0, .slice none 0 0]) ?_ 0 _ rfl; (with_reducible repeat (first | refine blk_drewN ?_ _ | refine blk_drew ?_ | refine blk_alloc ?_ _)); exact BK166.out) hb); have n6_ := Aside0.mk (below_step (by repeat (first | (with_reducible first | exact HB.out | apply below_alloc | apply pw_below_drewN | apply below_drew1 | refine below_set ?_ GE158.out | refine below_set ?_ GE166.out) | exact HB.out)) hb); clear HO153; clear HO156; clear HO161; clear HO164; clear BK158; clear BK166; clear HB; have HO153 := n0_; have HO156 := n1_; have HO161 := n2_; have HO164 := n3_; have BK158 := n4_; have BK166 := n5_; have HB := n6_; clear n0_ n1_ n2_ n3_ n4_ n5_ n6_; (try clear hb); (try clear hb2); (try clear hk); (try clear hi)))
    go_meet
    case rel => exact ⟨_, (true), (by first | rfl | (simp; done) | (simp [*]; done)), H', ⟨by first | omega | exact Nat.le_refl _⟩, ⟨rz_ (Kd.R_mono HO153.out (fun _ hk => hk.2))⟩, ⟨rz_ (Kd.R_mono HO156.out (fun _ hk => hk.2))⟩, ⟨rz_ (Kd.R_mono HO161.out (fun _ hk => hk.2))⟩, ⟨rz_ (Kd.R_mono HO164.out (fun _ hk => hk.2))⟩, ⟨bz_ BK158.out⟩, ⟨bz_ BK166.out⟩, ⟨by repeat (first | (with_reducible first | exact HB.out | apply below_alloc | apply pw_below_drewN | apply below_drew1 | refine below_set ?_ GE158.out | refine below_set ?_ GE166.out) | exact HB.out)⟩⟩
  case rest =>
   clear HC5
   try clear c1
   try clear c2
   try clear c2b0
   try clear c2b1
   try clear p2
   try clear c3
   try clear c4
   try clear c12
   try clear c14
   try clear c18
   try clear c19
   try clear c23
   try clear hcz15_0
   try clear hcz15_1
   try clear hcz20_0
   try clear hcz20_1
   try clear hcz21_0
   try clear hcz21_1
   try clear hcz24_0
   try clear hcz24_1
   try clear hcz25_0
   try clear hcz25_1
   try clear hcz9_0
   try clear hcz9_1
   try clear hfz15_0
   try clear hfz15_1
   try clear hfz20_0
   try clear hfz20_1
   try clear hfz21_0
   try clear hfz21_1
   try clear hfz24_0
   try clear hfz24_1
   try clear hfz25_0
   try clear hfz25_1
   try clear hfz9_0
   try clear hfz9_1
   obtain ⟨kq, x32_4, rfl, HA, HJ4, HO_159000, HO_159001, HO_167000, HO_167001, BK158, BK166, HB⟩ := hcut
   cases kq with
   | zero => exact absurd HA.out (by simp [laws_FnExactParseRecord.j0])
   | succ kj4 =>
    have H := HA.out
    clear HA
    simp only [laws_FnExactParseRecord.j0] at H
    by_cases c27 : x32_4 = true
    ·subst c27
     have H1 : (some false) = some r := by rw [if_pos rfl] at H; exact H
     clear H
     have H := H1
     clear H1
     obtain rfl := Option.some.inj H
     go_wp2
     go_ret
     exact ⟨by first | rfl | (simp [errW_none, errW_some] <;> rfl) | (simp [*, errW_none, errW_some] <;> rfl), by repeat (first | (with_reducible first | exact HB.out | apply below_alloc | apply pw_below_drewN | apply below_drew1 | refine below_set ?_ GE158.out | refine below_set ?_ GE166.out) | exact HB.out)⟩
    ·replace c27 := Bool.eq_false_iff.mpr c27
     subst c27
     have H1 : ((laws_markRecord.f kj4 t159 t162 1).bind fun bt168 => ((laws_heldRecord.f kj4 bt168.2.1 bt168.2.2 1).bind fun t171 => (if t171 < 0 then (some false) else (if t171 = bt168.1 then ((impl_ParseRecord.f kj4 a0).bind fun bt172 => ((laws_eqRecord.f kj4 bt172.1 bt172.2.1 t151 t154).bind fun t180 => (if t180 = true then (laws_FnExactParseRecord.j1 kj4 bt168.1 (bt172.2.2 != t157) bt168.2.1 bt168.2.2) else (laws_FnExactParseRecord.j1 kj4 bt168.1 true bt168.2.1 bt168.2.2)))) else (some false))))) = some r := by rw [if_neg (show ¬ (false = true) by decide)] at H; exact H
     clear H
     have H := H1
     clear H1
     replace H := Option.bind_eq_some_iff.mp H
     obtain ⟨⟨t168, t169, t170⟩, A280, H⟩ := H
     replace H : ((laws_heldRecord.f kj4 t169 t170 1).bind fun t171 => (if t171 < 0 then (some false) else (if t171 = t168 then ((impl_ParseRecord.f kj4 a0).bind fun bt172 => ((laws_eqRecord.f kj4 bt172.1 bt172.2.1 t151 t154).bind fun t180 => (if t180 = true then (laws_FnExactParseRecord.j1 kj4 t168 (bt172.2.2 != t157) t169 t170) else (laws_FnExactParseRecord.j1 kj4 t168 true t169 t170)))) else (some false)))) = some r := H
     have A28 := Aside0.mk A280
     clear A280
     replace H := Option.bind_eq_some_iff.mp H
     obtain ⟨t171, A290, H⟩ := H
     replace H : (if t171 < 0 then (some false) else (if t171 = t168 then ((impl_ParseRecord.f kj4 a0).bind fun bt172 => ((laws_eqRecord.f kj4 bt172.1 bt172.2.1 t151 t154).bind fun t180 => (if t180 = true then (laws_FnExactParseRecord.j1 kj4 t168 (bt172.2.2 != t157) t169 t170) else (laws_FnExactParseRecord.j1 kj4 t168 true t169 t170)))) else (some false))) = some r := H
     have A29 := Aside0.mk A290
     clear A290
     by_cases c30 : t171 < 0
     ·rw [if_pos c30] at H
      have c30b0 : decide (t171 < 0) = true := decide_eq_true c30
      clear c30
      obtain rfl := Option.some.inj H
      have hnb31 := NB166_158.out
      have hnc31 := NB158_166.out
      have hcz32_0 : wc.cell? ⟨gb166, 0, none⟩ = some (.slice Ao13 t159.length co13) := (blk_cell BK166.out 0).trans rfl
      have hcz32_1 : wc.cell? ⟨gb166, 1, none⟩ = some (.slice Ao16 t162.length co16) := (blk_cell BK166.out 1).trans rfl
      have hfz32_0 := blk_frozen BK166.out 0
      have hfz32_1 := blk_frozen BK166.out 1
      go_wp2_with (first | ((with_reducible refine gate_callee (f := 42) rfl ?_); refine goesL_ (some 35) rfl rfl Tryd.func42 (by kernel_rfl) rfl #[.agg #[.slice Ao13 t159.length co13, .slice Ao16 t162.length co16], .int .i64 1] rfl (by (try simp only [List.map_toArray, List.map_cons, List.map_nil]); first | done | rfl | (simp only [List.length_drop, List.length_take]; rfl)) ?_; (with_reducible refine (laws_markRecord.calls kj4 (fun k_ => some k_ = (.slice Ao13 t159.length co13 : Value).ownBlock) (.slice Ao13 t159.length co13) t159 (fun k_ => some k_ = (.slice Ao16 t162.length co16 : Value).ownBlock) (.slice Ao16 t162.length co16) t162 1 t168 t169 t170 w _ ?side1 ?side2 ?side3 A28.out).mono ?_); (case side1 => repeat (first | (with_reducible first | exact HB.out | apply below_alloc | apply pw_below_drewN | apply below_drew1 | refine below_set ?_ GE158.out | refine below_set ?_ GE166.out) | exact HB.out)); (case side2 => exact Kd.R_tight rfl HO_167000.out); (case side3 => exact Kd.R_tight rfl HO_167001.out); rintro e w33 ⟨rfl, hy0, hy1, hb, hkp⟩; refine ⟨_, rfl, ?_⟩; have n0_ := Aside0.mk (Kd.R_mono (ok' := fun k_ => some k_ ≠ (.slice Ao13 t159.length co13 : Value).ownBlock) (Kd.R_keptB ((Kd.R_apart' HO_159000.out (Kd.R_typed HO_167001.out) (by decide))) hkp (fun k_ hk_ hs_ => Or.elim hs_ (fun e_ => (hk_.1) e_) (fun e_ => (hk_.2) e_))) (fun k_ hk_ => hk_.1.1)); have n1_ := Aside0.mk (Kd.R_mono (ok' := fun k_ => some k_ ≠ (.slice Ao16 t162.length co16 : Value).ownBlock) (Kd.R_keptB ((Kd.R_apart' HO_159001.out (Kd.R_typed HO_167000.out) (by decide))) hkp (fun k_ hk_ hs_ => Or.elim hs_ (fun e_ => (hk_.2) e_) (fun e_ => (hk_.1) e_))) (fun k_ hk_ => hk_.1.1)); have n2_ := Aside0.mk (Kd.R_reok rfl hy0 (fun k_ e_ => HO_167000.out.1 k_ e_)); have n3_ := Aside0.mk (Kd.R_reok rfl hy1 (fun k_ e_ => HO_167001.out.1 k_ e_)); have n4_ := Aside0.mk (blk_kept (bz_ BK158.out) hkp (fun hs_ => Or.elim hs_ (fun e_ => (fun e_ => (Kd.R_ne HO_167000.out BK158.out (by decide)) e_) e_) (fun e_ => (fun e_ => (Kd.R_ne HO_167001.out BK158.out (by decide)) e_) e_))); have n5_ := Aside0.mk (blk_kept (bz_ BK166.out) hkp (fun hs_ => Or.elim hs_ (fun e_ => (fun e_ => (Kd.R_ne HO_167000.out BK166.out (by decide)) e_) e_) (fun e_ => (fun e_ => (Kd.R_ne HO_167001.out BK166.out (by decide)) e_) e_))); have n6_ := Aside0.mk (hb); clear HO_159000; clear HO_159001; clear HO_167000; clear HO_167001; clear BK158; clear BK166; clear HB; have HO_159000 := n0_; have HO_159001 := n1_; have HO_167000 := n2_; have HO_167001 := n3_; have BK158 := n4_; have BK166 := n5_; have HB := n6_; clear n0_ n1_ n2_ n3_ n4_ n5_ n6_; (try clear hb); (try clear hkp); (try clear hy0); (try clear hy1); have hcz34_0 : w33.cell? ⟨gb166, 0, none⟩ = some (.slice Ao13 t159.length co13) := (blk_cell BK166.out 0).trans rfl; have hcz34_1 : w33.cell? ⟨gb166, 1, none⟩ = some (.slice Ao16 t162.length co16) := (blk_cell BK166.out 1).trans rfl; have hfz34_0 := blk_frozen BK166.out 0; have hfz34_1 := blk_frozen BK166.out 1) | ((with_reducible refine gate_callee (f := 45) rfl ?_); refine goesL_ (some 38) rfl rfl Tryd.func45 (by kernel_rfl) rfl #[.agg #[.slice Ao13 t169.length co13, .slice Ao16 t170.length co16], .int .i64 1] rfl (by (try simp only [List.map_toArray, List.map_cons, List.map_nil]); first | done | (rw [show t169.length = t159.length from (Kd.R_reads' HO_167000.out).1.symm, show t170.length = t162.length from (Kd.R_reads' HO_167001.out).1.symm] <;> rfl) | rfl | (simp only [List.length_drop, List.length_take]; rfl)) ?_; (with_reducible refine (laws_heldRecord.calls kj4 _ _ t169 _ _ t170 1 t171 _ ?side1 ?side2 ?side3 ?side4 A29.out).mono ?_); (case side1 => exact cz_ (Kd.R_reads' HO_167000.out).2.2); (case side2 => rw [show t169.length = t159.length from (Kd.R_reads' HO_167000.out).1.symm]; exact (Kd.R_reads' HO_167000.out).2.1); (case side3 => exact cz_ (Kd.R_reads' HO_167001.out).2.2); (case side4 => rw [show t170.length = t162.length from (Kd.R_reads' HO_167001.out).1.symm]; exact (Kd.R_reads' HO_167001.out).2.1); rintro e w35 ⟨rfl, hb⟩; refine ⟨_, rfl, ?_⟩; have n0_ := Aside0.mk (Kd.R_below (rz_ HO_159000.out) hb); have n1_ := Aside0.mk (Kd.R_below (rz_ HO_159001.out) hb); have n2_ := Aside0.mk (Kd.R_below (rz_ HO_167000.out) hb); have n3_ := Aside0.mk (Kd.R_below (rz_ HO_167001.out) hb); have n4_ := Aside0.mk (blk_below (bz_ BK158.out) hb); have n5_ := Aside0.mk (blk_below (bz_ BK166.out) hb); have n6_ := Aside0.mk (below_step (by repeat (first | (with_reducible first | exact HB.out | apply below_alloc | apply pw_below_drewN | apply below_drew1 | refine below_set ?_ GE158.out | refine below_set ?_ GE166.out) | exact HB.out)) hb); clear HO_159000; clear HO_159001; clear HO_167000; clear HO_167001; clear BK158; clear BK166; clear HB; have HO_159000 := n0_; have HO_159001 := n1_; have HO_167000 := n2_; have HO_167001 := n3_; have BK158 := n4_; have BK166 := n5_; have HB := n6_; clear n0_ n1_ n2_ n3_ n4_ n5_ n6_; (try clear hb); (try clear hb2); (try clear hk); (try clear hi)))
      go_ret
      exact ⟨by first | rfl | (simp [errW_none, errW_some] <;> rfl) | (simp [*, errW_none, errW_some] <;> rfl), by repeat (first | (with_reducible first | exact HB.out | apply below_alloc | apply pw_below_drewN | apply below_drew1 | refine below_set ?_ GE158.out | refine below_set ?_ GE166.out) | exact HB.out)⟩
     ·rw [if_neg c30] at H
      have c30b0 : decide (t171 < 0) = false := decide_eq_false c30
      clear c30
      by_cases c36 : t171 = t168
      ·rw [if_pos c36] at H
       have c36b0 : (t171 == t168) = true := beq_iff_eq.mpr c36
       have c36b1 : (t171 != t168) = false := bne_eq_false_iff_eq.mpr c36
       clear c36
       replace H := Option.bind_eq_some_iff.mp H
       obtain ⟨⟨t172, t175, t178⟩, A370, H⟩ := H
       replace H : ((laws_eqRecord.f kj4 t172 t175 t151 t154).bind fun t180 => (if t180 = true then (laws_FnExactParseRecord.j1 kj4 t168 (t178 != t157) t169 t170) else (laws_FnExactParseRecord.j1 kj4 t168 true t169 t170))) = some r := H
       have A37 := Aside0.mk A370
       clear A370
       have HC38 := Aside0.mk H
       clear H
       have hnb39 := NB166_158.out
       have hnc39 := NB158_166.out
       have hcz40_0 : wc.cell? ⟨gb166, 0, none⟩ = some (.slice Ao13 t159.length co13) := (blk_cell BK166.out 0).trans rfl
       have hcz40_1 : wc.cell? ⟨gb166, 1, none⟩ = some (.slice Ao16 t162.length co16) := (blk_cell BK166.out 1).trans rfl
       have hfz40_0 := blk_frozen BK166.out 0
       have hfz40_1 := blk_frozen BK166.out 1
       go_upto_region 16 with (first | ((with_reducible refine gate_callee (f := 42) rfl ?_); refine goesL_ (some 35) rfl rfl Tryd.func42 (by kernel_rfl) rfl #[.agg #[.slice Ao13 t159.length co13, .slice Ao16 t162.length co16], .int .i64 1] rfl (by (try simp only [List.map_toArray, List.map_cons, List.map_nil]); first | done | rfl | (simp only [List.length_drop, List.length_take]; rfl)) ?_; (with_reducible refine (laws_markRecord.calls kj4 (fun k_ => some k_ = (.slice Ao13 t159.length co13 : Value).ownBlock) (.slice Ao13 t159.length co13) t159 (fun k_ => some k_ = (.slice Ao16 t162.length co16 : Value).ownBlock) (.slice Ao16 t162.length co16) t162 1 t168 t169 t170 w _ ?side1 ?side2 ?side3 A28.out).mono ?_); (case side1 => repeat (first | (with_reducible first | exact HB.out | apply below_alloc | apply pw_below_drewN | apply below_drew1 | refine below_set ?_ GE158.out | refine below_set ?_ GE166.out) | exact HB.out)); (case side2 => exact Kd.R_tight rfl HO_167000.out); (case side3 => exact Kd.R_tight rfl HO_167001.out); rintro e w41 ⟨rfl, hy0, hy1, hb, hkp⟩; refine ⟨_, rfl, ?_⟩; have n0_ := Aside0.mk (Kd.R_mono (ok' := fun k_ => some k_ ≠ (.slice Ao13 t159.length co13 : Value).ownBlock) (Kd.R_keptB ((Kd.R_apart' HO_159000.out (Kd.R_typed HO_167001.out) (by decide))) hkp (fun k_ hk_ hs_ => Or.elim hs_ (fun e_ => (hk_.1) e_) (fun e_ => (hk_.2) e_))) (fun k_ hk_ => hk_.1.1)); have n1_ := Aside0.mk (Kd.R_mono (ok' := fun k_ => some k_ ≠ (.slice Ao16 t162.length co16 : Value).ownBlock) (Kd.R_keptB ((Kd.R_apart' HO_159001.out (Kd.R_typed HO_167000.out) (by decide))) hkp (fun k_ hk_ hs_ => Or.elim hs_ (fun e_ => (hk_.2) e_) (fun e_ => (hk_.1) e_))) (fun k_ hk_ => hk_.1.1)); have n2_ := Aside0.mk (Kd.R_reok rfl hy0 (fun k_ e_ => HO_167000.out.1 k_ e_)); have n3_ := Aside0.mk (Kd.R_reok rfl hy1 (fun k_ e_ => HO_167001.out.1 k_ e_)); have n4_ := Aside0.mk (blk_kept (bz_ BK158.out) hkp (fun hs_ => Or.elim hs_ (fun e_ => (fun e_ => (Kd.R_ne HO_167000.out BK158.out (by decide)) e_) e_) (fun e_ => (fun e_ => (Kd.R_ne HO_167001.out BK158.out (by decide)) e_) e_))); have n5_ := Aside0.mk (blk_kept (bz_ BK166.out) hkp (fun hs_ => Or.elim hs_ (fun e_ => (fun e_ => (Kd.R_ne HO_167000.out BK166.out (by decide)) e_) e_) (fun e_ => (fun e_ => (Kd.R_ne HO_167001.out BK166.out (by decide)) e_) e_))); have n6_ := Aside0.mk (hb); clear HO_159000; clear HO_159001; clear HO_167000; clear HO_167001; clear BK158; clear BK166; clear HB; have HO_159000 := n0_; have HO_159001 := n1_; have HO_167000 := n2_; have HO_167001 := n3_; have BK158 := n4_; have BK166 := n5_; have HB := n6_; clear n0_ n1_ n2_ n3_ n4_ n5_ n6_; (try clear hb); (try clear hkp); (try clear hy0); (try clear hy1); have hcz42_0 : w41.cell? ⟨gb166, 0, none⟩ = some (.slice Ao13 t159.length co13) := (blk_cell BK166.out 0).trans rfl; have hcz42_1 : w41.cell? ⟨gb166, 1, none⟩ = some (.slice Ao16 t162.length co16) := (blk_cell BK166.out 1).trans rfl; have hfz42_0 := blk_frozen BK166.out 0; have hfz42_1 := blk_frozen BK166.out 1) | ((with_reducible refine gate_callee (f := 45) rfl ?_); refine goesL_ (some 38) rfl rfl Tryd.func45 (by kernel_rfl) rfl #[.agg #[.slice Ao13 t169.length co13, .slice Ao16 t170.length co16], .int .i64 1] rfl (by (try simp only [List.map_toArray, List.map_cons, List.map_nil]); first | done | (rw [show t169.length = t159.length from (Kd.R_reads' HO_167000.out).1.symm, show t170.length = t162.length from (Kd.R_reads' HO_167001.out).1.symm] <;> rfl) | rfl | (simp only [List.length_drop, List.length_take]; rfl)) ?_; (with_reducible refine (laws_heldRecord.calls kj4 _ _ t169 _ _ t170 1 t171 _ ?side1 ?side2 ?side3 ?side4 A29.out).mono ?_); (case side1 => exact cz_ (Kd.R_reads' HO_167000.out).2.2); (case side2 => rw [show t169.length = t159.length from (Kd.R_reads' HO_167000.out).1.symm]; exact (Kd.R_reads' HO_167000.out).2.1); (case side3 => exact cz_ (Kd.R_reads' HO_167001.out).2.2); (case side4 => rw [show t170.length = t162.length from (Kd.R_reads' HO_167001.out).1.symm]; exact (Kd.R_reads' HO_167001.out).2.1); rintro e w43 ⟨rfl, hb⟩; refine ⟨_, rfl, ?_⟩; have n0_ := Aside0.mk (Kd.R_below (rz_ HO_159000.out) hb); have n1_ := Aside0.mk (Kd.R_below (rz_ HO_159001.out) hb); have n2_ := Aside0.mk (Kd.R_below (rz_ HO_167000.out) hb); have n3_ := Aside0.mk (Kd.R_below (rz_ HO_167001.out) hb); have n4_ := Aside0.mk (blk_below (bz_ BK158.out) hb); have n5_ := Aside0.mk (blk_below (bz_ BK166.out) hb); have n6_ := Aside0.mk (below_step (by repeat (first | (with_reducible first | exact HB.out | apply below_alloc | apply pw_below_drewN | apply below_drew1 | refine below_set ?_ GE158.out | refine below_set ?_ GE166.out) | exact HB.out)) hb); clear HO_159000; clear HO_159001; clear HO_167000; clear HO_167001; clear BK158; clear BK166; clear HB; have HO_159000 := n0_; have HO_159001 := n1_; have HO_167000 := n2_; have HO_167001 := n3_; have BK158 := n4_; have BK166 := n5_; have HB := n6_; clear n0_ n1_ n2_ n3_ n4_ n5_ n6_; (try clear hb); (try clear hb2); (try clear hk); (try clear hi)) | ((with_reducible refine gate_callee (f := 44) rfl ?_); refine goesL_ (some 46) rfl rfl Tryd.func44 (by kernel_rfl) rfl #[.string a0] rfl (by (try simp only [List.map_toArray, List.map_cons, List.map_nil]); first | done | rfl | (simp only [List.length_drop, List.length_take]; rfl)) ?_; (with_reducible refine (impl_ParseRecord.calls kj4 a0 t172 t175 t178 _ A37.out (WF.below HWF.out (by repeat (first | (with_reducible first | exact HB.out | apply below_alloc | apply pw_below_drewN | apply below_drew1 | refine below_set ?_ GE158.out | refine below_set ?_ GE166.out) | exact HB.out)))).mono ?_); rintro e w44 ⟨v173, v176, rfl, ho0, ho1, hb⟩; refine ⟨_, rfl, ?_⟩; have n0_ := Aside0.mk (Kd.R_elder' (rz_ HO_159000.out) (Kd.R_base ho0) hb); have n1_ := Aside0.mk (Kd.R_elder' (rz_ HO_159001.out) (Kd.R_base ho1) hb); have n2_ := Aside0.mk (Kd.R_elder' (rz_ HO_167000.out) (Kd.R_base ho0) hb); have n3_ := Aside0.mk (Kd.R_elder' (rz_ HO_167001.out) (Kd.R_base ho1) hb); have n4_ := Aside0.mk (Kd.R_lower (Kd.R_new' (Kd.R_new' ho0 (Kd.R_lt (rz_ HO_159000.out))) (Kd.R_lt (rz_ HO_167000.out))) (below_size (by repeat (first | (with_reducible first | exact HB.out | apply below_alloc | apply pw_below_drewN | apply below_drew1 | refine below_set ?_ GE158.out | refine below_set ?_ GE166.out) | exact HB.out)))); have n5_ := Aside0.mk (Kd.R_lower (Kd.R_new' (Kd.R_new' ho1 (Kd.R_lt (rz_ HO_159001.out))) (Kd.R_lt (rz_ HO_167001.out))) (below_size (by repeat (first | (with_reducible first | exact HB.out | apply below_alloc | apply pw_below_drewN | apply below_drew1 | refine below_set ?_ GE158.out | refine below_set ?_ GE166.out) | exact HB.out)))); have n6_ := Aside0.mk (blk_below (bz_ BK158.out) hb); have n7_ := Aside0.mk (blk_below (bz_ BK166.out) hb); have n8_ := Aside0.mk (below_step (by repeat (first | (with_reducible first | exact HB.out | apply below_alloc | apply pw_below_drewN | apply below_drew1 | refine below_set ?_ GE158.out | refine below_set ?_ GE166.out) | exact HB.out)) hb); clear HO_159000; clear HO_159001; clear HO_167000; clear HO_167001; clear BK158; clear BK166; clear HB; have HO_159000 := n0_; have HO_159001 := n1_; have HO_167000 := n2_; have HO_167001 := n3_; have HO174 := n4_; have HO177 := n5_; have BK158 := n6_; have BK166 := n7_; have HB := n8_; clear n0_ n1_ n2_ n3_ n4_ n5_ n6_ n7_ n8_; (try clear hb); (try clear hb2); (try clear hk); (try clear hi); (try clear ho0); (try clear ho1)) | ((with_reducible refine gate_dst (N := 9) rfl ?_); refine box_event ?hg (N := 9) ?hd (cs := #[.slice none 0 0, .slice none 0 0]) (t := 52) ?hr ?_; (case hd => rfl); (case hg => rfl); (case hr => first | (go_simp; done) | (go_simp; rfl)); intro gb179 hg w45 hbox hb; have n0_ := Aside0.mk (Kd.R_below (rz_ HO_159000.out) hb); have n1_ := Aside0.mk (Kd.R_below (rz_ HO_159001.out) hb); have n2_ := Aside0.mk (Kd.R_below (rz_ HO_167000.out) hb); have n3_ := Aside0.mk (Kd.R_below (rz_ HO_167001.out) hb); have n4_ := Aside0.mk (Kd.R_below (rz_ HO174.out) hb); have n5_ := Aside0.mk (Kd.R_below (rz_ HO177.out) hb); have n6_ := Aside0.mk (blk_below (bz_ BK158.out) hb); have n7_ := Aside0.mk (blk_below (bz_ BK166.out) hb); have n8_ := Aside0.mk (below_step (by repeat (first | (with_reducible first | exact HB.out | apply below_alloc | apply pw_below_drewN | apply below_drew1 | refine below_set ?_ GE158.out | refine below_set ?_ GE166.out) | exact HB.out)) hb); have n9_ := Aside0.mk (hbox); have n10_ := Aside0.mk ((by rw [hg]; exact (below_size (by repeat (first | (with_reducible first | exact HB.out | apply below_alloc | apply pw_below_drewN | apply below_drew1 | refine below_set ?_ GE158.out | refine below_set ?_ GE166.out) | exact HB.out))) : w.heap.size ≤ gb179)); have n11_ := Aside0.mk ((by rw [hg]; exact (below_size (by repeat (first | (with_reducible first | exact HB.out | apply below_alloc | apply pw_below_drewN | apply below_drew1 | refine below_set ?_ GE158.out | refine below_set ?_ GE166.out) | exact HB.out))) : w.heap.size ≤ gb179)); have n12_ := Aside0.mk ((by rw [hg]; exact Nat.ne_of_lt (blk_lt (g := gb158) (o := .cells #[.slice Ao8 t151.length co8, .slice Ao10 t154.length co10] 52 (0, 0)) (bz_ BK158.out)) : gb158 ≠ gb179)); have n13_ := Aside0.mk ((by rw [hg]; exact Nat.ne_of_gt (blk_lt (g := gb158) (o := .cells #[.slice Ao8 t151.length co8, .slice Ao10 t154.length co10] 52 (0, 0)) (bz_ BK158.out)) : gb179 ≠ gb158)); have n14_ := Aside0.mk ((by rw [hg]; exact Nat.ne_of_lt (blk_lt (g := gb166) (o := .cells #[.slice Ao13 t159.length co13, .slice Ao16 t162.length co16] 52 (0, 0)) (bz_ BK166.out)) : gb166 ≠ gb179)); have n15_ := Aside0.mk ((by rw [hg]; exact Nat.ne_of_gt (blk_lt (g := gb166) (o := .cells #[.slice Ao13 t159.length co13, .slice Ao16 t162.length co16] 52 (0, 0)) (bz_ BK166.out)) : gb179 ≠ gb166)); clear HO_159000; clear HO_159001; clear HO_167000; clear HO_167001; clear HO174; clear HO177; clear BK158; clear BK166; clear HB; have HO_159000 := n0_; have HO_159001 := n1_; have HO_167000 := n2_; have HO_167001 := n3_; have HO174 := n4_; have HO177 := n5_; have BK158 := n6_; have BK166 := n7_; have HB := n8_; have BK179 := n9_; have GW179 := n10_; have GE179 := n11_; have NB158_179 := n12_; have NB179_158 := n13_; have NB166_179 := n14_; have NB179_166 := n15_; clear n0_ n1_ n2_ n3_ n4_ n5_ n6_ n7_ n8_ n9_ n10_ n11_ n12_ n13_ n14_ n15_; clear hb hbox hg; obtain ⟨Ao46, co46, eo46⟩ := Kd.R_slice HO174.out; subst eo46; have hnb47 := NB179_158.out; have hnc47 := NB158_179.out; have hnb48 := NB179_166.out; have hnc48 := NB166_179.out; have hcz49_0 : w45.cell? ⟨gb179, 0, none⟩ = some (.slice none 0 0) := (blk_cell BK179.out 0).trans rfl; have hcz49_1 : w45.cell? ⟨gb179, 1, none⟩ = some (.slice none 0 0) := (blk_cell BK179.out 1).trans rfl; have hfz49_0 := blk_frozen BK179.out 0; have hfz49_1 := blk_frozen BK179.out 1; obtain ⟨Ao50, co50, eo50⟩ := Kd.R_slice HO177.out; subst eo50))
       (try simp only [Act.put, List.setIfInBounds_toArray, List.set_cons_zero, List.set_cons_succ])
       go_cut [57] (fun v57 wc => ∃ (kq : Nat) (x57_37 : Bool), v57 = .bool x57_37 ∧ Aside0 (laws_FnExactParseRecord.j1 kq t168 x57_37 t169 t170 = some r) ∧ Aside0 (kq ≤ kj4) ∧ Aside0 (Kd.R k94 94 wc w.heap.size (fun k_ => some k_ ≠ ((.slice Ao13 t159.length co13) : Value).ownBlock ∧ some k_ ≠ ((.slice Ao46 t172.length co46) : Value).ownBlock) (.slice Ao8 t151.length co8) t151) ∧ Aside0 (Kd.R k96 96 wc w.heap.size (fun k_ => some k_ ≠ ((.slice Ao16 t162.length co16) : Value).ownBlock ∧ some k_ ≠ ((.slice Ao50 t175.length co50) : Value).ownBlock) (.slice Ao10 t154.length co10) t154) ∧ Aside0 (Kd.R k94 94 wc w.heap.size (fun k_ => some k_ ≠ ((.slice Ao8 t151.length co8) : Value).ownBlock ∧ some k_ ≠ ((.slice Ao46 t172.length co46) : Value).ownBlock) (.slice Ao13 t159.length co13) t169) ∧ Aside0 (Kd.R k96 96 wc w.heap.size (fun k_ => some k_ ≠ ((.slice Ao10 t154.length co10) : Value).ownBlock ∧ some k_ ≠ ((.slice Ao50 t175.length co50) : Value).ownBlock) (.slice Ao16 t162.length co16) t170) ∧ Aside0 (Kd.R k94 94 wc w.heap.size (fun k_ => some k_ ≠ ((.slice Ao8 t151.length co8) : Value).ownBlock ∧ some k_ ≠ ((.slice Ao13 t159.length co13) : Value).ownBlock) (.slice Ao46 t172.length co46) t172) ∧ Aside0 (Kd.R k96 96 wc w.heap.size (fun k_ => some k_ ≠ ((.slice Ao10 t154.length co10) : Value).ownBlock ∧ some k_ ≠ ((.slice Ao16 t162.length co16) : Value).ownBlock) (.slice Ao50 t175.length co50) t175) ∧ Aside0 (wc.heap[gb158]? = some (.cells #[(.slice Ao8 t151.length co8), (.slice Ao10 t154.length co10)] 52 (0, 0))) ∧ Aside0 (wc.heap[gb166]? = some (.cells #[(.slice Ao13 t159.length co13), (.slice Ao16 t162.length co16)] 52 (0, 0))) ∧ Aside0 (wc.heap[gb179]? = some (.cells #[(.slice Ao46 t172.length co46), (.slice Ao50 t175.length co50)] 52 (0, 0))) ∧ Aside0 (Below w.heap.size w wc))
       case first =>
        have H := HC38.out
        clear HC38
        replace H := Option.bind_eq_some_iff.mp H
        obtain ⟨t180, A510, H⟩ := H
        replace H : (if t180 = true then (laws_FnExactParseRecord.j1 kj4 t168 (t178 != t157) t169 t170) else (laws_FnExactParseRecord.j1 kj4 t168 true t169 t170)) = some r := H
        have A51 := Aside0.mk A510
        clear A510
        by_cases c52 : t180 = true
        ·subst c52
         have H1 : (laws_FnExactParseRecord.j1 kj4 t168 (t178 != t157) t169 t170) = some r := by rw [if_pos rfl] at H; exact H
         clear H
         have H := H1
         clear H1
         have H' := Aside0.mk H
         clear H
         have hnb53 := NB179_158.out
         have hnc53 := NB158_179.out
         have hnb54 := NB179_166.out
         have hnc54 := NB166_179.out
         have hcz55_0 : w45.cell? ⟨gb179, 0, none⟩ = some (.slice none 0 0) := (blk_cell BK179.out 0).trans rfl
         have hcz55_1 : w45.cell? ⟨gb179, 1, none⟩ = some (.slice none 0 0) := (blk_cell BK179.out 1).trans rfl
         have hfz55_0 := blk_frozen BK179.out 0
         have hfz55_1 := blk_frozen BK179.out 1
         have hnb56 := NB158_166.out
         have hnc56 := NB166_158.out
         have hcz57_0 : w45.cell? ⟨gb158, 0, none⟩ = some (.slice Ao8 t151.length co8) := (blk_cell BK158.out 0).trans rfl
         have hcz57_1 : w45.cell? ⟨gb158, 1, none⟩ = some (.slice Ao10 t154.length co10) := (blk_cell BK158.out 1).trans rfl
         have hfz57_0 := blk_frozen BK158.out 0
         have hfz57_1 := blk_frozen BK158.out 1
         go_wp2_with (first | ((with_reducible refine gate_callee (f := 39) rfl ?_); refine goesL_ (some 51) rfl rfl Tryd.func39 (by kernel_rfl) rfl #[.agg #[.slice Ao46 t172.length co46, .slice Ao50 t175.length co50], .agg #[.slice Ao8 t151.length co8, .slice Ao10 t154.length co10]] rfl (by (try simp only [List.map_toArray, List.map_cons, List.map_nil]); first | done | rfl | (simp only [List.length_drop, List.length_take]; rfl)) ?_; (with_reducible refine (laws_eqRecord.calls kj4 _ _ t172 _ _ t175 _ _ t151 _ _ t154 true _ ?side1 ?side2 ?side3 ?side4 ?side5 ?side6 ?side7 ?side8 A51.out).mono ?_); (case side1 => refine (Kd.R_reads' (e := 94) (base := w.heap.size) (ok := fun k_ => ((True ∧ some k_ ≠ (.slice Ao8 t151.length co8 : Value).ownBlock) ∧ some k_ ≠ (.slice Ao13 t159.length co13 : Value).ownBlock)) (n := t172.length) (c := co46) ?_).2.2; exact (rz_ (Kd.R_mono (Kd.R_far (p := ⟨gb179, 1, none⟩) (Kd.R_far (p := ⟨gb179, 0, none⟩) (Kd.R_types HO174.out BK179.out (by decide)) (fun _ hk => hk.2) (.slice Ao46 t172.length co46)) (fun _ hk => hk.2) (.slice Ao50 t175.length co50)) (fun _ h_ => h_.1)))); (case side2 => exact (Kd.R_reads' HO174.out).2.1); (case side3 => refine (Kd.R_reads' (e := 96) (base := w.heap.size) (ok := fun k_ => ((True ∧ some k_ ≠ (.slice Ao10 t154.length co10 : Value).ownBlock) ∧ some k_ ≠ (.slice Ao16 t162.length co16 : Value).ownBlock)) (n := t175.length) (c := co50) ?_).2.2; exact (rz_ (Kd.R_mono (Kd.R_far (p := ⟨gb179, 1, none⟩) (Kd.R_far (p := ⟨gb179, 0, none⟩) (Kd.R_types HO177.out BK179.out (by decide)) (fun _ hk => hk.2) (.slice Ao46 t172.length co46)) (fun _ hk => hk.2) (.slice Ao50 t175.length co50)) (fun _ h_ => h_.1)))); (case side4 => exact (Kd.R_reads' HO177.out).2.1); (case side5 => refine (Kd.R_reads' (e := 94) (base := w.heap.size) (ok := fun k_ => (some k_ ≠ (.slice Ao13 t159.length co13 : Value).ownBlock ∧ some k_ ≠ (.slice Ao46 t172.length co46 : Value).ownBlock)) (n := t151.length) (c := co8) ?_).2.2; exact (rz_ (Kd.R_mono (Kd.R_far (p := ⟨gb179, 1, none⟩) (Kd.R_far (p := ⟨gb179, 0, none⟩) (Kd.R_types HO_159000.out BK179.out (by decide)) (fun _ hk => hk.2) (.slice Ao46 t172.length co46)) (fun _ hk => hk.2) (.slice Ao50 t175.length co50)) (fun _ h_ => h_.1)))); (case side6 => exact (Kd.R_reads' HO_159000.out).2.1); (case side7 => refine (Kd.R_reads' (e := 96) (base := w.heap.size) (ok := fun k_ => (some k_ ≠ (.slice Ao16 t162.length co16 : Value).ownBlock ∧ some k_ ≠ (.slice Ao50 t175.length co50 : Value).ownBlock)) (n := t154.length) (c := co10) ?_).2.2; exact (rz_ (Kd.R_mono (Kd.R_far (p := ⟨gb179, 1, none⟩) (Kd.R_far (p := ⟨gb179, 0, none⟩) (Kd.R_types HO_159001.out BK179.out (by decide)) (fun _ hk => hk.2) (.slice Ao46 t172.length co46)) (fun _ hk => hk.2) (.slice Ao50 t175.length co50)) (fun _ h_ => h_.1)))); (case side8 => exact (Kd.R_reads' HO_159001.out).2.1); rintro e w58 ⟨rfl, hb⟩; refine ⟨_, rfl, ?_⟩; have n0_ := Aside0.mk (Kd.R_below (rz_ (Kd.R_mono (Kd.R_far (p := ⟨gb179, 1, none⟩) (Kd.R_far (p := ⟨gb179, 0, none⟩) (Kd.R_types HO_159000.out BK179.out (by decide)) (fun _ hk => hk.2) (.slice Ao46 t172.length co46)) (fun _ hk => hk.2) (.slice Ao50 t175.length co50)) (fun _ h_ => h_.1))) hb); have n1_ := Aside0.mk (Kd.R_below (rz_ (Kd.R_mono (Kd.R_far (p := ⟨gb179, 1, none⟩) (Kd.R_far (p := ⟨gb179, 0, none⟩) (Kd.R_types HO_159001.out BK179.out (by decide)) (fun _ hk => hk.2) (.slice Ao46 t172.length co46)) (fun _ hk => hk.2) (.slice Ao50 t175.length co50)) (fun _ h_ => h_.1))) hb); have n2_ := Aside0.mk (Kd.R_below (rz_ (Kd.R_mono (Kd.R_far (p := ⟨gb179, 1, none⟩) (Kd.R_far (p := ⟨gb179, 0, none⟩) (Kd.R_types HO_167000.out BK179.out (by decide)) (fun _ hk => hk.2) (.slice Ao46 t172.length co46)) (fun _ hk => hk.2) (.slice Ao50 t175.length co50)) (fun _ h_ => h_.1))) hb); have n3_ := Aside0.mk (Kd.R_below (rz_ (Kd.R_mono (Kd.R_far (p := ⟨gb179, 1, none⟩) (Kd.R_far (p := ⟨gb179, 0, none⟩) (Kd.R_types HO_167001.out BK179.out (by decide)) (fun _ hk => hk.2) (.slice Ao46 t172.length co46)) (fun _ hk => hk.2) (.slice Ao50 t175.length co50)) (fun _ h_ => h_.1))) hb); have n4_ := Aside0.mk (Kd.R_below (rz_ (Kd.R_mono (Kd.R_far (p := ⟨gb179, 1, none⟩) (Kd.R_far (p := ⟨gb179, 0, none⟩) (Kd.R_types HO174.out BK179.out (by decide)) (fun _ hk => hk.2) (.slice Ao46 t172.length co46)) (fun _ hk => hk.2) (.slice Ao50 t175.length co50)) (fun _ h_ => h_.1))) hb); have n5_ := Aside0.mk (Kd.R_below (rz_ (Kd.R_mono (Kd.R_far (p := ⟨gb179, 1, none⟩) (Kd.R_far (p := ⟨gb179, 0, none⟩) (Kd.R_types HO177.out BK179.out (by decide)) (fun _ hk => hk.2) (.slice Ao46 t172.length co46)) (fun _ hk => hk.2) (.slice Ao50 t175.length co50)) (fun _ h_ => h_.1))) hb); have n6_ := Aside0.mk (blk_below (g := gb158) (o := .cells #[.slice Ao8 t151.length co8, .slice Ao10 t154.length co10] 52 (0, 0)) (by (with_reducible repeat (first | refine blk_drewN ?_ _ | refine blk_drew ?_ | refine blk_alloc ?_ _)); refine blk_far ?_ NB158_179.out _; (with_reducible repeat (first | refine blk_drewN ?_ _ | refine blk_drew ?_ | refine blk_alloc ?_ _)); refine blk_far ?_ NB158_179.out _; (with_reducible repeat (first | refine blk_drewN ?_ _ | refine blk_drew ?_ | refine blk_alloc ?_ _)); exact BK158.out) hb); have n7_ := Aside0.mk (blk_below (g := gb166) (o := .cells #[.slice Ao13 t159.length co13, .slice Ao16 t162.length co16] 52 (0, 0)) (by (with_reducible repeat (first | refine blk_drewN ?_ _ | refine blk_drew ?_ | refine blk_alloc ?_ _)); refine blk_far ?_ NB166_179.out _; (with_reducible repeat (first | refine blk_drewN ?_ _ | refine blk_drew ?_ | refine blk_alloc ?_ _)); refine blk_far ?_ NB166_179.out _; (with_reducible repeat (first | refine blk_drewN ?_ _ | refine blk_drew ?_ | refine blk_alloc ?_ _)); exact BK166.out) hb); have n8_ := Aside0.mk (blk_below (g := gb179) (o := .cells #[.slice Ao46 t172.length co46, .slice Ao50 t175.length co50] 52 (0, 0)) (by (with_reducible repeat (first | refine blk_drewN ?_ _ | refine blk_drew ?_ | refine blk_alloc ?_ _)); refine blk_put (cs := #[.slice Ao46 t172.length co46, .slice none 0 0]) ?_ 1 _ rfl; (with_reducible repeat (first | refine blk_drewN ?_ _ | refine blk_drew ?_ | refine blk_alloc ?_ _)); refine blk_put (cs := #[.slice none 0 0, .slice none 0 0]) ?_ 0 _ rfl; (with_reducible repeat (first | refine blk_drewN ?_ _ | refine blk_drew ?_ | refine blk_alloc ?_ _)); exact BK179.out) hb); have n9_ := Aside0.mk (below_step (by repeat (first | (with_reducible first | exact HB.out | apply below_alloc | apply pw_below_drewN | apply below_drew1 | refine below_set ?_ GE158.out | refine below_set ?_ GE166.out | refine below_set ?_ GE179.out) | exact HB.out)) hb); clear HO_159000; clear HO_159001; clear HO_167000; clear HO_167001; clear HO174; clear HO177; clear BK158; clear BK166; clear BK179; clear HB; have HO_159000 := n0_; have HO_159001 := n1_; have HO_167000 := n2_; have HO_167001 := n3_; have HO174 := n4_; have HO177 := n5_; have BK158 := n6_; have BK166 := n7_; have BK179 := n8_; have HB := n9_; clear n0_ n1_ n2_ n3_ n4_ n5_ n6_ n7_ n8_ n9_; (try clear hb); (try clear hb2); (try clear hk); (try clear hi)))
         go_meet
         case rel => exact ⟨_, ((t178 != t157)), (by first | rfl | (simp; done) | (simp [*]; done)), H', ⟨by have := HJ4.out; first | omega | exact Nat.le_refl _⟩, ⟨rz_ HO_159000.out⟩, ⟨rz_ HO_159001.out⟩, ⟨rz_ HO_167000.out⟩, ⟨rz_ HO_167001.out⟩, ⟨rz_ (Kd.R_mono HO174.out (fun _ hk => ⟨hk.1.2, hk.2⟩))⟩, ⟨rz_ (Kd.R_mono HO177.out (fun _ hk => ⟨hk.1.2, hk.2⟩))⟩, ⟨bz_ BK158.out⟩, ⟨bz_ BK166.out⟩, ⟨bz_ BK179.out⟩, ⟨by repeat (first | (with_reducible first | exact HB.out | apply below_alloc | apply pw_below_drewN | apply below_drew1 | refine below_set ?_ GE158.out | refine below_set ?_ GE166.out | refine below_set ?_ GE179.out) | exact HB.out)⟩⟩
        ·replace c52 := Bool.eq_false_iff.mpr c52
         subst c52
         have H1 : (laws_FnExactParseRecord.j1 kj4 t168 true t169 t170) = some r := by rw [if_neg (show ¬ (false = true) by decide)] at H; exact H
         clear H
         have H := H1
         clear H1
         have H' := Aside0.mk H
         clear H
         have hnb59 := NB179_158.out
         have hnc59 := NB158_179.out
         have hnb60 := NB179_166.out
         have hnc60 := NB166_179.out
         have hcz61_0 : w45.cell? ⟨gb179, 0, none⟩ = some (.slice none 0 0) := (blk_cell BK179.out 0).trans rfl
         have hcz61_1 : w45.cell? ⟨gb179, 1, none⟩ = some (.slice none 0 0) := (blk_cell BK179.out 1).trans rfl
         have hfz61_0 := blk_frozen BK179.out 0
         have hfz61_1 := blk_frozen BK179.out 1
         have hnb62 := NB158_166.out
         have hnc62 := NB166_158.out
         have hcz63_0 : w45.cell? ⟨gb158, 0, none⟩ = some (.slice Ao8 t151.length co8) := (blk_cell BK158.out 0).trans rfl
         have hcz63_1 : w45.cell? ⟨gb158, 1, none⟩ = some (.slice Ao10 t154.length co10) := (blk_cell BK158.out 1).trans rfl
         have hfz63_0 := blk_frozen BK158.out 0
         have hfz63_1 := blk_frozen BK158.out 1
         go_wp2_with (first | ((with_reducible refine gate_callee (f := 39) rfl ?_); refine goesL_ (some 51) rfl rfl Tryd.func39 (by kernel_rfl) rfl #[.agg #[.slice Ao46 t172.length co46, .slice Ao50 t175.length co50], .agg #[.slice Ao8 t151.length co8, .slice Ao10 t154.length co10]] rfl (by (try simp only [List.map_toArray, List.map_cons, List.map_nil]); first | done | rfl | (simp only [List.length_drop, List.length_take]; rfl)) ?_; (with_reducible refine (laws_eqRecord.calls kj4 _ _ t172 _ _ t175 _ _ t151 _ _ t154 false _ ?side1 ?side2 ?side3 ?side4 ?side5 ?side6 ?side7 ?side8 A51.out).mono ?_); (case side1 => refine (Kd.R_reads' (e := 94) (base := w.heap.size) (ok := fun k_ => ((True ∧ some k_ ≠ (.slice Ao8 t151.length co8 : Value).ownBlock) ∧ some k_ ≠ (.slice Ao13 t159.length co13 : Value).ownBlock)) (n := t172.length) (c := co46) ?_).2.2; exact (rz_ (Kd.R_mono (Kd.R_far (p := ⟨gb179, 1, none⟩) (Kd.R_far (p := ⟨gb179, 0, none⟩) (Kd.R_types HO174.out BK179.out (by decide)) (fun _ hk => hk.2) (.slice Ao46 t172.length co46)) (fun _ hk => hk.2) (.slice Ao50 t175.length co50)) (fun _ h_ => h_.1)))); (case side2 => exact (Kd.R_reads' HO174.out).2.1); (case side3 => refine (Kd.R_reads' (e := 96) (base := w.heap.size) (ok := fun k_ => ((True ∧ some k_ ≠ (.slice Ao10 t154.length co10 : Value).ownBlock) ∧ some k_ ≠ (.slice Ao16 t162.length co16 : Value).ownBlock)) (n := t175.length) (c := co50) ?_).2.2; exact (rz_ (Kd.R_mono (Kd.R_far (p := ⟨gb179, 1, none⟩) (Kd.R_far (p := ⟨gb179, 0, none⟩) (Kd.R_types HO177.out BK179.out (by decide)) (fun _ hk => hk.2) (.slice Ao46 t172.length co46)) (fun _ hk => hk.2) (.slice Ao50 t175.length co50)) (fun _ h_ => h_.1)))); (case side4 => exact (Kd.R_reads' HO177.out).2.1); (case side5 => refine (Kd.R_reads' (e := 94) (base := w.heap.size) (ok := fun k_ => (some k_ ≠ (.slice Ao13 t159.length co13 : Value).ownBlock ∧ some k_ ≠ (.slice Ao46 t172.length co46 : Value).ownBlock)) (n := t151.length) (c := co8) ?_).2.2; exact (rz_ (Kd.R_mono (Kd.R_far (p := ⟨gb179, 1, none⟩) (Kd.R_far (p := ⟨gb179, 0, none⟩) (Kd.R_types HO_159000.out BK179.out (by decide)) (fun _ hk => hk.2) (.slice Ao46 t172.length co46)) (fun _ hk => hk.2) (.slice Ao50 t175.length co50)) (fun _ h_ => h_.1)))); (case side6 => exact (Kd.R_reads' HO_159000.out).2.1); (case side7 => refine (Kd.R_reads' (e := 96) (base := w.heap.size) (ok := fun k_ => (some k_ ≠ (.slice Ao16 t162.length co16 : Value).ownBlock ∧ some k_ ≠ (.slice Ao50 t175.length co50 : Value).ownBlock)) (n := t154.length) (c := co10) ?_).2.2; exact (rz_ (Kd.R_mono (Kd.R_far (p := ⟨gb179, 1, none⟩) (Kd.R_far (p := ⟨gb179, 0, none⟩) (Kd.R_types HO_159001.out BK179.out (by decide)) (fun _ hk => hk.2) (.slice Ao46 t172.length co46)) (fun _ hk => hk.2) (.slice Ao50 t175.length co50)) (fun _ h_ => h_.1)))); (case side8 => exact (Kd.R_reads' HO_159001.out).2.1); rintro e w64 ⟨rfl, hb⟩; refine ⟨_, rfl, ?_⟩; have n0_ := Aside0.mk (Kd.R_below (rz_ (Kd.R_mono (Kd.R_far (p := ⟨gb179, 1, none⟩) (Kd.R_far (p := ⟨gb179, 0, none⟩) (Kd.R_types HO_159000.out BK179.out (by decide)) (fun _ hk => hk.2) (.slice Ao46 t172.length co46)) (fun _ hk => hk.2) (.slice Ao50 t175.length co50)) (fun _ h_ => h_.1))) hb); have n1_ := Aside0.mk (Kd.R_below (rz_ (Kd.R_mono (Kd.R_far (p := ⟨gb179, 1, none⟩) (Kd.R_far (p := ⟨gb179, 0, none⟩) (Kd.R_types HO_159001.out BK179.out (by decide)) (fun _ hk => hk.2) (.slice Ao46 t172.length co46)) (fun _ hk => hk.2) (.slice Ao50 t175.length co50)) (fun _ h_ => h_.1))) hb); have n2_ := Aside0.mk (Kd.R_below (rz_ (Kd.R_mono (Kd.R_far (p := ⟨gb179, 1, none⟩) (Kd.R_far (p := ⟨gb179, 0, none⟩) (Kd.R_types HO_167000.out BK179.out (by decide)) (fun _ hk => hk.2) (.slice Ao46 t172.length co46)) (fun _ hk => hk.2) (.slice Ao50 t175.length co50)) (fun _ h_ => h_.1))) hb); have n3_ := Aside0.mk (Kd.R_below (rz_ (Kd.R_mono (Kd.R_far (p := ⟨gb179, 1, none⟩) (Kd.R_far (p := ⟨gb179, 0, none⟩) (Kd.R_types HO_167001.out BK179.out (by decide)) (fun _ hk => hk.2) (.slice Ao46 t172.length co46)) (fun _ hk => hk.2) (.slice Ao50 t175.length co50)) (fun _ h_ => h_.1))) hb); have n4_ := Aside0.mk (Kd.R_below (rz_ (Kd.R_mono (Kd.R_far (p := ⟨gb179, 1, none⟩) (Kd.R_far (p := ⟨gb179, 0, none⟩) (Kd.R_types HO174.out BK179.out (by decide)) (fun _ hk => hk.2) (.slice Ao46 t172.length co46)) (fun _ hk => hk.2) (.slice Ao50 t175.length co50)) (fun _ h_ => h_.1))) hb); have n5_ := Aside0.mk (Kd.R_below (rz_ (Kd.R_mono (Kd.R_far (p := ⟨gb179, 1, none⟩) (Kd.R_far (p := ⟨gb179, 0, none⟩) (Kd.R_types HO177.out BK179.out (by decide)) (fun _ hk => hk.2) (.slice Ao46 t172.length co46)) (fun _ hk => hk.2) (.slice Ao50 t175.length co50)) (fun _ h_ => h_.1))) hb); have n6_ := Aside0.mk (blk_below (g := gb158) (o := .cells #[.slice Ao8 t151.length co8, .slice Ao10 t154.length co10] 52 (0, 0)) (by (with_reducible repeat (first | refine blk_drewN ?_ _ | refine blk_drew ?_ | refine blk_alloc ?_ _)); refine blk_far ?_ NB158_179.out _; (with_reducible repeat (first | refine blk_drewN ?_ _ | refine blk_drew ?_ | refine blk_alloc ?_ _)); refine blk_far ?_ NB158_179.out _; (with_reducible repeat (first | refine blk_drewN ?_ _ | refine blk_drew ?_ | refine blk_alloc ?_ _)); exact BK158.out) hb); have n7_ := Aside0.mk (blk_below (g := gb166) (o := .cells #[.slice Ao13 t159.length co13, .slice Ao16 t162.length co16] 52 (0, 0)) (by (with_reducible repeat (first | refine blk_drewN ?_ _ | refine blk_drew ?_ | refine blk_alloc ?_ _)); refine blk_far ?_ NB166_179.out _; (with_reducible repeat (first | refine blk_drewN ?_ _ | refine blk_drew ?_ | refine blk_alloc ?_ _)); refine blk_far ?_ NB166_179.out _; (with_reducible repeat (first | refine blk_drewN ?_ _ | refine blk_drew ?_ | refine blk_alloc ?_ _)); exact BK166.out) hb); have n8_ := Aside0.mk (blk_below (g := gb179) (o := .cells #[.slice Ao46 t172.length co46, .slice Ao50 t175.length co50] 52 (0, 0)) (by (with_reducible repeat (first | refine blk_drewN ?_ _ | refine blk_drew ?_ | refine blk_alloc ?_ _)); refine blk_put (cs := #[.slice Ao46 t172.length co46, .slice none 0 0]) ?_ 1 _ rfl; (with_reducible repeat (first | refine blk_drewN ?_ _ | refine blk_drew ?_ | refine blk_alloc ?_ _)); refine blk_put (cs := #[.slice none 0 0, .slice none 0 0]) ?_ 0 _ rfl; (with_reducible repeat (first | refine blk_drewN ?_ _ | refine blk_drew ?_ | refine blk_alloc ?_ _)); exact BK179.out) hb); have n9_ := Aside0.mk (below_step (by repeat (first | (with_reducible first | exact HB.out | apply below_alloc | apply pw_below_drewN | apply below_drew1 | refine below_set ?_ GE158.out | refine below_set ?_ GE166.out | refine below_set ?_ GE179.out) | exact HB.out)) hb); clear HO_159000; clear HO_159001; clear HO_167000; clear HO_167001; clear HO174; clear HO177; clear BK158; clear BK166; clear BK179; clear HB; have HO_159000 := n0_; have HO_159001 := n1_; have HO_167000 := n2_; have HO_167001 := n3_; have HO174 := n4_; have HO177 := n5_; have BK158 := n6_; have BK166 := n7_; have BK179 := n8_; have HB := n9_; clear n0_ n1_ n2_ n3_ n4_ n5_ n6_ n7_ n8_ n9_; (try clear hb); (try clear hb2); (try clear hk); (try clear hi)))
         go_meet
         case rel => exact ⟨_, (true), (by first | rfl | (simp; done) | (simp [*]; done)), H', ⟨by have := HJ4.out; first | omega | exact Nat.le_refl _⟩, ⟨rz_ HO_159000.out⟩, ⟨rz_ HO_159001.out⟩, ⟨rz_ HO_167000.out⟩, ⟨rz_ HO_167001.out⟩, ⟨rz_ (Kd.R_mono HO174.out (fun _ hk => ⟨hk.1.2, hk.2⟩))⟩, ⟨rz_ (Kd.R_mono HO177.out (fun _ hk => ⟨hk.1.2, hk.2⟩))⟩, ⟨bz_ BK158.out⟩, ⟨bz_ BK166.out⟩, ⟨bz_ BK179.out⟩, ⟨by repeat (first | (with_reducible first | exact HB.out | apply below_alloc | apply pw_below_drewN | apply below_drew1 | refine below_set ?_ GE158.out | refine below_set ?_ GE166.out | refine below_set ?_ GE179.out) | exact HB.out)⟩⟩
       case rest =>
        clear HC38
        try clear c1
        try clear c2
        try clear c2b0
        try clear c2b1
        try clear p2
        try clear c3
        try clear c4
        try clear c5
        try clear c6
        try clear c12
        try clear c14
        try clear c18
        try clear c19
        try clear c23
        try clear c27
        try clear c30
        try clear c30b0
        try clear c31
        try clear c36
        try clear c36b0
        try clear c36b1
        try clear c39
        try clear c42
        try clear c43
        try clear c44
        try clear c45
        try clear c47
        try clear c48
        try clear c52
        try clear c53
        try clear c54
        try clear c56
        try clear c59
        try clear c60
        try clear c62
        try clear hcz15_0
        try clear hcz15_1
        try clear hcz20_0
        try clear hcz20_1
        try clear hcz21_0
        try clear hcz21_1
        try clear hcz24_0
        try clear hcz24_1
        try clear hcz25_0
        try clear hcz25_1
        try clear hcz32_0
        try clear hcz32_1
        try clear hcz34_0
        try clear hcz34_1
        try clear hcz40_0
        try clear hcz40_1
        try clear hcz42_0
        try clear hcz42_1
        try clear hcz49_0
        try clear hcz49_1
        try clear hcz55_0
        try clear hcz55_1
        try clear hcz57_0
        try clear hcz57_1
        try clear hcz61_0
        try clear hcz61_1
        try clear hcz63_0
        try clear hcz63_1
        try clear hcz9_0
        try clear hcz9_1
        try clear hfz15_0
        try clear hfz15_1
        try clear hfz20_0
        try clear hfz20_1
        try clear hfz21_0
        try clear hfz21_1
        try clear hfz24_0
        try clear hfz24_1
        try clear hfz25_0
        try clear hfz25_1
        try clear hfz32_0
        try clear hfz32_1
        try clear hfz34_0
        try clear hfz34_1
        try clear hfz40_0
        try clear hfz40_1
        try clear hfz42_0
        try clear hfz42_1
        try clear hfz49_0
        try clear hfz49_1
        try clear hfz55_0
        try clear hfz55_1
        try clear hfz57_0
        try clear hfz57_1
        try clear hfz61_0
        try clear hfz61_1
        try clear hfz63_0
        try clear hfz63_1
        try clear hfz9_0
        try clear hfz9_1
        try clear p2
        obtain ⟨kq, x57_37, rfl, HA, HJ37, HO_159000, HO_159001, HO_167000, HO_167001, HO_180000, HO_180001, BK158, BK166, BK179, HB⟩ := hcut
        have hl167000_37 := (Kd.R_reads' HO_167000.out).1
        rw [hl167000_37] at HO_167000
        (try simp only [hl167000_37])
        (try simp only [hl167000_37] at BK158)
        (try simp only [hl167000_37] at BK166)
        (try simp only [hl167000_37] at BK179)
        (try simp only [hl167000_37] at HO_159000)
        (try simp only [hl167000_37] at HO_159001)
        (try simp only [hl167000_37] at HO_167001)
        (try simp only [hl167000_37] at HO_180000)
        (try simp only [hl167000_37] at HO_180001)
        have hl167001_37 := (Kd.R_reads' HO_167001.out).1
        rw [hl167001_37] at HO_167001
        (try simp only [hl167001_37])
        (try simp only [hl167001_37] at BK158)
        (try simp only [hl167001_37] at BK166)
        (try simp only [hl167001_37] at BK179)
        (try simp only [hl167001_37] at HO_159000)
        (try simp only [hl167001_37] at HO_159001)
        (try simp only [hl167001_37] at HO_167000)
        (try simp only [hl167001_37] at HO_180000)
        (try simp only [hl167001_37] at HO_180001)
        cases kq with
        | zero => exact absurd HA.out (by simp [laws_FnExactParseRecord.j1])
        | succ kj37 =>
         have H := HA.out
         clear HA
         simp only [laws_FnExactParseRecord.j1] at H
         by_cases c65 : x57_37 = true
         ·subst c65
          have H1 : (some false) = some r := by rw [if_pos rfl] at H; exact H
          clear H
          have H := H1
          clear H1
          obtain rfl := Option.some.inj H
          go_wp2
          go_ret
          exact ⟨by first | rfl | (simp [errW_none, errW_some] <;> rfl) | (simp [*, errW_none, errW_some] <;> rfl), by repeat (first | (with_reducible first | exact HB.out | apply below_alloc | apply pw_below_drewN | apply below_drew1 | refine below_set ?_ GE158.out | refine below_set ?_ GE166.out | refine below_set ?_ GE179.out) | exact HB.out)⟩
         ·replace c65 := Bool.eq_false_iff.mpr c65
          subst c65
          have H1 : ((laws_heldRecord.f kj37 t169 t170 1).bind fun t181 => (if t181 < 0 then (some false) else (if t181 = t168 then (some true) else (some false)))) = some r := by rw [if_neg (show ¬ (false = true) by decide)] at H; exact H
          clear H
          have H := H1
          clear H1
          replace H := Option.bind_eq_some_iff.mp H
          obtain ⟨t181, A660, H⟩ := H
          replace H : (if t181 < 0 then (some false) else (if t181 = t168 then (some true) else (some false))) = some r := H
          have A66 := Aside0.mk A660
          clear A660
          by_cases c67 : t181 < 0
          ·rw [if_pos c67] at H
           have c67b0 : decide (t181 < 0) = true := decide_eq_true c67
           clear c67
           obtain rfl := Option.some.inj H
           have hnb68 := NB166_158.out
           have hnc68 := NB158_166.out
           have hnb69 := NB166_179.out
           have hnc69 := NB179_166.out
           have hcz70_0 : wc.cell? ⟨gb166, 0, none⟩ = some (.slice Ao13 t169.length co13) := (blk_cell BK166.out 0).trans rfl
           have hcz70_1 : wc.cell? ⟨gb166, 1, none⟩ = some (.slice Ao16 t170.length co16) := (blk_cell BK166.out 1).trans rfl
           have hfz70_0 := blk_frozen BK166.out 0
           have hfz70_1 := blk_frozen BK166.out 1
           go_wp2_with (first | ((with_reducible refine gate_callee (f := 45) rfl ?_); refine goesL_ (some 60) rfl rfl Tryd.func45 (by kernel_rfl) rfl #[.agg #[.slice Ao13 t169.length co13, .slice Ao16 t170.length co16], .int .i64 1] rfl (by (try simp only [List.map_toArray, List.map_cons, List.map_nil]); first | done | rfl | (simp only [List.length_drop, List.length_take]; rfl)) ?_; (with_reducible refine (laws_heldRecord.calls kj37 _ _ t169 _ _ t170 1 t181 _ ?side1 ?side2 ?side3 ?side4 A66.out).mono ?_); (case side1 => exact cz_ (Kd.R_reads' HO_167000.out).2.2); (case side2 => exact (Kd.R_reads' HO_167000.out).2.1); (case side3 => exact cz_ (Kd.R_reads' HO_167001.out).2.2); (case side4 => exact (Kd.R_reads' HO_167001.out).2.1); rintro e w71 ⟨rfl, hb⟩; refine ⟨_, rfl, ?_⟩; have n0_ := Aside0.mk (Kd.R_below (rz_ HO_159000.out) hb); have n1_ := Aside0.mk (Kd.R_below (rz_ HO_159001.out) hb); have n2_ := Aside0.mk (Kd.R_below (rz_ HO_167000.out) hb); have n3_ := Aside0.mk (Kd.R_below (rz_ HO_167001.out) hb); have n4_ := Aside0.mk (Kd.R_below (rz_ HO_180000.out) hb); have n5_ := Aside0.mk (Kd.R_below (rz_ HO_180001.out) hb); have n6_ := Aside0.mk (blk_below (bz_ BK158.out) hb); have n7_ := Aside0.mk (blk_below (bz_ BK166.out) hb); have n8_ := Aside0.mk (blk_below (bz_ BK179.out) hb); have n9_ := Aside0.mk (below_step (by repeat (first | (with_reducible first | exact HB.out | apply below_alloc | apply pw_below_drewN | apply below_drew1 | refine below_set ?_ GE158.out | refine below_set ?_ GE166.out | refine below_set ?_ GE179.out) | exact HB.out)) hb); clear HO_159000; clear HO_159001; clear HO_167000; clear HO_167001; clear HO_180000; clear HO_180001; clear BK158; clear BK166; clear BK179; clear HB; have HO_159000 := n0_; have HO_159001 := n1_; have HO_167000 := n2_; have HO_167001 := n3_; have HO_180000 := n4_; have HO_180001 := n5_; have BK158 := n6_; have BK166 := n7_; have BK179 := n8_; have HB := n9_; clear n0_ n1_ n2_ n3_ n4_ n5_ n6_ n7_ n8_ n9_; (try clear hb); (try clear hb2); (try clear hk); (try clear hi)))
           go_ret
           exact ⟨by first | rfl | (simp [errW_none, errW_some] <;> rfl) | (simp [*, errW_none, errW_some] <;> rfl), by repeat (first | (with_reducible first | exact HB.out | apply below_alloc | apply pw_below_drewN | apply below_drew1 | refine below_set ?_ GE158.out | refine below_set ?_ GE166.out | refine below_set ?_ GE179.out) | exact HB.out)⟩
          ·rw [if_neg c67] at H
           have c67b0 : decide (t181 < 0) = false := decide_eq_false c67
           clear c67
           by_cases c72 : t181 = t168
           ·rw [if_pos c72] at H
            have c72b0 : (t181 == t168) = true := beq_iff_eq.mpr c72
            have c72b1 : (t181 != t168) = false := bne_eq_false_iff_eq.mpr c72
            clear c72
            obtain rfl := Option.some.inj H
            have hnb73 := NB166_158.out
            have hnc73 := NB158_166.out
            have hnb74 := NB166_179.out
            have hnc74 := NB179_166.out
            have hcz75_0 : wc.cell? ⟨gb166, 0, none⟩ = some (.slice Ao13 t169.length co13) := (blk_cell BK166.out 0).trans rfl
            have hcz75_1 : wc.cell? ⟨gb166, 1, none⟩ = some (.slice Ao16 t170.length co16) := (blk_cell BK166.out 1).trans rfl
            have hfz75_0 := blk_frozen BK166.out 0
            have hfz75_1 := blk_frozen BK166.out 1
            go_wp2_with (first | ((with_reducible refine gate_callee (f := 45) rfl ?_); refine goesL_ (some 60) rfl rfl Tryd.func45 (by kernel_rfl) rfl #[.agg #[.slice Ao13 t169.length co13, .slice Ao16 t170.length co16], .int .i64 1] rfl (by (try simp only [List.map_toArray, List.map_cons, List.map_nil]); first | done | rfl | (simp only [List.length_drop, List.length_take]; rfl)) ?_; (with_reducible refine (laws_heldRecord.calls kj37 _ _ t169 _ _ t170 1 t181 _ ?side1 ?side2 ?side3 ?side4 A66.out).mono ?_); (case side1 => exact cz_ (Kd.R_reads' HO_167000.out).2.2); (case side2 => exact (Kd.R_reads' HO_167000.out).2.1); (case side3 => exact cz_ (Kd.R_reads' HO_167001.out).2.2); (case side4 => exact (Kd.R_reads' HO_167001.out).2.1); rintro e w76 ⟨rfl, hb⟩; refine ⟨_, rfl, ?_⟩; have n0_ := Aside0.mk (Kd.R_below (rz_ HO_159000.out) hb); have n1_ := Aside0.mk (Kd.R_below (rz_ HO_159001.out) hb); have n2_ := Aside0.mk (Kd.R_below (rz_ HO_167000.out) hb); have n3_ := Aside0.mk (Kd.R_below (rz_ HO_167001.out) hb); have n4_ := Aside0.mk (Kd.R_below (rz_ HO_180000.out) hb); have n5_ := Aside0.mk (Kd.R_below (rz_ HO_180001.out) hb); have n6_ := Aside0.mk (blk_below (bz_ BK158.out) hb); have n7_ := Aside0.mk (blk_below (bz_ BK166.out) hb); have n8_ := Aside0.mk (blk_below (bz_ BK179.out) hb); have n9_ := Aside0.mk (below_step (by repeat (first | (with_reducible first | exact HB.out | apply below_alloc | apply pw_below_drewN | apply below_drew1 | refine below_set ?_ GE158.out | refine below_set ?_ GE166.out | refine below_set ?_ GE179.out) | exact HB.out)) hb); clear HO_159000; clear HO_159001; clear HO_167000; clear HO_167001; clear HO_180000; clear HO_180001; clear BK158; clear BK166; clear BK179; clear HB; have HO_159000 := n0_; have HO_159001 := n1_; have HO_167000 := n2_; have HO_167001 := n3_; have HO_180000 := n4_; have HO_180001 := n5_; have BK158 := n6_; have BK166 := n7_; have BK179 := n8_; have HB := n9_; clear n0_ n1_ n2_ n3_ n4_ n5_ n6_ n7_ n8_ n9_; (try clear hb); (try clear hb2); (try clear hk); (try clear hi)))
            go_ret
            exact ⟨by first | rfl | (simp [errW_none, errW_some] <;> rfl) | (simp [*, errW_none, errW_some] <;> rfl), by repeat (first | (with_reducible first | exact HB.out | apply below_alloc | apply pw_below_drewN | apply below_drew1 | refine below_set ?_ GE158.out | refine below_set ?_ GE166.out | refine below_set ?_ GE179.out) | exact HB.out)⟩
           ·rw [if_neg c72] at H
            have c72b0 : (t181 == t168) = false := beq_eq_false_iff_ne.mpr c72
            have c72b1 : (t181 != t168) = true := bne_iff_ne.mpr c72
            obtain rfl := Option.some.inj H
            have hnb77 := NB166_158.out
            have hnc77 := NB158_166.out
            have hnb78 := NB166_179.out
            have hnc78 := NB179_166.out
            have hcz79_0 : wc.cell? ⟨gb166, 0, none⟩ = some (.slice Ao13 t169.length co13) := (blk_cell BK166.out 0).trans rfl
            have hcz79_1 : wc.cell? ⟨gb166, 1, none⟩ = some (.slice Ao16 t170.length co16) := (blk_cell BK166.out 1).trans rfl
            have hfz79_0 := blk_frozen BK166.out 0
            have hfz79_1 := blk_frozen BK166.out 1
            go_wp2_with (first | ((with_reducible refine gate_callee (f := 45) rfl ?_); refine goesL_ (some 60) rfl rfl Tryd.func45 (by kernel_rfl) rfl #[.agg #[.slice Ao13 t169.length co13, .slice Ao16 t170.length co16], .int .i64 1] rfl (by (try simp only [List.map_toArray, List.map_cons, List.map_nil]); first | done | rfl | (simp only [List.length_drop, List.length_take]; rfl)) ?_; (with_reducible refine (laws_heldRecord.calls kj37 _ _ t169 _ _ t170 1 t181 _ ?side1 ?side2 ?side3 ?side4 A66.out).mono ?_); (case side1 => exact cz_ (Kd.R_reads' HO_167000.out).2.2); (case side2 => exact (Kd.R_reads' HO_167000.out).2.1); (case side3 => exact cz_ (Kd.R_reads' HO_167001.out).2.2); (case side4 => exact (Kd.R_reads' HO_167001.out).2.1); rintro e w80 ⟨rfl, hb⟩; refine ⟨_, rfl, ?_⟩; have n0_ := Aside0.mk (Kd.R_below (rz_ HO_159000.out) hb); have n1_ := Aside0.mk (Kd.R_below (rz_ HO_159001.out) hb); have n2_ := Aside0.mk (Kd.R_below (rz_ HO_167000.out) hb); have n3_ := Aside0.mk (Kd.R_below (rz_ HO_167001.out) hb); have n4_ := Aside0.mk (Kd.R_below (rz_ HO_180000.out) hb); have n5_ := Aside0.mk (Kd.R_below (rz_ HO_180001.out) hb); have n6_ := Aside0.mk (blk_below (bz_ BK158.out) hb); have n7_ := Aside0.mk (blk_below (bz_ BK166.out) hb); have n8_ := Aside0.mk (blk_below (bz_ BK179.out) hb); have n9_ := Aside0.mk (below_step (by repeat (first | (with_reducible first | exact HB.out | apply below_alloc | apply pw_below_drewN | apply below_drew1 | refine below_set ?_ GE158.out | refine below_set ?_ GE166.out | refine below_set ?_ GE179.out) | exact HB.out)) hb); clear HO_159000; clear HO_159001; clear HO_167000; clear HO_167001; clear HO_180000; clear HO_180001; clear BK158; clear BK166; clear BK179; clear HB; have HO_159000 := n0_; have HO_159001 := n1_; have HO_167000 := n2_; have HO_167001 := n3_; have HO_180000 := n4_; have HO_180001 := n5_; have BK158 := n6_; have BK166 := n7_; have BK179 := n8_; have HB := n9_; clear n0_ n1_ n2_ n3_ n4_ n5_ n6_ n7_ n8_ n9_; (try clear hb); (try clear hb2); (try clear hk); (try clear hi)))
            go_ret
            exact ⟨by first | rfl | (simp [errW_none, errW_some] <;> rfl) | (simp [*, errW_none, errW_some] <;> rfl), by repeat (first | (with_reducible first | exact HB.out | apply below_alloc | apply pw_below_drewN | apply below_drew1 | refine below_set ?_ GE158.out | refine below_set ?_ GE166.out | refine below_set ?_ GE179.out) | exact HB.out)⟩
      ·rw [if_neg c36] at H
       have c36b0 : (t171 == t168) = false := beq_eq_false_iff_ne.mpr c36
       have c36b1 : (t171 != t168) = true := bne_iff_ne.mpr c36
       obtain rfl := Option.some.inj H
       have hnb81 := NB166_158.out
       have hnc81 := NB158_166.out
       have hcz82_0 : wc.cell? ⟨gb166, 0, none⟩ = some (.slice Ao13 t159.length co13) := (blk_cell BK166.out 0).trans rfl
       have hcz82_1 : wc.cell? ⟨gb166, 1, none⟩ = some (.slice Ao16 t162.length co16) := (blk_cell BK166.out 1).trans rfl
       have hfz82_0 := blk_frozen BK166.out 0
       have hfz82_1 := blk_frozen BK166.out 1
       go_wp2_with (first | ((with_reducible refine gate_callee (f := 42) rfl ?_); refine goesL_ (some 35) rfl rfl Tryd.func42 (by kernel_rfl) rfl #[.agg #[.slice Ao13 t159.length co13, .slice Ao16 t162.length co16], .int .i64 1] rfl (by (try simp only [List.map_toArray, List.map_cons, List.map_nil]); first | done | rfl | (simp only [List.length_drop, List.length_take]; rfl)) ?_; (with_reducible refine (laws_markRecord.calls kj4 (fun k_ => some k_ = (.slice Ao13 t159.length co13 : Value).ownBlock) (.slice Ao13 t159.length co13) t159 (fun k_ => some k_ = (.slice Ao16 t162.length co16 : Value).ownBlock) (.slice Ao16 t162.length co16) t162 1 t168 t169 t170 w _ ?side1 ?side2 ?side3 A28.out).mono ?_); (case side1 => repeat (first | (with_reducible first | exact HB.out | apply below_alloc | apply pw_below_drewN | apply below_drew1 | refine below_set ?_ GE158.out | refine below_set ?_ GE166.out) | exact HB.out)); (case side2 => exact Kd.R_tight rfl HO_167000.out); (case side3 => exact Kd.R_tight rfl HO_167001.out); rintro e w83 ⟨rfl, hy0, hy1, hb, hkp⟩; refine ⟨_, rfl, ?_⟩; have n0_ := Aside0.mk (Kd.R_mono (ok' := fun k_ => some k_ ≠ (.slice Ao13 t159.length co13 : Value).ownBlock) (Kd.R_keptB ((Kd.R_apart' HO_159000.out (Kd.R_typed HO_167001.out) (by decide))) hkp (fun k_ hk_ hs_ => Or.elim hs_ (fun e_ => (hk_.1) e_) (fun e_ => (hk_.2) e_))) (fun k_ hk_ => hk_.1.1)); have n1_ := Aside0.mk (Kd.R_mono (ok' := fun k_ => some k_ ≠ (.slice Ao16 t162.length co16 : Value).ownBlock) (Kd.R_keptB ((Kd.R_apart' HO_159001.out (Kd.R_typed HO_167000.out) (by decide))) hkp (fun k_ hk_ hs_ => Or.elim hs_ (fun e_ => (hk_.2) e_) (fun e_ => (hk_.1) e_))) (fun k_ hk_ => hk_.1.1)); have n2_ := Aside0.mk (Kd.R_reok rfl hy0 (fun k_ e_ => HO_167000.out.1 k_ e_)); have n3_ := Aside0.mk (Kd.R_reok rfl hy1 (fun k_ e_ => HO_167001.out.1 k_ e_)); have n4_ := Aside0.mk (blk_kept (bz_ BK158.out) hkp (fun hs_ => Or.elim hs_ (fun e_ => (fun e_ => (Kd.R_ne HO_167000.out BK158.out (by decide)) e_) e_) (fun e_ => (fun e_ => (Kd.R_ne HO_167001.out BK158.out (by decide)) e_) e_))); have n5_ := Aside0.mk (blk_kept (bz_ BK166.out) hkp (fun hs_ => Or.elim hs_ (fun e_ => (fun e_ => (Kd.R_ne HO_167000.out BK166.out (by decide)) e_) e_) (fun e_ => (fun e_ => (Kd.R_ne HO_167001.out BK166.out (by decide)) e_) e_))); have n6_ := Aside0.mk (hb); clear HO_159000; clear HO_159001; clear HO_167000; clear HO_167001; clear BK158; clear BK166; clear HB; have HO_159000 := n0_; have HO_159001 := n1_; have HO_167000 := n2_; have HO_167001 := n3_; have BK158 := n4_; have BK166 := n5_; have HB := n6_; clear n0_ n1_ n2_ n3_ n4_ n5_ n6_; (try clear hb); (try clear hkp); (try clear hy0); (try clear hy1); have hcz84_0 : w83.cell? ⟨gb166, 0, none⟩ = some (.slice Ao13 t159.length co13) := (blk_cell BK166.out 0).trans rfl; have hcz84_1 : w83.cell? ⟨gb166, 1, none⟩ = some (.slice Ao16 t162.length co16) := (blk_cell BK166.out 1).trans rfl; have hfz84_0 := blk_frozen BK166.out 0; have hfz84_1 := blk_frozen BK166.out 1) | ((with_reducible refine gate_callee (f := 45) rfl ?_); refine goesL_ (some 38) rfl rfl Tryd.func45 (by kernel_rfl) rfl #[.agg #[.slice Ao13 t169.length co13, .slice Ao16 t170.length co16], .int .i64 1] rfl (by (try simp only [List.map_toArray, List.map_cons, List.map_nil]); first | done | (rw [show t169.length = t159.length from (Kd.R_reads' HO_167000.out).1.symm, show t170.length = t162.length from (Kd.R_reads' HO_167001.out).1.symm] <;> rfl) | rfl | (simp only [List.length_drop, List.length_take]; rfl)) ?_; (with_reducible refine (laws_heldRecord.calls kj4 _ _ t169 _ _ t170 1 t171 _ ?side1 ?side2 ?side3 ?side4 A29.out).mono ?_); (case side1 => exact cz_ (Kd.R_reads' HO_167000.out).2.2); (case side2 => rw [show t169.length = t159.length from (Kd.R_reads' HO_167000.out).1.symm]; exact (Kd.R_reads' HO_167000.out).2.1); (case side3 => exact cz_ (Kd.R_reads' HO_167001.out).2.2); (case side4 => rw [show t170.length = t162.length from (Kd.R_reads' HO_167001.out).1.symm]; exact (Kd.R_reads' HO_167001.out).2.1); rintro e w85 ⟨rfl, hb⟩; refine ⟨_, rfl, ?_⟩; have n0_ := Aside0.mk (Kd.R_below (rz_ HO_159000.out) hb); have n1_ := Aside0.mk (Kd.R_below (rz_ HO_159001.out) hb); have n2_ := Aside0.mk (Kd.R_below (rz_ HO_167000.out) hb); have n3_ := Aside0.mk (Kd.R_below (rz_ HO_167001.out) hb); have n4_ := Aside0.mk (blk_below (bz_ BK158.out) hb); have n5_ := Aside0.mk (blk_below (bz_ BK166.out) hb); have n6_ := Aside0.mk (below_step (by repeat (first | (with_reducible first | exact HB.out | apply below_alloc | apply pw_below_drewN | apply below_drew1 | refine below_set ?_ GE158.out | refine below_set ?_ GE166.out) | exact HB.out)) hb); clear HO_159000; clear HO_159001; clear HO_167000; clear HO_167001; clear BK158; clear BK166; clear HB; have HO_159000 := n0_; have HO_159001 := n1_; have HO_167000 := n2_; have HO_167001 := n3_; have BK158 := n4_; have BK166 := n5_; have HB := n6_; clear n0_ n1_ n2_ n3_ n4_ n5_ n6_; (try clear hb); (try clear hb2); (try clear hk); (try clear hi)))
       go_ret
       exact ⟨by first | rfl | (simp [errW_none, errW_some] <;> rfl) | (simp [*, errW_none, errW_some] <;> rfl), by repeat (first | (with_reducible first | exact HB.out | apply below_alloc | apply pw_below_drewN | apply below_drew1 | refine below_set ?_ GE158.out | refine below_set ?_ GE166.out) | exact HB.out)⟩

end Go.Proofs.YtdmbboijcaelcaaDoor.Q
/-! ### PrE -/
/- Plain facts: a record's text parsed by the program and by the reference. No program is walked here. -/
namespace Go.Proofs.YtdmbboijcaelcaaDoor.Q
open Go.RowKit Go.Proofs.YtdmbboijcaelcaaDoorW.PrintWords Go.Proofs.YtdmbboijcaelcaaDoorW.PrintLast
set_option linter.unusedVariables false
set_option linter.unusedSimpArgs false
def rdX (x : ByteArray) : Int × Bool := readL x.data.toList
def ctxW : List UInt8 := [99, 111, 110, 116, 101, 120, 116]
def aboveW : List UInt8 := [97, 98, 111, 118, 101]
def kindN (x : ByteArray) : Int := if x.toList = [100, 101, 112, 111, 115, 105, 116] then 1 else if x.toList = [99, 117, 116] then 2 else if x.toList = [115, 116, 114, 117, 99, 116, 117, 114, 101] then 3 else if x.toList = [110, 97, 116, 117, 114, 97, 108] then 4 else 0
theorem kw0 : (⟨#[]⟩ : ByteArray).toList = [] := by rw [Lib.toList_data]
theorem kw1 : (⟨#[100, 101, 112, 111, 115, 105, 116]⟩ : ByteArray).toList = [100, 101, 112, 111, 115, 105, 116] := by rw [Lib.toList_data]
theorem kw2 : (⟨#[99, 117, 116]⟩ : ByteArray).toList = [99, 117, 116] := by rw [Lib.toList_data]
theorem kw3 : (⟨#[115, 116, 114, 117, 99, 116, 117, 114, 101]⟩ : ByteArray).toList = [115, 116, 114, 117, 99, 116, 117, 114, 101] := by rw [Lib.toList_data]
theorem kw4 : (⟨#[110, 97, 116, 117, 114, 97, 108]⟩ : ByteArray).toList = [110, 97, 116, 117, 114, 97, 108] := by rw [Lib.toList_data]
theorem kind_get (i : Nat) : rdOf ByteArray.empty ([(⟨#[]⟩ : ByteArray), (⟨#[100, 101, 112, 111, 115, 105, 116]⟩ : ByteArray), (⟨#[99, 117, 116]⟩ : ByteArray), (⟨#[115, 116, 114, 117, 99, 116, 117, 114, 101]⟩ : ByteArray), (⟨#[110, 97, 116, 117, 114, 97, 108]⟩ : ByteArray)] : List ByteArray) (i : Int) = ([(⟨#[]⟩ : ByteArray), (⟨#[100, 101, 112, 111, 115, 105, 116]⟩ : ByteArray), (⟨#[99, 117, 116]⟩ : ByteArray), (⟨#[115, 116, 114, 117, 99, 116, 117, 114, 101]⟩ : ByteArray), (⟨#[110, 97, 116, 117, 114, 97, 108]⟩ : ByteArray)] : List ByteArray).getD i ByteArray.empty := by simp [rdOf]
theorem specKind_ev (x : ByteArray) : Ev (fun k => spec_l3Kind.f k x) (kindN x) := by
  unfold spec_l3Kind.f
  have e : spec_l3Words.f = some kwS := rfl
  rw [e]
  simp only [Option.bind_some]
  have g1 : rdOf ByteArray.empty kwS 1 = ⟨#[100, 101, 112, 111, 115, 105, 116]⟩ := rfl
  have g2 : rdOf ByteArray.empty kwS 2 = ⟨#[99, 117, 116]⟩ := rfl
  have g3 : rdOf ByteArray.empty kwS 3 = ⟨#[115, 116, 114, 117, 99, 116, 117, 114, 101]⟩ := rfl
  have g4 : rdOf ByteArray.empty kwS 4 = ⟨#[110, 97, 116, 117, 114, 97, 108]⟩ := rfl
  have hl : (kwS.length : Int) = 5 := rfl
  have w1 : wrap64 (1 + 1) = 2 := by unfold wrap64; omega
  have w2 : wrap64 (2 + 1) = 3 := by unfold wrap64; omega
  have w3 : wrap64 (3 + 1) = 4 := by unfold wrap64; omega
  have w4 : wrap64 (4 + 1) = 5 := by unfold wrap64; omega
  have c1 : ([100, 101, 112, 111, 115, 105, 116] : List UInt8) = x.toList ↔ x.toList = [100, 101, 112, 111, 115, 105, 116] := eq_comm
  have c2 : ([99, 117, 116] : List UInt8) = x.toList ↔ x.toList = [99, 117, 116] := eq_comm
  have c3 : ([115, 116, 114, 117, 99, 116, 117, 114, 101] : List UInt8) = x.toList ↔ x.toList = [115, 116, 114, 117, 99, 116, 117, 114, 101] := eq_comm
  have c4 : ([110, 97, 116, 117, 114, 97, 108] : List UInt8) = x.toList ↔ x.toList = [110, 97, 116, 117, 114, 97, 108] := eq_comm
  unfold kindN
  refine Ev.step (fun q => by rw [spec_l3Kind.l0]) ?_
  simp only [hl, show (1 : Int) < 5 by omega, show (0 : Int) ≤ 1 by omega, if_true, g1, kw1, c1, w1]
  split
  · exact Ev.now _
  · refine Ev.step (fun q => by rw [spec_l3Kind.l0]) ?_
    simp only [hl, show (2 : Int) < 5 by omega, show (0 : Int) ≤ 2 by omega, if_true, g2, kw2, c2, w2]
    split
    · exact Ev.now _
    · refine Ev.step (fun q => by rw [spec_l3Kind.l0]) ?_
      simp only [hl, show (3 : Int) < 5 by omega, show (0 : Int) ≤ 3 by omega, if_true, g3, kw3, c3, w3]
      split
      · exact Ev.now _
      · refine Ev.step (fun q => by rw [spec_l3Kind.l0]) ?_
        simp only [hl, show (4 : Int) < 5 by omega, show (0 : Int) ≤ 4 by omega, if_true, g4, kw4, c4, w4]
        split
        · exact Ev.now _
        · refine Ev.step (fun q => by rw [spec_l3Kind.l0]) ?_
          simp only [hl, Int.lt_irrefl, if_false]
          exact Ev.now _
theorem implKind_ev (x : ByteArray) : Ev (fun k => impl_ParseKind.f k x) (kindN x, decide (0 < kindN x)) := by
  unfold impl_ParseKind.f
  have e : impl_kindWords.f = some kwS := rfl
  rw [e]
  simp only [Option.bind_some]
  have g0 : rdOf ByteArray.empty kwS 0 = ⟨#[]⟩ := rfl
  have g1 : rdOf ByteArray.empty kwS 1 = ⟨#[100, 101, 112, 111, 115, 105, 116]⟩ := rfl
  have g2 : rdOf ByteArray.empty kwS 2 = ⟨#[99, 117, 116]⟩ := rfl
  have g3 : rdOf ByteArray.empty kwS 3 = ⟨#[115, 116, 114, 117, 99, 116, 117, 114, 101]⟩ := rfl
  have g4 : rdOf ByteArray.empty kwS 4 = ⟨#[110, 97, 116, 117, 114, 97, 108]⟩ := rfl
  have hl : (kwS.length : Int) = 5 := rfl
  have w0 : wrap64 (0 + 1) = 1 := by unfold wrap64; omega
  have w1 : wrap64 (1 + 1) = 2 := by unfold wrap64; omega
  have w2 : wrap64 (2 + 1) = 3 := by unfold wrap64; omega
  have w3 : wrap64 (3 + 1) = 4 := by unfold wrap64; omega
  have w4 : wrap64 (4 + 1) = 5 := by unfold wrap64; omega
  have key : Ev (fun k => slices_Index_string_string.f k kwS x) (if x.toList = [] then 0 else if x.toList = [100, 101, 112, 111, 115, 105, 116] then 1 else if x.toList = [99, 117, 116] then 2 else if x.toList = [115, 116, 114, 117, 99, 116, 117, 114, 101] then 3 else if x.toList = [110, 97, 116, 117, 114, 97, 108] then 4 else -1) := by
    unfold slices_Index_string_string.f
    refine Ev.step (fun q => by rw [slices_Index_string_string.l0]) ?_
    simp only [hl, show (0 : Int) < 5 by omega, Int.le_refl, if_true, g0, kw0, w0]
    split
    · exact Ev.now _
    · refine Ev.step (fun q => by rw [slices_Index_string_string.l0]) ?_
      simp only [hl, show (1 : Int) < 5 by omega, show (0 : Int) ≤ 1 by omega, if_true, g1, kw1, w1]
      split
      · exact Ev.now _
      · refine Ev.step (fun q => by rw [slices_Index_string_string.l0]) ?_
        simp only [hl, show (2 : Int) < 5 by omega, show (0 : Int) ≤ 2 by omega, if_true, g2, kw2, w2]
        split
        · exact Ev.now _
        · refine Ev.step (fun q => by rw [slices_Index_string_string.l0]) ?_
          simp only [hl, show (3 : Int) < 5 by omega, show (0 : Int) ≤ 3 by omega, if_true, g3, kw3, w3]
          split
          · exact Ev.now _
          · refine Ev.step (fun q => by rw [slices_Index_string_string.l0]) ?_
            simp only [hl, show (4 : Int) < 5 by omega, show (0 : Int) ≤ 4 by omega, if_true, g4, kw4, w4]
            split
            · exact Ev.now _
            · refine Ev.step (fun q => by rw [slices_Index_string_string.l0]) ?_
              simp only [hl, Int.lt_irrefl, if_false]
              exact Ev.now _
  refine Ev.bind key ?_
  unfold kindN
  by_cases h0 : x.toList = []
  · simp only [h0, if_true]
    exact Ev.now _
  · simp only [h0, if_false]
    split
    · exact Ev.now _
    · split
      · exact Ev.now _
      · split
        · exact Ev.now _
        · split <;> exact Ev.now _
/-- One line, as the program takes it. -/
def stepI (st : List S94 × List S96) : List ByteArray → Option (List S94 × List S96)
  | [a, b, c] => if a.toList = ctxW then some (st.1 ++ [⟨(rdX b).1, kindN c⟩], st.2) else some (st.1, st.2 ++ [⟨(rdX a).1, (rdX c).1⟩])
  | _ => none
/-- One line, as the reference takes it. -/
def stepS (st : List S94 × List S96) : List ByteArray → Option (List S94 × List S96)
  | [a, b, c] => if a.toList = ctxW ∧ (rdX b).2 = true ∧ 0 < kindN c then some (st.1 ++ [⟨(rdX b).1, kindN c⟩], st.2) else if (rdX a).2 = true ∧ b.toList = aboveW ∧ (rdX c).2 = true then some (st.1, st.2 ++ [⟨(rdX a).1, (rdX c).1⟩]) else none
  | _ => none
def foldL (step : List S94 × List S96 → List ByteArray → Option (List S94 × List S96)) : List S94 × List S96 → List ByteArray → Option (List S94 × List S96)
  | st, [] => some st
  | st, y :: r => match step st (cutB y ⟨#[32]⟩) with
    | none => none
    | some st' => foldL step st' r
def failR : List S94 × List S96 × Bool := ([], [], false)
def endR (s : ByteArray) : Option (List S94 × List S96) → List S94 × List S96 × Bool
  | none => failR
  | some st => if (fmtRI st.1 st.2 (recT st.1 st.2)).2 = true then (if (fmtRI st.1 st.2 (recT st.1 st.2)).1.toList = s.toList then (st.1, st.2, true) else failR) else failR
theorem three {α : Type} {l : List α} (h : l.length = 3) : ∃ a b c, l = [a, b, c] := by
  match l, h with
  | [a, b, c], _ => exact ⟨a, b, c, rfl⟩
theorem cutOne (s : ByteArray) (c : UInt8) : cutB s ⟨#[c]⟩ = toB (spl c s.data.toList) := by
  rw [← splitB_one, toB, List.map_map]
  unfold cutB
  conv => lhs; rw [← List.map_id (Lib.splitB _ _ _ _)]
  exact List.map_congr_left (fun x _ => ba_of x _ rfl)
theorem pieceLe (sep : ByteArray) : ∀ (k : Nat) (s : ByteArray) (x : ByteArray), x ∈ Lib.splitB sep 0 k s → x.size ≤ s.size
  | 0, s, x, h => by
    simp only [Lib.splitB, List.mem_singleton] at h
    rw [h]
    exact Nat.le_refl _
  | k + 1, s, x, h => by
    unfold Lib.splitB at h
    split at h
    · rw [List.mem_singleton.1 h]
      exact Nat.le_refl _
    · rcases List.mem_cons.1 h with h | h
      · rw [h, ByteArray.size_extract]; omega
      · have := pieceLe sep k _ x h
        rw [ByteArray.size_extract] at this
        omega
theorem implLoop (s : ByteArray) (ys : List ByteArray) (hy : ∀ y ∈ ys, y.size ≤ 4000) (hl : ys.length ≤ 100000) : ∀ d i (st : List S94 × List S96), ys.length - i = d → i ≤ ys.length → st.1.length + st.2.length ≤ i →
    Ev (fun k => impl_ParseRecord.l0 k s ys (ys.length : Int) (i : Int) st.1 st.2) (endR s (foldL stepI st (ys.drop i))) := by
  intro d
  induction d with
  | zero =>
    intro i st hd hi hs
    obtain rfl : i = ys.length := by omega
    refine Ev.step (fun q => by rw [impl_ParseRecord.l0]) ?_
    have hf : impl_FmtStd.f st.1 st.2 = some (fmtRI st.1 st.2 (recT st.1 st.2)) := rfl
    simp only [Int.lt_irrefl, if_false, List.drop_length, foldL, hf, Option.bind_some, endR, failR]
    cases hb : (fmtRI st.1 st.2 (recT st.1 st.2)).2 with
    | false => simp only [Bool.false_eq_true, if_false]; exact Ev.now _
    | true =>
      simp only [if_true]
      split <;> exact Ev.now _
  | succ d ih =>
    intro i st hd hi hs
    have hlt : i < ys.length := by omega
    have hsz := hy ys[i] (List.getElem_mem hlt)
    have e2 : rdOf ByteArray.empty ys (i : Int) = ys[i] := by simp [rdOf, hlt]
    have hsp : strings_Split.f ys[i] ⟨#[32]⟩ = some (cutB ys[i] ⟨#[32]⟩) := if_pos ⟨by omega, by decide⟩
    have hpc : ∀ x ∈ cutB ys[i] ⟨#[32]⟩, x.size ≤ 4000 := fun x hx => Nat.le_trans (pieceLe _ _ _ x hx) hsz
    refine Ev.step (fun q => by rw [impl_ParseRecord.l0]) ?_
    simp only [show (i : Int) < (ys.length : Int) by omega, show (0 : Int) ≤ (i : Int) by omega, if_true, e2, hsp, Option.bind_some]
    rw [List.drop_eq_getElem_cons hlt, foldL]
    generalize cutB ys[i] ⟨#[32]⟩ = ws at hpc
    by_cases h3 : ws.length = 3
    · obtain ⟨a, b, c, rfl⟩ := three h3
      have r0 : rdOf ByteArray.empty [a, b, c] 0 = a := rfl
      have r1 : rdOf ByteArray.empty [a, b, c] 1 = b := rfl
      have r2 : rdOf ByteArray.empty [a, b, c] 2 = c := rfl
      have hl3 : (([a, b, c] : List ByteArray).length : Int) = 3 := rfl
      have pa : impl_ParseInt.f a = some (rdX a) := if_pos (by have := hpc a (by simp); omega)
      have pb : impl_ParseInt.f b = some (rdX b) := if_pos (by have := hpc b (by simp); omega)
      have pc : impl_ParseInt.f c = some (rdX c) := if_pos (by have := hpc c (by simp); omega)
      simp only [hl3, if_true, show (0 : Int) < 3 by omega, show (1 : Int) < 3 by omega, show (2 : Int) < 3 by omega, r0, r1, r2, pa, pb, pc, Option.bind_some]
      by_cases hc : a.toList = ctxW
      · have hc' : a.toList = ([99, 111, 110, 116, 101, 120, 116] : List UInt8) := hc
        simp only [hc', if_true]
        refine Ev.bind (implKind_ev c) ?_
        simp only [show st.1.length < 8796093022208 by omega, if_true]
        have h := ih (i + 1) (st.1 ++ [⟨(rdX b).1, kindN c⟩], st.2) (by omega) (by omega) (by simp only [List.length_append, List.length_singleton]; omega)
        rw [show ((i + 1 : Nat) : Int) = wrap64 ((i : Int) + 1) from (wsucc i (by omega)).symm] at h
        simp only [stepI, hc, if_true]
        exact h
      · have hc' : ¬ a.toList = ([99, 111, 110, 116, 101, 120, 116] : List UInt8) := hc
        simp only [hc', if_false, show st.2.length < 8796093022208 by omega, if_true]
        have h := ih (i + 1) (st.1, st.2 ++ [⟨(rdX a).1, (rdX c).1⟩]) (by omega) (by omega) (by simp only [List.length_append, List.length_singleton]; omega)
        rw [show ((i + 1 : Nat) : Int) = wrap64 ((i : Int) + 1) from (wsucc i (by omega)).symm] at h
        simp only [stepI, hc, if_false]
        exact h
    · have hne : ¬ (ws.length : Int) = 3 := by omega
      simp only [hne, if_false]
      have hst : stepI st ws = none := by
        unfold stepI
        split
        · simp at h3
        · rfl
      rw [hst]
      exact Ev.now _
end Go.Proofs.YtdmbboijcaelcaaDoor.Q
/-! ### PrF -/
/- Plain facts: both parses of a record find the record whose text it is. No program is walked here. -/
namespace Go.Proofs.YtdmbboijcaelcaaDoor.Q
open Go.RowKit Go.Proofs.YtdmbboijcaelcaaDoorW.PrintWords Go.Proofs.YtdmbboijcaelcaaDoorW.PrintLast
set_option linter.unusedVariables false
set_option linter.unusedSimpArgs false
theorem readX_ev (x : ByteArray) (h : x.size ≤ 1048576) : Ev (fun k => spec_l1Read.f k x) (rdX x) := read_ev x h
theorem w64m (n : Nat) (h : n ≤ 4611686018427387904) : wrap64 ((n : Int) - 1) = (n : Int) - 1 := by unfold wrap64; omega
theorem specLoop (s : ByteArray) (ys : List ByteArray) (hy : ∀ y ∈ ys, y.size ≤ 4000) (hl : ys.length ≤ 100000) : ∀ d i (st : List S94 × List S96), ys.length - 1 - i = d → i + 1 ≤ ys.length → st.1.length + st.2.length ≤ i →
    Ev (fun k => spec_ParseRecord.l0 k s ys (i : Int) st.1 st.2) (endR s (foldL stepS st ((ys.take (ys.length - 1)).drop i))) := by
  have hw : wrap64 ((ys.length : Int) - 1) = (ys.length : Int) - 1 := w64m _ (by omega)
  intro d
  induction d with
  | zero =>
    intro i st hd hi hs
    have hi2 : i = ys.length - 1 := by omega
    refine Ev.step (fun q => by rw [spec_ParseRecord.l0]) ?_
    rw [List.drop_of_length_le (by rw [List.length_take]; omega), foldL]
    have hg : spec_l2Good.f st.1 st.2 = some (goodB st.1 st.2) := rfl
    simp only [hw, show ¬ (i : Int) < (ys.length : Int) - 1 by omega, if_false, hg, Option.bind_some, endR, fmtRI, failR]
    by_cases hb : goodB st.1 st.2 = true
    · have h := good_bounds hb
      simp only [hb, if_true]
      refine Ev.bind (rectext_ev st.1 st.2 h.2.2.1 h.2.2.2 (by omega) (by omega)) ?_
      show Ev (fun n => if (recT st.1 st.2).toList = s.toList then _ else _) _
      split <;> exact Ev.now _
    · simp only [hb, if_false, Bool.false_eq_true]
      exact Ev.now _
  | succ d ih =>
    intro i st hd hi hs
    have hlt : i < ys.length := by omega
    have hlt2 : i < (ys.take (ys.length - 1)).length := by rw [List.length_take]; omega
    have hsz := hy ys[i] (List.getElem_mem hlt)
    have e2 : rdOf ByteArray.empty ys (i : Int) = ys[i] := by simp [rdOf, hlt]
    have hpc : ∀ x ∈ cutB ys[i] ⟨#[32]⟩, x.size ≤ 4000 := fun x hx => Nat.le_trans (pieceLe _ _ _ x hx) hsz
    have hsp := split_ev ys[i] 32 (by omega)
    rw [← cutOne, show ((32 : UInt8).toNat : Int) = 32 from rfl] at hsp
    refine Ev.step (fun q => by rw [spec_ParseRecord.l0]) ?_
    simp only [hw, show (i : Int) < (ys.length : Int) - 1 by omega, show (0 : Int) ≤ (i : Int) by omega, show (i : Int) < (ys.length : Int) by omega, if_true, e2]
    rw [List.drop_eq_getElem_cons hlt2, List.getElem_take, foldL]
    refine Ev.bind hsp ?_
    generalize cutB ys[i] ⟨#[32]⟩ = ws at hpc
    have hnext := fun (st' : List S94 × List S96) (h : st'.1.length + st'.2.length ≤ i + 1) => ih (i + 1) st' (by omega) (by omega) h
    rw [show ((i + 1 : Nat) : Int) = wrap64 ((i : Int) + 1) from (wsucc i (by omega)).symm] at hnext
    by_cases h3 : ws.length = 3
    · obtain ⟨a, b, c, rfl⟩ := three h3
      have r0 : rdOf ByteArray.empty [a, b, c] 0 = a := rfl
      have r1 : rdOf ByteArray.empty [a, b, c] 1 = b := rfl
      have r2 : rdOf ByteArray.empty [a, b, c] 2 = c := rfl
      have hl3 : (([a, b, c] : List ByteArray).length : Int) = 3 := rfl
      have pa := readX_ev a (by have := hpc a (by simp); omega)
      have pb := readX_ev b (by have := hpc b (by simp); omega)
      have pc := readX_ev c (by have := hpc c (by simp); omega)
      have hno : ¬ (a.toList = ctxW ∧ (rdX b).2 = true ∧ 0 < kindN c) → Ev (fun k => spec_ParseRecord.j2 k s ys (i : Int) [a, b, c] (rdX a).1 (rdX a).2 (rdX b).1 (rdX c).1 (rdX c).2 false st.1 st.2) (endR s (match stepS st [a, b, c] with | none => none | some st' => foldL stepS st' ((ys.take (ys.length - 1)).drop (i + 1)))) := by
        intro hn
        refine Ev.step (fun q => by rw [spec_ParseRecord.j2]) ?_
        simp only [Bool.false_eq_true, if_false, hl3, show (1 : Int) < 3 by omega, if_true, r1, stepS, hn]
        cases ha : (rdX a).2 with
        | false =>
          simp only [Bool.false_eq_true, if_false, false_and]
          exact Ev.now _
        | true =>
          simp only [if_true, true_and]
          by_cases hb : b.toList = aboveW
          · have hb' : b.toList = ([97, 98, 111, 118, 101] : List UInt8) := hb
            simp only [hb', if_true, hb, true_and]
            cases hc : (rdX c).2 with
            | false =>
              simp only [Bool.false_eq_true, if_false]
              have hab : ([97, 98, 111, 118, 101] : List UInt8) = aboveW := rfl
              simp only [hab, and_false, if_false]
              exact Ev.now _
            | true =>
              have hab : ([97, 98, 111, 118, 101] : List UInt8) = aboveW := rfl
              simp only [hab, and_true, if_true, show st.2.length < 8796093022208 by omega]
              exact hnext (st.1, st.2 ++ [⟨(rdX a).1, (rdX c).1⟩]) (by simp only [List.length_append, List.length_singleton]; omega)
          · have hb' : ¬ b.toList = ([97, 98, 111, 118, 101] : List UInt8) := hb
            simp only [hb', if_false, hb, false_and]
            exact Ev.now _
      simp only [hl3, if_true, show (0 : Int) < 3 by omega, show (1 : Int) < 3 by omega, show (2 : Int) < 3 by omega, r0, r1, r2]
      refine Ev.bind pa ?_
      refine Ev.bind pb ?_
      refine Ev.bind pc ?_
      by_cases hc : a.toList = ctxW
      · have hc' : a.toList = ([99, 111, 110, 116, 101, 120, 116] : List UInt8) := hc
        simp only [hc', if_true]
        cases hb : (rdX b).2 with
        | false =>
          have hn := hno (fun h => by rw [hb] at h; exact absurd h.2.1 (by simp))
          simp only [Bool.false_eq_true, if_false]
          exact hn
        | true =>
          simp only [if_true]
          refine Ev.bind (specKind_ev c) ?_
          by_cases hk : 0 < kindN c
          · simp only [show decide (kindN c > 0) = true from decide_eq_true hk]
            refine Ev.step (fun q => by rw [spec_ParseRecord.j2]) ?_
            simp only [if_true, hl3, show (2 : Int) < 3 by omega, r2]
            refine Ev.bind (specKind_ev c) ?_
            simp only [show st.1.length < 8796093022208 by omega, if_true, stepS, hc, hb, hk, true_and]
            exact hnext (st.1 ++ [⟨(rdX b).1, kindN c⟩], st.2) (by simp only [List.length_append, List.length_singleton]; omega)
          · have hn := hno (fun h => hk h.2.2)
            simp only [show decide (kindN c > 0) = false from decide_eq_false hk]
            exact hn
      · have hn := hno (fun h => hc h.1)
        have hc' : ¬ a.toList = ([99, 111, 110, 116, 101, 120, 116] : List UInt8) := hc
        simp only [hc', if_false]
        exact hn
    · have hne : ¬ (ws.length : Int) = 3 := by omega
      simp only [hne, if_false]
      have hst : stepS st ws = none := by
        unfold stepS
        split
        · simp at h3
        · rfl
      rw [hst]
      exact Ev.now _
def implR (s : ByteArray) : List S94 × List S96 × Bool := if 4000 < s.size then failR else endR s (foldL stepI ([], []) ((cutB s ⟨#[10]⟩).take ((cutB s ⟨#[10]⟩).length - 1)))
def specR (s : ByteArray) : List S94 × List S96 × Bool := if 4000 < s.size then failR else if (rdOf ByteArray.empty (cutB s ⟨#[10]⟩) (((cutB s ⟨#[10]⟩).length : Int) - 1)).toList = [] then endR s (foldL stepS ([], []) ((cutB s ⟨#[10]⟩).take ((cutB s ⟨#[10]⟩).length - 1))) else failR
theorem implRec_ev (s : ByteArray) (hs : s.size ≤ 1048576) : Ev (fun k => impl_ParseRecord.f k s) (implR s) := by
  unfold impl_ParseRecord.f implR
  by_cases h4 : 4000 < s.size
  · rw [if_pos h4]
    simp only [show (s.size : Int) > 4000 by omega, if_true]
    exact Ev.now _
  · rw [if_neg h4]
    have hsp : strings_Split.f s ⟨#[10]⟩ = some (cutB s ⟨#[10]⟩) := if_pos ⟨by omega, by decide⟩
    have hle := cutB_le s ⟨#[10]⟩ (by decide)
    have hln := cutB_length s ⟨#[10]⟩ (by decide)
    have hpc : ∀ x ∈ cutB s ⟨#[10]⟩, x.size ≤ 4000 := fun x hx => Nat.le_trans (pieceLe _ _ _ x hx) (by omega)
    simp only [show ¬ (s.size : Int) > 4000 by omega, if_false, hsp, Option.bind_some]
    generalize cutB s ⟨#[10]⟩ = ys at hle hln hpc
    have hw : wrap64 ((ys.length : Int) - 1) = (ys.length : Int) - 1 := w64m _ (by omega)
    simp only [hw, show (0 : Int) ≤ (ys.length : Int) - 1 by omega, show (ys.length : Int) - 1 ≤ (ys.length : Int) by omega, if_true, show ((ys.length : Int) - 1).toNat = ys.length - 1 by omega]
    have h := implLoop s (ys.take (ys.length - 1)) (fun y hy => hpc y (List.mem_of_mem_take hy)) (by rw [List.length_take]; omega) (ys.take (ys.length - 1)).length 0 ([], []) (by omega) (by omega) (by simp)
    rw [List.drop_zero] at h
    exact h
theorem specRec_ev (s : ByteArray) (hs : s.size ≤ 1048576) : Ev (fun k => spec_ParseRecord.f k s) (specR s) := by
  unfold spec_ParseRecord.f specR
  have hsp := split_ev s 10 hs
  rw [← cutOne, show ((10 : UInt8).toNat : Int) = 10 from rfl] at hsp
  refine Ev.bind hsp ?_
  have hle := cutB_le s ⟨#[10]⟩ (by decide)
  have hln := cutB_length s ⟨#[10]⟩ (by decide)
  by_cases h4 : 4000 < s.size
  · rw [if_pos h4]
    simp only [show (s.size : Int) > 4000 by omega, if_true]
    refine Ev.step (fun q => by rw [spec_ParseRecord.j0]) ?_
    simp only [if_true]
    exact Ev.now _
  · rw [if_neg h4]
    have hpc : ∀ x ∈ cutB s ⟨#[10]⟩, x.size ≤ 4000 := fun x hx => Nat.le_trans (pieceLe _ _ _ x hx) (by omega)
    generalize cutB s ⟨#[10]⟩ = ys at hle hln hpc
    have hw : wrap64 ((ys.length : Int) - 1) = (ys.length : Int) - 1 := w64m _ (by omega)
    simp only [show ¬ (s.size : Int) > 4000 by omega, if_false, hw, show (0 : Int) ≤ (ys.length : Int) - 1 by omega, show (ys.length : Int) - 1 < (ys.length : Int) by omega, if_true]
    refine Ev.step (fun q => by rw [spec_ParseRecord.j0]) ?_
    by_cases he : (rdOf ByteArray.empty ys ((ys.length : Int) - 1)).toList = []
    · rw [if_pos he]
      simp only [show ((rdOf ByteArray.empty ys ((ys.length : Int) - 1)).toList != ([] : List UInt8)) = false from bne_eq_false_iff_eq.2 he, Bool.false_eq_true, if_false]
      have h := specLoop s ys hpc (by omega) (ys.length - 1) 0 ([], []) (by omega) (by omega) (by simp)
      rw [List.drop_zero] at h
      exact h
    · rw [if_neg he]
      simp only [show ((rdOf ByteArray.empty ys ((ys.length : Int) - 1)).toList != ([] : List UInt8)) = true from bne_iff_ne.2 he, if_true]
      exact Ev.now _
end Go.Proofs.YtdmbboijcaelcaaDoor.Q
/-! ### PrG -/
/- Plain facts: a record's own text is parsed to that record, by both; else both fail. No program is walked here. -/
namespace Go.Proofs.YtdmbboijcaelcaaDoor.Q
open Go.RowKit Go.Proofs.YtdmbboijcaelcaaDoorW.PrintWords Go.Proofs.YtdmbboijcaelcaaDoorW.PrintLast
set_option linter.unusedVariables false
set_option linter.unusedSimpArgs false
theorem app_data (a b : ByteArray) : (a ++ b).data.toList = a.data.toList ++ b.data.toList := by simp
theorem nlFrom_data (xs : List ByteArray) : ∀ a : ByteArray, (nlFrom a xs).data.toList = a.data.toList ++ (xs.map (fun x => x.data.toList ++ [10])).flatten := by
  induction xs with
  | nil => intro a; simp [nlFrom]
  | cons x r ih =>
    intro a
    rw [nlFrom, ih, app_data, app_data, List.map_cons, List.flatten_cons, List.append_assoc]
theorem spl_lines (xs : List ByteArray) (h : ∀ x ∈ xs, (10 : UInt8) ∉ x.data.toList) : spl 10 (xs.map (fun x => x.data.toList ++ [10])).flatten = xs.map (·.data.toList) ++ [[]] := by
  induction xs with
  | nil => rfl
  | cons x r ih =>
    rw [List.map_cons, List.flatten_cons, List.append_assoc, List.map_cons, List.cons_append]
    show spl 10 (x.data.toList ++ 10 :: (r.map (fun x => x.data.toList ++ [10])).flatten) = _
    rw [spl_cat 10 _ _ (h x (by simp)), ih (fun y hy => h y (by simp [hy]))]
    rfl
theorem toB_data (xs : List ByteArray) : toB (xs.map (·.data.toList)) = xs := by
  unfold toB
  rw [List.map_map]
  conv => rhs; rw [← List.map_id xs]
  exact List.map_congr_left (fun x _ => (ba_of x _ rfl).symm)
theorem cut_lines (s : ByteArray) (xs : List ByteArray) (h : ∀ x ∈ xs, (10 : UInt8) ∉ x.data.toList) (hs : s.data.toList = (nlFrom ⟨#[]⟩ xs).data.toList) : cutB s ⟨#[10]⟩ = xs ++ [⟨#[]⟩] := by
  rw [cutOne, hs, nlFrom_data]
  show toB (spl 10 (xs.map (fun x => x.data.toList ++ [10])).flatten) = _
  rw [spl_lines xs h]
  unfold toB
  rw [List.map_append]
  have := toB_data xs
  unfold toB at this
  rw [this]
  rfl
theorem kw_cases {k : Int} (h1 : 1 ≤ k) (h4 : k ≤ 4) : (32 : UInt8) ∉ (rdOf ByteArray.empty kws k).data.toList ∧ (10 : UInt8) ∉ (rdOf ByteArray.empty kws k).data.toList ∧ kindN (rdOf ByteArray.empty kws k) = k := by
  have hk : k = 1 ∨ k = 2 ∨ k = 3 ∨ k = 4 := by omega
  rcases hk with rfl | rfl | rfl | rfl
  · have e : rdOf ByteArray.empty kws 1 = ⟨#[100, 101, 112, 111, 115, 105, 116]⟩ := rfl
    rw [e]
    refine ⟨by decide, by decide, ?_⟩
    unfold kindN
    rw [kw1, if_pos rfl]
  · have e : rdOf ByteArray.empty kws 2 = ⟨#[99, 117, 116]⟩ := rfl
    rw [e]
    refine ⟨by decide, by decide, ?_⟩
    unfold kindN
    rw [kw2, if_neg (by decide), if_pos rfl]
  · have e : rdOf ByteArray.empty kws 3 = ⟨#[115, 116, 114, 117, 99, 116, 117, 114, 101]⟩ := rfl
    rw [e]
    refine ⟨by decide, by decide, ?_⟩
    unfold kindN
    rw [kw3, if_neg (by decide), if_neg (by decide), if_pos rfl]
  · have e : rdOf ByteArray.empty kws 4 = ⟨#[110, 97, 116, 117, 114, 97, 108]⟩ := rfl
    rw [e]
    refine ⟨by decide, by decide, ?_⟩
    unfold kindN
    rw [kw4, if_neg (by decide), if_neg (by decide), if_neg (by decide), if_pos rfl]
theorem num_digit {n : Int} (h : 1 ≤ n ∧ n ≤ 999) {b : UInt8} (hb : b ∈ Lib.itoa n) : 48 ≤ b.toNat ∧ b.toNat ≤ 57 := by
  unfold Lib.itoa at hb
  rw [if_neg (by omega)] at hb
  exact decDigits_digit _ b hb
theorem num_not {n : Int} (h : 1 ≤ n ∧ n ≤ 999) (c : UInt8) (hc : c.toNat < 48 ∨ 57 < c.toNat) : c ∉ Lib.itoa n := fun hm => by
  have := num_digit h hm
  omega
theorem num_read {n : Int} (h : 1 ≤ n ∧ n ≤ 999) : rdX (itB n) = (n, true) := readL_itoa n (by omega) (by omega)
theorem ctx_data (x : S94) : (ctxB x).data.toList = ctxW ++ 32 :: (Lib.itoa x.f0 ++ 32 :: (rdOf ByteArray.empty kws x.f1).data.toList) := by
  unfold ctxB
  rw [app_data, app_data, app_data]
  show (([99, 111, 110, 116, 101, 120, 116, 32] ++ Lib.itoa x.f0) ++ [32]) ++ (rdOf ByteArray.empty kws x.f1).data.toList = _
  simp [ctxW]
theorem rel_data (x : S96) : (relB x).data.toList = Lib.itoa x.f0 ++ 32 :: (aboveW ++ 32 :: Lib.itoa x.f1) := by
  unfold relB
  rw [app_data, app_data]
  show (Lib.itoa x.f0 ++ [32, 97, 98, 111, 118, 101, 32]) ++ Lib.itoa x.f1 = _
  simp [aboveW]
theorem ctx_words {x : S94} (h : 1 ≤ x.f0 ∧ x.f0 ≤ 999 ∧ 1 ≤ x.f1 ∧ x.f1 ≤ 4) : cutB (ctxB x) ⟨#[32]⟩ = [⟨ctxW.toArray⟩, itB x.f0, rdOf ByteArray.empty kws x.f1] := by
  have hk := kw_cases h.2.2.1 h.2.2.2
  rw [cutOne, ctx_data, spl_cat 32 _ _ (by decide), spl_cat 32 _ _ (num_not ⟨h.1, h.2.1⟩ 32 (.inl (by decide))), spl_not 32 _ hk.1, toB_cons, toB_cons, toB_cons, ← ba_of (rdOf ByteArray.empty kws x.f1) _ rfl]
  rfl
theorem rel_words {x : S96} (h : (1 ≤ x.f0 ∧ x.f0 ≤ 999) ∧ 1 ≤ x.f1 ∧ x.f1 ≤ 999) : cutB (relB x) ⟨#[32]⟩ = [itB x.f0, ⟨aboveW.toArray⟩, itB x.f1] := by
  rw [cutOne, rel_data, spl_cat 32 _ _ (num_not h.1 32 (.inl (by decide))), spl_cat 32 _ _ (by decide), spl_not 32 _ (num_not h.2 32 (.inl (by decide))), toB_cons, toB_cons, toB_cons]
  rfl
theorem ctx_line {x : S94} (h : 1 ≤ x.f0 ∧ x.f0 ≤ 999 ∧ 1 ≤ x.f1 ∧ x.f1 ≤ 4) : (10 : UInt8) ∉ (ctxB x).data.toList := by
  have hk := kw_cases h.2.2.1 h.2.2.2
  rw [ctx_data]
  intro hm
  rcases List.mem_append.1 hm with hm | hm
  · exact absurd hm (by decide)
  · rcases List.mem_cons.1 hm with hm | hm
    · exact absurd hm (by decide)
    · rcases List.mem_append.1 hm with hm | hm
      · exact num_not ⟨h.1, h.2.1⟩ 10 (.inl (by decide)) hm
      · rcases List.mem_cons.1 hm with hm | hm
        · exact absurd hm (by decide)
        · exact hk.2.1 hm
theorem rel_line {x : S96} (h : (1 ≤ x.f0 ∧ x.f0 ≤ 999) ∧ 1 ≤ x.f1 ∧ x.f1 ≤ 999) : (10 : UInt8) ∉ (relB x).data.toList := by
  rw [rel_data]
  intro hm
  rcases List.mem_append.1 hm with hm | hm
  · exact num_not h.1 10 (.inl (by decide)) hm
  · rcases List.mem_cons.1 hm with hm | hm
    · exact absurd hm (by decide)
    · rcases List.mem_append.1 hm with hm | hm
      · exact absurd hm (by decide)
      · rcases List.mem_cons.1 hm with hm | hm
        · exact absurd hm (by decide)
        · exact num_not h.2 10 (.inl (by decide)) hm
theorem ctxW_list : (⟨ctxW.toArray⟩ : ByteArray).toList = ctxW := by rw [Lib.toList_data]
theorem aboveW_list : (⟨aboveW.toArray⟩ : ByteArray).toList = aboveW := by rw [Lib.toList_data]
theorem num_not_ctx {n : Int} (h : 1 ≤ n ∧ n ≤ 999) : (itB n).toList ≠ ctxW := fun e => by
  rw [Lib.toList_data] at e
  have e2 : Lib.itoa n = ctxW := e
  exact num_not h 99 (.inr (by decide)) (by rw [e2]; decide)
theorem fold_ctx (step : List S94 × List S96 → List ByteArray → Option (List S94 × List S96)) (hstep : ∀ st (x : S94), (1 ≤ x.f0 ∧ x.f0 ≤ 999 ∧ 1 ≤ x.f1 ∧ x.f1 ≤ 4) → step st [⟨ctxW.toArray⟩, itB x.f0, rdOf ByteArray.empty kws x.f1] = some (st.1 ++ [x], st.2)) (more : List ByteArray) : ∀ (cs : List S94) (st : List S94 × List S96), (∀ x ∈ cs, 1 ≤ x.f0 ∧ x.f0 ≤ 999 ∧ 1 ≤ x.f1 ∧ x.f1 ≤ 4) → foldL step st (cs.map ctxB ++ more) = foldL step (st.1 ++ cs, st.2) more
  | [], st, _ => by simp
  | x :: r, st, h => by
    rw [List.map_cons, List.cons_append, foldL, ctx_words (h x (by simp)), hstep st x (h x (by simp))]
    simp only
    rw [fold_ctx step hstep more r _ (fun y hy => h y (by simp [hy]))]
    simp
theorem fold_rel (step : List S94 × List S96 → List ByteArray → Option (List S94 × List S96)) (hstep : ∀ st (x : S96), ((1 ≤ x.f0 ∧ x.f0 ≤ 999) ∧ 1 ≤ x.f1 ∧ x.f1 ≤ 999) → step st [itB x.f0, ⟨aboveW.toArray⟩, itB x.f1] = some (st.1, st.2 ++ [x])) : ∀ (rs : List S96) (st : List S94 × List S96), (∀ x ∈ rs, (1 ≤ x.f0 ∧ x.f0 ≤ 999) ∧ 1 ≤ x.f1 ∧ x.f1 ≤ 999) → foldL step st (rs.map relB) = some (st.1, st.2 ++ rs)
  | [], st, _ => by simp [foldL]
  | x :: r, st, h => by
    rw [List.map_cons, foldL, rel_words (h x (by simp)), hstep st x (h x (by simp))]
    simp only
    rw [fold_rel step hstep r _ (fun y hy => h y (by simp [hy]))]
    simp
theorem stepI_ctx (st : List S94 × List S96) (x : S94) (h : 1 ≤ x.f0 ∧ x.f0 ≤ 999 ∧ 1 ≤ x.f1 ∧ x.f1 ≤ 4) : stepI st [⟨ctxW.toArray⟩, itB x.f0, rdOf ByteArray.empty kws x.f1] = some (st.1 ++ [x], st.2) := by
  unfold stepI
  simp only [ctxW_list, if_true, num_read ⟨h.1, h.2.1⟩, (kw_cases h.2.2.1 h.2.2.2).2.2]
theorem stepI_rel (st : List S94 × List S96) (x : S96) (h : (1 ≤ x.f0 ∧ x.f0 ≤ 999) ∧ 1 ≤ x.f1 ∧ x.f1 ≤ 999) : stepI st [itB x.f0, ⟨aboveW.toArray⟩, itB x.f1] = some (st.1, st.2 ++ [x]) := by
  unfold stepI
  simp only [num_not_ctx h.1, if_false, num_read h.1, num_read h.2]
theorem stepS_ctx (st : List S94 × List S96) (x : S94) (h : 1 ≤ x.f0 ∧ x.f0 ≤ 999 ∧ 1 ≤ x.f1 ∧ x.f1 ≤ 4) : stepS st [⟨ctxW.toArray⟩, itB x.f0, rdOf ByteArray.empty kws x.f1] = some (st.1 ++ [x], st.2) := by
  unfold stepS
  simp only [ctxW_list, num_read ⟨h.1, h.2.1⟩, (kw_cases h.2.2.1 h.2.2.2).2.2, show 0 < x.f1 by omega, and_self, if_true]
theorem stepS_rel (st : List S94 × List S96) (x : S96) (h : (1 ≤ x.f0 ∧ x.f0 ≤ 999) ∧ 1 ≤ x.f1 ∧ x.f1 ≤ 999) : stepS st [itB x.f0, ⟨aboveW.toArray⟩, itB x.f1] = some (st.1, st.2 ++ [x]) := by
  unfold stepS
  simp only [num_not_ctx h.1, false_and, if_false, num_read h.1, num_read h.2, aboveW_list, and_self, if_true]
/-- The record whose text s is. -/
def TextOf (cs : List S94) (rs : List S96) (s : ByteArray) : Prop := goodB cs rs = true ∧ (recT cs rs).toList = s.toList
theorem end_hit {cs : List S94} {rs : List S96} {s : ByteArray} (h : TextOf cs rs s) : endR s (some (cs, rs)) = (cs, rs, true) := by
  unfold endR fmtRI
  simp only [h.1, if_true, h.2]
theorem end_miss {s : ByteArray} (h : ∀ cs rs, ¬ TextOf cs rs s) (o : Option (List S94 × List S96)) : endR s o = failR := by
  cases o with
  | none => rfl
  | some st =>
    unfold endR fmtRI
    by_cases hg : goodB st.1 st.2 = true
    · simp only [hg, if_true]
      exact if_neg (fun e => h st.1 st.2 ⟨hg, e⟩)
    · simp only [hg, Bool.false_eq_true, if_false]
theorem nlFrom_size (xs : List ByteArray) (h : ∀ x ∈ xs, x.size ≤ 100) : ∀ a : ByteArray, (nlFrom a xs).size ≤ a.size + 101 * xs.length := by
  induction xs with
  | nil => intro a; simp [nlFrom]
  | cons x r ih =>
    intro a
    have h1 := ih (fun y hy => h y (by simp [hy])) (a ++ (x ++ (⟨#[10]⟩ : ByteArray)))
    have h2 := h x (by simp)
    rw [nlFrom]
    rw [ByteArray.size_append, nl_size] at h1
    simp only [List.length_cons]
    omega
theorem both_hit {cs : List S94} {rs : List S96} {s : ByteArray} (h : TextOf cs rs s) : implR s = (cs, rs, true) ∧ specR s = (cs, rs, true) := by
  have hg := good_bounds h.1
  have hd : s.data.toList = (recT cs rs).data.toList := by rw [← Lib.toList_data, ← Lib.toList_data, h.2]
  have hsz : ¬ 4000 < s.size := by
    have h1 := nlFrom_size (cs.map ctxB ++ rs.map relB) (fun x hx => by
      rcases List.mem_append.1 hx with hx | hx
      · obtain ⟨y, hy, rfl⟩ := List.mem_map.1 hx
        exact ctxB_size (hg.2.2.1 y hy)
      · obtain ⟨y, hy, rfl⟩ := List.mem_map.1 hx
        exact relB_size (hg.2.2.2 y hy)) ⟨#[]⟩
    have h2 : s.size = (recT cs rs).size := by
      have := congrArg List.length hd
      simpa using this
    rw [List.length_append, List.length_map, List.length_map] at h1
    have h3 : (⟨#[]⟩ : ByteArray).size = 0 := rfl
    unfold recT at h2
    omega
  have hc : cutB s ⟨#[10]⟩ = (cs.map ctxB ++ rs.map relB) ++ [⟨#[]⟩] := cut_lines s _ (fun x hx => by
    rcases List.mem_append.1 hx with hx | hx
    · obtain ⟨y, hy, rfl⟩ := List.mem_map.1 hx
      exact ctx_line (hg.2.2.1 y hy)
    · obtain ⟨y, hy, rfl⟩ := List.mem_map.1 hx
      exact rel_line (hg.2.2.2 y hy)) hd
  have hl : (cutB s ⟨#[10]⟩).length - 1 = (cs.map ctxB ++ rs.map relB).length := by rw [hc, List.length_append, List.length_singleton]; omega
  have ht : (cutB s ⟨#[10]⟩).take ((cutB s ⟨#[10]⟩).length - 1) = cs.map ctxB ++ rs.map relB := by
    rw [hl, hc]
    exact List.take_left
  have hfI : foldL stepI ([], []) (cs.map ctxB ++ rs.map relB) = some (cs, rs) := by
    rw [fold_ctx stepI stepI_ctx _ cs _ hg.2.2.1, fold_rel stepI stepI_rel rs _ hg.2.2.2]
    rfl
  have hfS : foldL stepS ([], []) (cs.map ctxB ++ rs.map relB) = some (cs, rs) := by
    rw [fold_ctx stepS stepS_ctx _ cs _ hg.2.2.1, fold_rel stepS stepS_rel rs _ hg.2.2.2]
    rfl
  refine ⟨?_, ?_⟩
  · unfold implR
    rw [if_neg hsz, ht, hfI, end_hit h]
  · unfold specR
    have hlast : (rdOf ByteArray.empty (cutB s ⟨#[10]⟩) (((cutB s ⟨#[10]⟩).length : Int) - 1)).toList = [] := by
      rw [hc]
      have e : (((cs.map ctxB ++ rs.map relB ++ [(⟨#[]⟩ : ByteArray)]).length : Int) - 1) = ((cs.map ctxB ++ rs.map relB).length : Int) := by rw [List.length_append, List.length_singleton]; omega
      rw [e]
      have e2 : rdOf ByteArray.empty (cs.map ctxB ++ rs.map relB ++ [(⟨#[]⟩ : ByteArray)]) ((cs.map ctxB ++ rs.map relB).length : Int) = ⟨#[]⟩ := by
        generalize cs.map ctxB ++ rs.map relB = xs
        simp [rdOf]
      rw [e2, kw0]
    rw [if_neg hsz, if_pos hlast, ht, hfS, end_hit h]
theorem both_miss {s : ByteArray} (h : ∀ cs rs, ¬ TextOf cs rs s) : implR s = failR ∧ specR s = failR := by
  refine ⟨?_, ?_⟩
  · unfold implR
    split
    · rfl
    · exact end_miss h _
  · unfold specR
    split
    · rfl
    · split
      · exact end_miss h _
      · rfl
theorem both_same (s : ByteArray) : implR s = specR s := by
  by_cases h : ∃ cs rs, TextOf cs rs s
  · obtain ⟨cs, rs, h⟩ := h
    rw [(both_hit h).1, (both_hit h).2]
  · have h' : ∀ cs rs, ¬ TextOf cs rs s := fun cs rs ht => h ⟨cs, rs, ht⟩
    rw [(both_miss h').1, (both_miss h').2]
theorem implR_len (s : ByteArray) : (implR s).1.length ≤ 1048576 ∧ (implR s).2.1.length ≤ 1048576 := by
  by_cases h : ∃ cs rs, TextOf cs rs s
  · obtain ⟨cs, rs, h⟩ := h
    have hg := good_bounds h.1
    rw [(both_hit h).1]
    exact ⟨by show cs.length ≤ _; omega, by show rs.length ≤ _; omega⟩
  · have h' : ∀ cs rs, ¬ TextOf cs rs s := fun cs rs ht => h ⟨cs, rs, ht⟩
    rw [(both_miss h').1]
    exact ⟨Nat.zero_le _, Nat.zero_le _⟩
end Go.Proofs.YtdmbboijcaelcaaDoor.Q
/-! ### PrL -/
/- ParseRecord: what a record's marks hold, and the law. -/
namespace Go.Proofs.YtdmbboijcaelcaaDoor.Q
open Go.RowKit Go.Proofs.YtdmbboijcaelcaaDoorW.PrintWords Go.Proofs.YtdmbboijcaelcaaDoorW.PrintLast
set_option linter.unusedVariables false
set_option linter.unusedSimpArgs false
namespace LB
def pairsR (k : Int) (n : Nat) : List S96 := (List.range n).map fun (i : Nat) => ⟨k + 2 * (i : Int), k + 2 * (i : Int) + 1⟩
theorem pairsR_length (k : Int) (n : Nat) : (pairsR k n).length = n := by simp [pairsR]
theorem markR_pairs (l : List S96) (k : Int) (hl : l.length ≤ 1048576) (h0 : 0 ≤ k) (h1 : k ≤ 8388608) : Ev (fun q => laws_markRelationS.f q l k) (k + 2 * (l.length : Int), pairsR k l.length) := by
  unfold laws_markRelationS.f
  have key := Ev.down l.length (fun q i => laws_markRelationS.l0 q (pairsR k i ++ l.drop i) (k + 2 * (i : Int)) (i : Int)) (fun _ => (k + 2 * (l.length : Int), pairsR k l.length))
    (by
      refine Ev.step (fun k => by rw [laws_markRelationS.l0]) ?_
      simp only [List.drop_length, List.append_nil, pairsR_length, Int.lt_irrefl, if_false]
      exact Ev.now _)
    (fun i hi ih => by
      refine Ev.step (fun k => by rw [laws_markRelationS.l0]) ?_
      have a2 : (pairsR k i ++ l.drop i).length = l.length := by rw [List.length_append, pairsR_length, List.length_drop]; omega
      have a3 : (i : Int) < (l.length : Int) := by omega
      have a4 : (0 : Int) ≤ (i : Int) := by omega
      have a5 : wrap64 (k + 2 * (i : Int) + 1) = k + 2 * (i : Int) + 1 := by unfold wrap64; omega
      have a6 : wrap64 (k + 2 * (i : Int) + 1 + 1) = k + 2 * ((i + 1 : Nat) : Int) := by unfold wrap64; omega
      have a7 : ∀ x : S96, (pairsR k i ++ l.drop i).set i x = pairsR k i ++ x :: l.drop (i + 1) := fun x => by
        rw [List.set_append_right _ _ (by rw [pairsR_length]; omega), pairsR_length, Nat.sub_self, List.drop_eq_getElem_cons hi, List.set_cons_zero]
      have a8 : ∀ x y : S96, (pairsR k i ++ x :: l.drop (i + 1)).set i y = pairsR k i ++ y :: l.drop (i + 1) := fun x y => by
        rw [List.set_append_right _ _ (by rw [pairsR_length]; omega), pairsR_length, Nat.sub_self, List.set_cons_zero]
      have a9 : ∀ x : S96, rd_T96 (pairsR k i ++ x :: l.drop (i + 1)) (i : Int) = x := fun x => by
        rw [rdR _ _ (by rw [List.length_append, pairsR_length, List.length_cons]; omega), List.getElem_append_right (by rw [pairsR_length]; omega)]
        simp [pairsR_length]
      have b1 : pairsR k i ++ (⟨k + 2 * (i : Int), k + 2 * (i : Int) + 1⟩ : S96) :: l.drop (i + 1) = pairsR k (i + 1) ++ l.drop (i + 1) := by simp [pairsR, List.range_succ]
      simp only [a2, a3, a4, if_true, Option.bind_some, Int.toNat_natCast, w64 i (by omega), a5, a6, a7, a8, a9, b1]
      exact ih) 0 (Nat.zero_le _)
  simpa [pairsR] using key
theorem heldR_pairs (n : Nat) (k : Int) (hl : n ≤ 1048576) (h0 : 0 ≤ k) (h1 : k ≤ 8388608) : Ev (fun q => laws_heldRelationS.f q (pairsR k n) k) (k + 2 * (n : Int)) := by
  unfold laws_heldRelationS.f
  have key := Ev.down n (fun q i => laws_heldRelationS.l0 q (pairsR k n) (k + 2 * (i : Int)) (i : Int)) (fun _ => k + 2 * (n : Int))
    (by
      refine Ev.step (fun k => by rw [laws_heldRelationS.l0]) ?_
      simp only [pairsR_length, Int.lt_irrefl, if_false]
      exact Ev.now _)
    (fun i hi ih => by
      refine Ev.step (fun k => by rw [laws_heldRelationS.l0]) ?_
      have a3 : (i : Int) < (n : Int) := by omega
      have a4 : (0 : Int) ≤ (i : Int) := by omega
      have a5 : wrap64 (k + 2 * (i : Int) + 1) = k + 2 * (i : Int) + 1 := by unfold wrap64; omega
      have a6 : wrap64 (k + 2 * (i : Int) + 1 + 1) = k + 2 * ((i + 1 : Nat) : Int) := by unfold wrap64; omega
      have a7 : rd_T96 (pairsR k n) (i : Int) = ⟨k + 2 * (i : Int), k + 2 * (i : Int) + 1⟩ := by rw [rdR _ _ (by rw [pairsR_length]; exact hi)]; simp [pairsR]
      simp only [pairsR_length, a3, a4, a5, a6, a7, if_true, w64 i (by omega)]
      exact ih) 0 (Nat.zero_le _)
  simpa using key
def pairsC (k : Int) (n : Nat) : List S94 := (List.range n).map fun (i : Nat) => ⟨k + 2 * (i : Int), k + 2 * (i : Int) + 1⟩
theorem pairsC_length (k : Int) (n : Nat) : (pairsC k n).length = n := by simp [pairsC]
theorem markC_pairs (l : List S94) (k : Int) (hl : l.length ≤ 1048576) (h0 : 0 ≤ k) (h1 : k ≤ 8388608) : Ev (fun q => laws_markContextS.f q l k) (k + 2 * (l.length : Int), pairsC k l.length) := by
  unfold laws_markContextS.f
  have key := Ev.down l.length (fun q i => laws_markContextS.l0 q (pairsC k i ++ l.drop i) (k + 2 * (i : Int)) (i : Int)) (fun _ => (k + 2 * (l.length : Int), pairsC k l.length))
    (by
      refine Ev.step (fun k => by rw [laws_markContextS.l0]) ?_
      simp only [List.drop_length, List.append_nil, pairsC_length, Int.lt_irrefl, if_false]
      exact Ev.now _)
    (fun i hi ih => by
      refine Ev.step (fun k => by rw [laws_markContextS.l0]) ?_
      have a2 : (pairsC k i ++ l.drop i).length = l.length := by rw [List.length_append, pairsC_length, List.length_drop]; omega
      have a3 : (i : Int) < (l.length : Int) := by omega
      have a4 : (0 : Int) ≤ (i : Int) := by omega
      have a5 : wrap64 (k + 2 * (i : Int) + 1) = k + 2 * (i : Int) + 1 := by unfold wrap64; omega
      have a6 : wrap64 (k + 2 * (i : Int) + 1 + 1) = k + 2 * ((i + 1 : Nat) : Int) := by unfold wrap64; omega
      have a7 : ∀ x : S94, (pairsC k i ++ l.drop i).set i x = pairsC k i ++ x :: l.drop (i + 1) := fun x => by
        rw [List.set_append_right _ _ (by rw [pairsC_length]; omega), pairsC_length, Nat.sub_self, List.drop_eq_getElem_cons hi, List.set_cons_zero]
      have a8 : ∀ x y : S94, (pairsC k i ++ x :: l.drop (i + 1)).set i y = pairsC k i ++ y :: l.drop (i + 1) := fun x y => by
        rw [List.set_append_right _ _ (by rw [pairsC_length]; omega), pairsC_length, Nat.sub_self, List.set_cons_zero]
      have a9 : ∀ x : S94, rd_T94 (pairsC k i ++ x :: l.drop (i + 1)) (i : Int) = x := fun x => by
        rw [rdC _ _ (by rw [List.length_append, pairsC_length, List.length_cons]; omega), List.getElem_append_right (by rw [pairsC_length]; omega)]
        simp [pairsC_length]
      have b1 : pairsC k i ++ (⟨k + 2 * (i : Int), k + 2 * (i : Int) + 1⟩ : S94) :: l.drop (i + 1) = pairsC k (i + 1) ++ l.drop (i + 1) := by simp [pairsC, List.range_succ]
      simp only [a2, a3, a4, if_true, Option.bind_some, Int.toNat_natCast, w64 i (by omega), a5, a6, a7, a8, a9, b1]
      exact ih) 0 (Nat.zero_le _)
  simpa [pairsC] using key
theorem heldC_pairs (n : Nat) (k : Int) (hl : n ≤ 1048576) (h0 : 0 ≤ k) (h1 : k ≤ 8388608) : Ev (fun q => laws_heldContextS.f q (pairsC k n) k) (k + 2 * (n : Int)) := by
  unfold laws_heldContextS.f
  have key := Ev.down n (fun q i => laws_heldContextS.l0 q (pairsC k n) (k + 2 * (i : Int)) (i : Int)) (fun _ => k + 2 * (n : Int))
    (by
      refine Ev.step (fun k => by rw [laws_heldContextS.l0]) ?_
      simp only [pairsC_length, Int.lt_irrefl, if_false]
      exact Ev.now _)
    (fun i hi ih => by
      refine Ev.step (fun k => by rw [laws_heldContextS.l0]) ?_
      have a3 : (i : Int) < (n : Int) := by omega
      have a4 : (0 : Int) ≤ (i : Int) := by omega
      have a5 : wrap64 (k + 2 * (i : Int) + 1) = k + 2 * (i : Int) + 1 := by unfold wrap64; omega
      have a6 : wrap64 (k + 2 * (i : Int) + 1 + 1) = k + 2 * ((i + 1 : Nat) : Int) := by unfold wrap64; omega
      have a7 : rd_T94 (pairsC k n) (i : Int) = ⟨k + 2 * (i : Int), k + 2 * (i : Int) + 1⟩ := by rw [rdC _ _ (by rw [pairsC_length]; exact hi)]; simp [pairsC]
      simp only [pairsC_length, a3, a4, a5, a6, a7, if_true, w64 i (by omega)]
      exact ih) 0 (Nat.zero_le _)
  simpa using key
theorem markRec_pairs (cs : List S94) (rs : List S96) (hc : cs.length ≤ 1048576) (hr : rs.length ≤ 1048576) : Ev (fun q => laws_markRecord.f q cs rs 1) (1 + 2 * (cs.length : Int) + 2 * (rs.length : Int), pairsC 1 cs.length, pairsR (1 + 2 * (cs.length : Int)) rs.length) := by
  unfold laws_markRecord.f
  exact Ev.bind (markC_pairs cs 1 hc (by omega) (by omega)) (Ev.bind (markR_pairs rs _ hr (by omega) (by omega)) (Ev.now _))
theorem heldRec_pairs (a b : Nat) (hc : a ≤ 1048576) (hr : b ≤ 1048576) : Ev (fun q => laws_heldRecord.f q (pairsC 1 a) (pairsR (1 + 2 * (a : Int)) b) 1) (1 + 2 * (a : Int) + 2 * (b : Int)) := by
  unfold laws_heldRecord.f
  refine Ev.bind (heldC_pairs a 1 hc (by omega) (by omega)) ?_
  have h1 : ¬ (1 + 2 * (a : Int)) < 0 := by omega
  simp only [h1, if_false]
  refine Ev.bind (heldR_pairs b _ hr (by omega) (by omega)) ?_
  have h2 : ¬ (1 + 2 * (a : Int) + 2 * (b : Int)) < 0 := by omega
  simp only [h2, if_false]
  exact Ev.now _
end LB
theorem ParseRecord_law (s : ByteArray) : Ev (fun k => laws_FnExactParseRecord.f k s) true := by
  unfold laws_FnExactParseRecord.f
  by_cases hb : (s.size : Int) > 1048576
  · simp only [hb, if_true]
    exact Ev.now _
  · have hs : s.size ≤ 1048576 := by omega
    have hi := implRec_ev s hs
    have hq := specRec_ev s hs
    rw [← both_same] at hq
    have hn := implR_len s
    simp only [hb, if_false]
    generalize implR s = r at hi hq hn
    obtain ⟨cs, rs, ok⟩ := r
    have hc : cs.length ≤ 1048576 := hn.1
    have hr : rs.length ≤ 1048576 := hn.2
    refine Ev.bind hq ?_
    refine Ev.bind hi ?_
    refine Ev.bind (LB.eqRecord_ev cs rs hc hr) ?_
    have hbb : (ok != ok) = false := by cases ok <;> rfl
    simp only [if_true, hbb]
    have hm := LB.markRec_pairs cs rs hc hr
    have hh := LB.heldRec_pairs cs.length rs.length hc hr
    have hnn : ¬ (1 + 2 * (cs.length : Int) + 2 * (rs.length : Int)) < 0 := by omega
    refine Ev.step (fun q => by rw [laws_FnExactParseRecord.j0]) ?_
    simp only [Bool.false_eq_true, if_false]
    refine Ev.bind hm ?_
    refine Ev.bind hh ?_
    simp only [hnn, if_false, if_true]
    refine Ev.bind hi ?_
    refine Ev.bind (LB.eqRecord_ev cs rs hc hr) ?_
    simp only [if_true, hbb]
    refine Ev.step (fun q => by rw [laws_FnExactParseRecord.j1]) ?_
    simp only [Bool.false_eq_true, if_false]
    refine Ev.bind hh ?_
    simp only [hnn, if_false, if_true]
    exact Ev.now _
theorem law_FnExactParseRecord_calls (s : ByteArray) (w : World) (hlw : LW w) (hew : EW w) (hmx : MX w) :
    Calls Tryd.prog 12 #[.string s] w fun e w' => e = .returned (.bool true) ∧ Below w.heap.size w w' := by
  obtain ⟨k, hk⟩ := Ev.rounds (ParseRecord_law s)
  exact laws_FnExactParseRecord.calls k s true w hk ⟨hlw, hew, hmx⟩
end Go.Proofs.YtdmbboijcaelcaaDoor.Q
