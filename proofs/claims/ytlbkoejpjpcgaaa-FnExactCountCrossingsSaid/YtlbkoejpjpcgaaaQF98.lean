-- Written by a program of this session (wip/xprint.py over the kit's printer).
import Derived.Test.YtlbkoejpjpcgaaaQ0
import Derived.Test.YtlbkoejpjpcgaaaQF100
import Derived.Test.YtlbkoejpjpcgaaaQF125
import Derived.Test.YtlbkoejpjpcgaaaQF85
import Derived.Test.YtlbkoejpjpcgaaaQF90
import Derived.Test.YtlbkoejpjpcgaaaQP
namespace Go.Proofs.Ytlbkoejpjpcgaaa.Q
open Go.RowKit Go.Proofs.YtlbkoejpjpcgaaaW.PrintWords Go.Proofs.YtlbkoejpjpcgaaaW.PrintLast
set_option linter.unusedVariables false
set_option linter.unusedSimpArgs false

/-! ### impl_redundantRelations: function 98 -/
/-- A row of another kind is grown. -/
theorem OrdIn.other {α : Type} {d : Kd α} {e base : Nat} {ok : Nat → Prop} {u : Value} {xs : List α} {w wr W : World} {p N1 N2 n : Nat} {v : Value} {ns : List Int} {M1 M2 : Nat → Nat → Bool} (h : OrdIn w wr p N1 N2 n v ns M1 M2) (hu : d.R e wr base ok u xs) (hb : w.heap.size ≤ base) (hg : wr.grownBy W u.ownBlock) (t1 : e ≠ 113) (t2 : e ≠ 114) (t3 : e ≠ 4) (t4 : 3 ≠ e) : OrdIn w W p N1 N2 n v ns M1 M2 := by
  obtain ⟨c, hc⟩ := rowIs_block h.row
  obtain ⟨c1, hc1⟩ := rowIs_block h.m1.top
  obtain ⟨c2, hc2⟩ := rowIs_block h.m2.top
  refine ⟨below_of_grown h.below hg (fun b hb' => Nat.le_trans hb (Kd.R_base hu b hb')), h.l0, h.l1, h.l2, h.row.of_block (hg.block p h.row.lt (Kd.R_ne hu hc t1)), ⟨h.m1.top.of_block (hg.block N1 h.m1.top.lt (Kd.R_ne hu hc1 t2)), fun j hj => ?_⟩, ⟨h.m2.top.of_block (hg.block N2 h.m2.top.lt (Kd.R_ne hu hc2 t2)), fun j hj => ?_⟩, Kd.R_grown2 h.ns rfl hg (rows_ne hu h.ns t4)⟩
  · obtain ⟨c3, hc3⟩ := rowIs_block (h.m1.row j hj)
    exact (h.m1.row j hj).of_block (hg.block _ (h.m1.row j hj).lt (Kd.R_ne hu hc3 t3))
  · obtain ⟨c3, hc3⟩ := rowIs_block (h.m2.row j hj)
    exact (h.m2.row j hj).of_block (hg.block _ (h.m2.row j hj).lt (Kd.R_ne hu hc3 t3))
def redRels (cs : List S108) (rs : List S100) (M1 M2 : Nat → Nat → Bool) (b : Bool) : List S100 := rs.filter fun x => redB cs.length M1 M2 (find cs x.f0).toNat (find cs x.f1).toNat == b
theorem redRels_snoc (cs : List S108) (rs : List S100) (M1 M2 : Nat → Nat → Bool) (b : Bool) (i : Nat) (hi : i < rs.length) : redRels cs (rs.take (i + 1)) M1 M2 b = if (redB cs.length M1 M2 (find cs (rs.getD i z100).f0).toNat (find cs (rs.getD i z100).f1).toNat == b) = true then redRels cs (rs.take i) M1 M2 b ++ [rs.getD i z100] else redRels cs (rs.take i) M1 M2 b := by
  unfold redRels
  rw [take_snocR rs i hi]
  generalize rs.getD i z100 = y
  rw [List.filter_append, List.filter_cons, List.filter_nil]
  cases h : (redB cs.length M1 M2 (find cs y.f0).toNat (find cs y.f1).toNat == b) <;> simp
theorem redRels_le (cs : List S108) (rs : List S100) (M1 M2 : Nat → Nat → Bool) (b : Bool) (i : Nat) : (redRels cs (rs.take i) M1 M2 b).length ≤ rs.length :=
  Nat.le_trans (List.length_filter_le _ _) (by rw [List.length_take]; omega)
def impl_redundantRelations.T5 : Bool × List (List Nat × List Nat) := (true, [([], []), ([], []), ([], []), ([2], [2]), ([1, 3], [1, 3]), ([], []), ([], []), ([6], [6]), ([5, 7, 4], [5, 7]), ([0, 4, 8, 8], [0, 4, 8]), ([], []), ([9, 10], [9, 10])])
def impl_redundantRelations.B5 : List Nat := [0, 0, 0, 4, 14, 0, 0, 64, 254, 511, 0, 2047]
theorem impl_redundantRelations.tab5 : rtab .any (opsOf Try.f98 5) = impl_redundantRelations.T5 := by kernel_rfl
theorem impl_redundantRelations.bits5 : waitsOk impl_redundantRelations.T5.2 impl_redundantRelations.B5 = true := by kernel_rfl
set_option maxHeartbeats 8000000 in
set_option maxRecDepth 100000 in
theorem impl_redundantRelations.calls (A0_0 : Option Addr) (c0_0 : Nat) (l0_0 : List S108) (A0_1 : Option Addr) (c0_1 : Nat) (l0_1 : List S100) (w0 : World) (p N1 N2 : Nat) (A : Option Addr) (c : Nat) (ns : List Int) (M1 M2 : Nat → Nat → Bool) (is : Bool) (w : World) (hr0_0 : Kd.C k108 w A0_0 l0_0.length l0_0) (hc0_0 : l0_0.length ≤ c0_0) (hr0_1 : Kd.C k100 w A0_1 l0_1.length l0_1) (hc0_1 : l0_1.length ≤ c0_1) (H : OrdIn w0 w p N1 N2 l0_0.length (.slice A l0_0.length c) ns M1 M2) (hn : l0_0.length ≤ 10) (hm : l0_1.length ≤ 24) (hin : relsIn l0_0 l0_1) :
    Calls Try.prog 98 #[.agg #[.slice A0_0 l0_0.length c0_0, .slice A0_1 l0_1.length c0_1], .pointer (some ⟨p, 0, none⟩), .bool is] w fun e w' => ∃ v : Value, e = .returned v ∧ Kd.R k100 100 w' w.heap.size (fun _ => True) v (redRels l0_0 l0_1 M1 M2 is) ∧ Below w.heap.size w w' := by
  have HG := Aside0.mk (And.intro hn (And.intro hm hin))
  clear hn hm hin
  have HR0 := Aside0.mk hr0_0
  have HR1 := Aside0.mk hr0_1
  have HC0 := Aside0.mk hc0_0
  have HC1 := Aside0.mk hc0_1
  clear hr0_0 hr0_1 hc0_0 hc0_1
  obtain ⟨wb, hwb⟩ : ∃ wb, (w).alloc (.cells #[.slice A0_0 l0_0.length c0_0, .slice A0_1 l0_1.length c0_1] 33 (0, 0)) = wb := ⟨_, rfl⟩
  have HBw := Aside0.mk (show Below w.heap.size w wb from by rw [← hwb]; repeat (first | exact Below.refl _ _ | apply below_alloc))
  have HWB := HBw
  have hhr : wb.heap[w.heap.size]? = some (.cells #[.slice A0_0 l0_0.length c0_0, .slice A0_1 l0_1.length c0_1] 33 (0, 0)) := by rw [← hwb]; have h := blk_new (w) (.cells #[.slice A0_0 l0_0.length c0_0, .slice A0_1 l0_1.length c0_1] 33 (0, 0)); rw [show (w).heap.size = w.heap.size from by rfl] at h; exact h
  have hb0 : wb.cell? ⟨w.heap.size, 0, none⟩ = some (.slice A0_0 l0_0.length c0_0) := (blk_cell hhr 0).trans rfl
  have hb1 : wb.cell? ⟨w.heap.size, 1, none⟩ = some (.slice A0_1 l0_1.length c0_1) := (blk_cell hhr 1).trans rfl
  have hbs : w.heap.size < wb.heap.size := blk_lt hhr
  have HW := Aside0.mk hwb
  clear hwb
  have HWS := Aside0.mk H.below.size
  have HO := Aside0.mk (H.step HBw.out)
  clear H
  go_enter Try.func98, Try.ntmps98
  go_upto_region 1 with (fail)
  try rw [HW.out]
  clear HW
  go_upto_region 2 with ((with_reducible refine gate_dst (N := 10) rfl ?_); refine Kd.R_lit k100 _ 100 ?hg (N := 10) ?hd (xs := ([] : List S100)) (inner := []) (ok := fun _ => True) (okp := fun _ => True) ?hr ?hp (fun _ hk => hk) trivial (Below.refl _ _) (Nat.le_refl _) (by simp) ?_; (case hd => rfl); (case hg => rfl); (case hr => first | (go_simp; done) | (go_simp; rfl)); (case hp => exact (Reps.none _ _)); intro v0 w1 ho hb hg_ hnew_; clear hg_ hnew_; have HR := Aside0.mk (Kd.R_lower ho HBw.out.size); have HO := Aside0.mk (HO.out.step hb); have HBw : Aside0 (Below w.heap.size w w1) := Aside0.mk (below_chain (w := w) (by repeat (first | exact HBw.out | exact Below.refl _ _ | apply below_alloc | apply pw_below_drewN | apply below_drew1)) hb); have hb0 := pw_cell_below hb hb0; have hb1 := pw_cell_below hb hb1; have HZ := Aside0.mk (blk_below hhr hb); clear ho hb hhr)
  go_wp2
  go_loopg [7, 9, 14] l0_1.length (fun gg s7 _ s14 wr => ∃ i : Nat, i ≤ l0_1.length ∧ l0_1.length - i ≤ gg ∧ s14 = .int .i64 i ∧ Aside0 (Below w.heap.size w wr) ∧ Aside0 (wr.heap[w.heap.size]? = some (.cells #[.slice A0_0 l0_0.length c0_0, .slice A0_1 l0_1.length c0_1] 33 (0, 0))) ∧ Aside0 (OrdIn w0 wr p N1 N2 l0_0.length (.slice A l0_0.length c) ns M1 M2) ∧ Aside0 (Kd.R k100 100 wr w.heap.size (fun _ => True) s7 (redRels l0_0 (l0_1.take i) M1 M2 is)))
  case atStart => exact ⟨0, Nat.zero_le _, by omega, rfl, HBw, HZ, HO, HR⟩
  case round =>
    clear HR HO hb0 hb1 HBw HZ
    obtain ⟨i, hi, hgg, rfl, HB, HZ, HO, HR⟩ := hrel
    by_cases hlt : i < l0_1.length
    · have hltz : (i : Int) < (l0_1.length : Int) := by omega
      obtain ⟨ad, e1, hx0, hx1⟩ := at_T100 HR1.out (i : Int) (by omega) hltz
      cases e1
      have e6 : rd_T100 l0_1 (i : Int) = l0_1.getD i z100 := by simp [rd_T100]
      rw [e6] at hx0 hx1
      simp only [Int.toNat_natCast] at hx0 hx1
      replace hx0 := (HB.out.cell (World.block_lt_of_cell? w _ hx0)).trans hx0
      replace hx1 := (HB.out.cell (World.block_lt_of_cell? w _ hx1)).trans hx1
      obtain ⟨y, hy⟩ : ∃ y, l0_1.getD i z100 = y := ⟨_, rfl⟩
      have HS := redRels_snoc l0_0 l0_1 M1 M2 is i hlt
      rw [hy] at hx0 hx1 HS
      have hmem : y ∈ l0_1 := by rw [← hy, List.getD_eq_getElem?_getD, List.getElem?_eq_getElem hlt]; exact List.getElem_mem hlt
      obtain ⟨ia, hia, hal⟩ := find_nat l0_0 y.f0 (HG.out.2.2 y hmem).1
      obtain ⟨ik, hik, hkl⟩ := find_nat l0_0 y.f1 (HG.out.2.2 y hmem).2
      have A1 := Aside0.mk (show impl_indexOf.f l0_0 l0_1 y.f0 = some (ia : Int) from congrArg some hia)
      have A2 := Aside0.mk (show impl_indexOf.f l0_0 l0_1 y.f1 = some (ik : Int) from congrArg some hik)
      rw [hia, hik, Int.toNat_natCast, Int.toNat_natCast] at HS
      obtain ⟨rb, hrb⟩ : ∃ b, redB l0_0.length M1 M2 ia ik = b := ⟨_, rfl⟩
      rw [hrb] at HS
      have HRB := Aside0.mk hrb
      have HSA := Aside0.mk HS
      clear hy e6 hmem hia hik hrb HS
      go_upto_region 5 with (fail)
      have hal1 := below_alloc (Below.refl wr.heap.size wr) (.cells #[.int .i64 y.f0, .int .i64 y.f1] 100 (0, 0))
      have BK3 := Aside0.mk (heap_alloc_new wr (.cells #[.int .i64 y.f0, .int .i64 y.f1] 100 (0, 0)))
      have HB := Aside0.mk (below_chain (w := w) HB.out hal1)
      have HO := Aside0.mk (HO.out.step hal1)
      have HR := Aside0.mk (Kd.R_below HR.out hal1)
      have HZ := Aside0.mk (blk_below HZ.out hal1)
      clear hx0 hx1 hal1
      generalize wr.alloc (.cells #[.int .i64 y.f0, .int .i64 y.f1] 100 (0, 0)) = wq2 at HB HO HR BK3 HZ ⊢
      generalize wr.heap.size = gy at BK3 ⊢
      have HS0 := Aside0.mk (show (fun w' : World => w'.cell? ⟨w.heap.size, 0, none⟩ = some (.slice A0_0 l0_0.length c0_0) ∧ w'.cell? ⟨w.heap.size, 1, none⟩ = some (.slice (some ad) l0_1.length c0_1) ∧ w'.cell? ⟨gy, 0, none⟩ = some (.int .i64 y.f0) ∧ w'.cell? ⟨gy, 1, none⟩ = some (.int .i64 y.f1) ∧ Aside0 (Below w.heap.size w w') ∧ Aside0 (OrdIn w0 w' p N1 N2 l0_0.length (.slice A l0_0.length c) ns M1 M2) ∧ Aside0 (Kd.R k100 100 w' w.heap.size (fun _ => True) u7 (redRels l0_0 (l0_1.take i) M1 M2 is)) ∧ Aside0 (w'.heap[w.heap.size]? = some (.cells #[.slice A0_0 l0_0.length c0_0, .slice (some ad) l0_1.length c0_1] 33 (0, 0)))) wq2.drew from ⟨(blk_cell (blk_drew HZ.out) 0).trans rfl, (blk_cell (blk_drew HZ.out) 1).trans rfl, (blk_cell (blk_drew BK3.out) 0).trans rfl, (blk_cell (blk_drew BK3.out) 1).trans rfl, ⟨below_drew1 HB.out⟩, ⟨HO.out.drew⟩, ⟨Kd.R_drew HR.out⟩, ⟨blk_drew HZ.out⟩⟩)
      clear HB HO HR BK3 HZ
      all_goals refine start_ (n := 12) (S := (fun w' => w'.cell? ⟨w.heap.size, 0, none⟩ = some (.slice A0_0 l0_0.length c0_0) ∧ w'.cell? ⟨w.heap.size, 1, none⟩ = some (.slice (some ad) l0_1.length c0_1) ∧ w'.cell? ⟨gy, 0, none⟩ = some (.int .i64 y.f0) ∧ w'.cell? ⟨gy, 1, none⟩ = some (.int .i64 y.f1) ∧ Aside0 (Below w.heap.size w w') ∧ Aside0 (OrdIn w0 w' p N1 N2 l0_0.length (.slice A l0_0.length c) ns M1 M2) ∧ Aside0 (Kd.R k100 100 w' w.heap.size (fun _ => True) u7 (redRels l0_0 (l0_1.take i) M1 M2 is)) ∧ Aside0 (w'.heap[w.heap.size]? = some (.cells #[.slice A0_0 l0_0.length c0_0, .slice (some ad) l0_1.length c0_1] 33 (0, 0))))) (ds := []) (bl 0 12) (by kernel_rfl) rfl rfl HS0.out (fun hHeld => ?_); refine with_tabW impl_redundantRelations.tab5 impl_redundantRelations.bits5 (fun HT_ HW_ => ?_)
      all_goals generalize wq2.drew = wv at hHeld ⊢
      all_goals first | refine pA_ 0 (some 18) (bl 1 12) HT_.out (h := ?_) | refine pO_ 0 (some 18) (bl 1 12) HT_.out (h := ?_)
      all_goals first | refine pA_ 2 (some 20) (bx 1 [2] 12) HT_.out (h := ?_) | refine pO_ 2 (some 20) (bx 1 [2] 12) HT_.out (h := ?_)
      all_goals first | refine pA_ 6 (some 24) (bx 1 [2, 6] 12) HT_.out (h := ?_) | refine pO_ 6 (some 24) (bx 1 [2, 6] 12) HT_.out (h := ?_)
      all_goals first | refine pA_ 10 (some 28) (bx 1 [2, 6, 10] 12) HT_.out (h := ?_) | refine pO_ 10 (some 28) (bx 1 [2, 6, 10] 12) HT_.out (h := ?_)
      all_goals first | refine tA_ 1 (some 19) (bx 3 [6, 10] 12) HT_.out HW_.out hHeld (h := ?_) | refine pO_ 1 (some 19) (bx 3 [6, 10] 12) HT_.out (h := ?_)
      all_goals first | refine tA_ 3 (some 21) (bx 4 [6, 10] 12) HT_.out HW_.out hHeld (h := ?_) | refine pO_ 3 (some 21) (bx 4 [6, 10] 12) HT_.out (h := ?_)
      all_goals first | refine tA_ 5 (some 23) (bx 4 [5, 6, 10] 12) HT_.out HW_.out hHeld (h := ?_) | refine pO_ 5 (some 23) (bx 4 [5, 6, 10] 12) HT_.out (h := ?_)
      all_goals first | refine tA_ 7 (some 25) (bx 4 [5, 6, 7, 10] 12) HT_.out HW_.out hHeld (h := ?_) | refine pO_ 7 (some 25) (bx 4 [5, 6, 7, 10] 12) HT_.out (h := ?_)
      all_goals first | refine pO_ 4 (some 22) (bx 8 [10] 12) HT_.out (h := ?_) | (refine one_ (i := 4) (N := some 22) (bx 8 [10] 12) rfl rfl (one_of HT_.out (by kernel_rfl)) (by decide) (fun K hK => ?_); refine goes_ Try.func100 (by kernel_rfl) rfl #[.agg #[.slice A0_0 l0_0.length c0_0, .slice (some ad) l0_1.length c0_1], .int .i64 y.f0] (by rfl) rfl rfl (by (try simp only [List.map_toArray, List.map_cons, List.map_nil]); first | done | rfl) ?_; with_reducible refine (impl_indexOf.calls _ _ l0_0 _ _ l0_1 y.f0 _ _ (Kd.C_below HR0.out hHeld.2.2.2.2.1.out) HC0.out (Kd.C_below HR1.out hHeld.2.2.2.2.1.out) HC1.out A1.out).mono ?_; rintro e w1 ⟨rfl, hb⟩; refine ⟨_, rfl, ?_⟩; refine hK.out _ _ ⟨pw_cell_below hb hHeld.1, pw_cell_below hb hHeld.2.1, pw_cell_below hb hHeld.2.2.1, pw_cell_below hb hHeld.2.2.2.1, ⟨below_chain hHeld.2.2.2.2.1.out hb⟩, ⟨hHeld.2.2.2.2.2.1.out.step hb⟩, ⟨Kd.R_below hHeld.2.2.2.2.2.2.1.out hb⟩, ⟨blk_below hHeld.2.2.2.2.2.2.2.out hb⟩⟩ (fun hHeld => ?_); clear hK K; refine norm_ (a' := ?_) ?_ ?_; rotate_left; (show Act.put _ (some 22) _ = _; simp only [Act.put, List.setIfInBounds_toArray, List.set_cons_zero, List.set_cons_succ, i64_w, i32_w]; rfl))
      all_goals first | refine pO_ 8 (some 26) (bx 9 [10] 12) HT_.out (h := ?_) | (refine one_ (i := 8) (N := some 26) (bx 9 [10] 12) rfl rfl (one_of HT_.out (by kernel_rfl)) (by decide) (fun K hK => ?_); refine goes_ Try.func100 (by kernel_rfl) rfl #[.agg #[.slice A0_0 l0_0.length c0_0, .slice (some ad) l0_1.length c0_1], .int .i64 y.f1] (by rfl) rfl rfl (by (try simp only [List.map_toArray, List.map_cons, List.map_nil]); first | done | rfl) ?_; with_reducible refine (impl_indexOf.calls _ _ l0_0 _ _ l0_1 y.f1 _ _ (Kd.C_below HR0.out hHeld.2.2.2.2.1.out) HC0.out (Kd.C_below HR1.out hHeld.2.2.2.2.1.out) HC1.out A2.out).mono ?_; rintro e w2 ⟨rfl, hb⟩; refine ⟨_, rfl, ?_⟩; refine hK.out _ _ ⟨pw_cell_below hb hHeld.1, pw_cell_below hb hHeld.2.1, pw_cell_below hb hHeld.2.2.1, pw_cell_below hb hHeld.2.2.2.1, ⟨below_chain hHeld.2.2.2.2.1.out hb⟩, ⟨hHeld.2.2.2.2.2.1.out.step hb⟩, ⟨Kd.R_below hHeld.2.2.2.2.2.2.1.out hb⟩, ⟨blk_below hHeld.2.2.2.2.2.2.2.out hb⟩⟩ (fun hHeld => ?_); clear hK K; refine norm_ (a' := ?_) ?_ ?_; rotate_left; (show Act.put _ (some 26) _ = _; simp only [Act.put, List.setIfInBounds_toArray, List.set_cons_zero, List.set_cons_succ, i64_w, i32_w]; rfl))
      all_goals first | refine pO_ 9 (some 27) (bl 11 12) HT_.out (h := ?_) | (refine one_ (i := 9) (N := some 27) (bl 11 12) rfl rfl (one_of HT_.out (by kernel_rfl)) (by decide) (fun K hK => ?_); refine goes_ Try.func125 (by kernel_rfl) rfl #[.pointer (some ⟨p, 0, none⟩), .int .i64 ia, .int .i64 ik] (by rfl) rfl rfl (by (try simp only [List.map_toArray, List.map_cons, List.map_nil]); first | done | rfl) ?_; with_reducible refine (impl_order_redundant.calls w0 p N1 N2 l0_0.length A c ns M1 M2 ia ik _ hHeld.2.2.2.2.2.1.out (by have := HG.out.1; omega) hal hkl).mono ?_; rintro e w3 ⟨rfl, hb⟩; rw [HRB.out]; refine ⟨_, rfl, ?_⟩; refine hK.out _ _ ⟨pw_cell_below hb hHeld.1, pw_cell_below hb hHeld.2.1, pw_cell_below hb hHeld.2.2.1, pw_cell_below hb hHeld.2.2.2.1, ⟨below_chain hHeld.2.2.2.2.1.out hb⟩, ⟨hHeld.2.2.2.2.2.1.out.step hb⟩, ⟨Kd.R_below hHeld.2.2.2.2.2.2.1.out hb⟩, ⟨blk_below hHeld.2.2.2.2.2.2.2.out hb⟩⟩ (fun hHeld => ?_); clear hK K; refine norm_ (a' := ?_) ?_ ?_; rotate_left; (show Act.put _ (some 27) _ = _; simp only [Act.put, List.setIfInBounds_toArray, List.set_cons_zero, List.set_cons_succ, i64_w, i32_w]; rfl))
      all_goals first | refine pA_ 11 (some 29) (bl 12 12) HT_.out (h := ?_) | refine pO_ 11 (some 29) (bl 12 12) HT_.out (h := ?_)
      all_goals refine done_ (done_of HT_.out (by kernel_rfl)) ?_
      generalize w3 = wz at hHeld ⊢
      obtain ⟨k0, k1, z0, z1, HB, HO, HR, HZ⟩ := hHeld
      cases hrq : (rb == is) with
      | true =>
        have HSB := Aside0.mk (show redRels l0_0 (l0_1.take (i + 1)) M1 M2 is = redRels l0_0 (l0_1.take i) M1 M2 is ++ [y] from by rw [HSA.out, if_pos hrq])
        have hle := redRels_le l0_0 l0_1 M1 M2 is i
        have hdec : decide (rb = is) = true := by simpa using hrq
        go_wp2_with ((with_reducible refine gate_builtin (b := .append) (xs := #[.tmp 30, .tmp 32]) rfl ?_); at_builtin; refine Kd.R_append k100 (w0 := w) w.heap.size rfl (.tmp 30) (.tmp 32) 31 100 (.agg #[(.int .i64 0), (.int .i64 0)]) 16 rfl Try.underlying31 info100 rfl (by decide) (by omega) u7 (redRels l0_0 (l0_1.take i) M1 M2 is) y [.int .i64 y.f0, .int .i64 y.f1] (fun _ => True) (fun _ => False) rfl rfl (k100_mkM _ _ _ y) (fun _ hk => hk.elim) (fun _ _ => trivial) ?aO ?aB ?aS ?aL ?_; (case aO => exact (by (with_reducible repeat (first | apply Kd.R_alloc | apply Kd.R_drewN | apply Kd.R_drew)); exact HR.out)); (case aB => exact (by repeat (first | exact HB.out | apply below_alloc | apply pw_below_drewN | apply below_drew1))); (case aS => exact below_size (by repeat (first | exact HB.out | apply below_alloc | apply pw_below_drewN | apply below_drew1))); (case aL => have := HG.out.2.1; omega); intro v1 w4 ho hb hg hat; have HB4 := Aside0.mk hb; have HR4 := Aside0.mk (show Kd.R k100 100 w4 w.heap.size (fun _ => True) v1 (redRels l0_0 (l0_1.take (i + 1)) M1 M2 is) from by rw [HSB.out]; exact ho); have HO4 := Aside0.mk (OrdIn.other HO.out HR.out HWS.out hg (by decide) (by decide) (by decide) (by decide)); have HZ4 := Aside0.mk (blk_grown HZ.out hg (Kd.R_ne HR.out HZ.out (by decide))); clear ho hb hg hat k0 k1 z0 z1)
        go_roundg (l0_1.length - (i + 1))
        case measure => omega
        case rel => exact ⟨i + 1, by omega, by omega, congrArg (Value.int .i64) (wrap_succ i (by have := HG.out.2.1; omega)), HB4, HZ4, HO4, HR4⟩
      | false =>
        have HR4 := Aside0.mk (show Kd.R k100 100 wz w.heap.size (fun _ => True) u7 (redRels l0_0 (l0_1.take (i + 1)) M1 M2 is) from by rw [HSA.out, if_neg (by rw [hrq]; simp)]; exact HR.out)
        have hdec : decide (rb = is) = false := by simpa using hrq
        go_wp2
        go_roundg (l0_1.length - (i + 1))
        case measure => omega
        case rel => exact ⟨i + 1, by omega, by omega, congrArg (Value.int .i64) (wrap_succ i (by have := HG.out.2.1; omega)), HB, HZ, HO, HR4⟩
    · obtain rfl : i = l0_1.length := by omega
      have hltz : ¬ ((l0_1.length : Int) < (l0_1.length : Int)) := by omega
      rw [List.take_length] at HR
      go_wp2
      go_ret
      exact ⟨_, rfl, HR.out, HB.out⟩

end Go.Proofs.Ytlbkoejpjpcgaaa.Q
