-- Written by a program of this session (wip/xprint.py over the kit's printer).
import Derived.Test.YtlbkoejpjpcgaaaQ0
import Derived.Test.YtlbkoejpjpcgaaaQF100
import Derived.Test.YtlbkoejpjpcgaaaQF124
import Derived.Test.YtlbkoejpjpcgaaaQF85
import Derived.Test.YtlbkoejpjpcgaaaQF90
import Derived.Test.YtlbkoejpjpcgaaaQF95
import Derived.Test.YtlbkoejpjpcgaaaQF97
import Derived.Test.YtlbkoejpjpcgaaaQF98
import Derived.Test.YtlbkoejpjpcgaaaQP
namespace Go.Proofs.Ytlbkoejpjpcgaaa.Q
open Go.RowKit Go.Proofs.YtlbkoejpjpcgaaaW.PrintWords Go.Proofs.YtlbkoejpjpcgaaaW.PrintLast
set_option linter.unusedVariables false
set_option linter.unusedSimpArgs false

/-! ### impl_links: function 54 -/
def deepB (cs : List S108) (ds : List Int) (x : S100) : Bool := ds.getD (find cs x.f1).toNat 0 == ds.getD (find cs x.f0).toNat 0 + 1
def linkRels (cs : List S108) (rs : List S100) (M1 M2 : Nat → Nat → Bool) : List S100 := (redRels cs rs M1 M2 false).filter fun x => deepB cs (dAll M1 cs.length cs.length) x
def impl_links.T1 : Bool × List (List Nat × List Nat) := (true, [([], []), ([], []), ([], []), ([2], [2]), ([1, 3], [1, 3]), ([0, 4], [0, 4]), ([5], [5]), ([], []), ([], []), ([], []), ([9], [9]), ([8, 10, 4], [8, 10]), ([7, 11], [7, 11]), ([12], [12]), ([13], [13]), ([6, 14], [6, 14]), ([15, 11, 0, 1, 2, 3, 4, 5, 6, 7, 8, 9, 10, 11, 12, 13, 14, 15], [15])])
def impl_links.B1 : List Nat := [0, 0, 0, 4, 14, 31, 63, 0, 0, 0, 512, 1822, 3998, 8094, 16286, 32767, 65535]
theorem impl_links.tab1 : rtab .any (opsOf Try.f99 1) = impl_links.T1 := by kernel_rfl
theorem impl_links.bits1 : waitsOk impl_links.T1.2 impl_links.B1 = true := by kernel_rfl
set_option maxHeartbeats 8000000 in
set_option maxRecDepth 100000 in
theorem impl_links.pred (ws : World) (A0_0 : Option Addr) (c0_0 : Nat) (l0_0 : List S108) (A0_1 : Option Addr) (c0_1 : Nat) (l0_1 : List S100) (hr0_0 : Kd.C k108 ws A0_0 l0_0.length l0_0) (hc0_0 : l0_0.length ≤ c0_0) (hr0_1 : Kd.C k100 ws A0_1 l0_1.length l0_1) (hc0_1 : l0_1.length ≤ c0_1) (rl : List S100) (hin : relsIn l0_0 rl) (ds : List Int) (vd : Value) (based : Nat) (okd : Nat → Prop) (hdl : ds.length = l0_0.length) (hup : upB 2000 ds) (bd br base : Nat) (ok : Nat → Prop) (v : Value) (w : World) (hbw : Below ws.heap.size ws w) (hws : ws.heap.size ≤ base) (HR : Kd.R k100 100 w base ok v rl) (HD : Kd.R (Kd.int .i64) 3 w based okd vd ds) (bvd : w.heap[bd]? = some (.cells #[vd] 54 (0, 0))) (bvr : w.heap[br]? = some (.cells #[.slice A0_0 l0_0.length c0_0, .slice A0_1 l0_1.length c0_1] 33 (0, 0))) :
    PredVon Try.prog 99 #[.pointer (some ⟨bd, 0, none⟩), .pointer (some ⟨br, 0, none⟩)] enc100 (fun x => !(deepB l0_0 ds x)) v w rl := by
  intro W x hx hB
  obtain ⟨a, ha, hal⟩ := find_nat l0_0 x.f1 (hin x hx).2
  obtain ⟨b, hb, hbl⟩ := find_nat l0_0 x.f0 (hin x hx).1
  have A1 := Aside0.mk (show impl_indexOf.f l0_0 l0_1 x.f1 = some (a : Int) from congrArg some ha)
  have A2 := Aside0.mk (show impl_indexOf.f l0_0 l0_1 x.f0 = some (b : Int) from congrArg some hb)
  obtain ⟨gd, dd, rfl, hq1, hq2, hq3, hq4⟩ := R_form HD (by omega)
  rw [hdl] at HD bvd
  clear hq1 hq2 hq3 hq4
  have HVD := blk_grown bvd hB (Kd.R_ne HR bvd (by decide))
  have HVR := blk_grown bvr hB (Kd.R_ne HR bvr (by decide))
  have HD2 := Kd.R_grown2 HD rfl hB (rows_ne HR HD (by decide))
  have HWW := Aside0.mk (below_of_grown hbw hB (fun k hk => Nat.le_trans hws (Kd.R_base HR k hk)))
  have HR0 := Aside0.mk hr0_0
  have HR1 := Aside0.mk hr0_1
  have HC0 := Aside0.mk hc0_0
  have HC1 := Aside0.mk hc0_1
  have haz : (a : Int) < (l0_0.length : Int) := by omega
  have hbz : (b : Int) < (l0_0.length : Int) := by omega
  obtain ⟨da, hda⟩ : ∃ z, ds.getD a 0 = z := ⟨_, rfl⟩
  obtain ⟨db, hdb⟩ : ∃ z, ds.getD b 0 = z := ⟨_, rfl⟩
  have hwr : wrap64 (db + 1) = db + 1 := by have := hup b; rw [hdb] at this; unfold wrap64; omega
  rw [show (fun x : S100 => !(deepB l0_0 ds x)) x = !(da == db + 1) from by show (!(ds.getD (find l0_0 x.f1).toNat 0 == ds.getD (find l0_0 x.f0).toNat 0 + 1)) = _; rw [ha, hb, Int.toNat_natCast, Int.toNat_natCast, hda, hdb]]
  obtain ⟨eb, heb⟩ : ∃ e, (da == db + 1) = e := ⟨_, rfl⟩
  rw [heb]
  have HNE := Aside0.mk (show (da != db + 1) = !eb from by rw [← heb]; rfl)
  clear heb
  unfold enc100
  have hal1 := below_alloc (Below.refl W.heap.size W) (.cells #[.int .i64 x.f0, .int .i64 x.f1] 100 (0, 0))
  have HD3 := Kd.R_below HD2 hal1
  have q1 := (Kd.R_celln 0 HD3 (a : Int) (by omega) (by omega)).1
  have q2 := (Kd.R_celln 0 HD3 (b : Int) (by omega) (by omega)).1
  rw [Int.toNat_natCast, show rdOf 0 ds (a : Int) = da from by rw [← hda]; simp [rdOf]] at q1
  rw [Int.toNat_natCast, show rdOf 0 ds (b : Int) = db from by rw [← hdb]; simp [rdOf]] at q2
  have BX := heap_alloc_new W (.cells #[.int .i64 x.f0, .int .i64 x.f1] 100 (0, 0))
  have HS1 := Aside0.mk (show (fun w' : World => w'.cell? ⟨bd, 0, none⟩ = some (.slice (some ⟨gd, 0, none⟩) l0_0.length dd) ∧ w'.cell? ⟨br, 0, none⟩ = some (.slice A0_0 l0_0.length c0_0) ∧ w'.cell? ⟨br, 1, none⟩ = some (.slice A0_1 l0_1.length c0_1) ∧ w'.cell? ⟨W.heap.size, 0, none⟩ = some (.int .i64 x.f0) ∧ w'.cell? ⟨W.heap.size, 1, none⟩ = some (.int .i64 x.f1) ∧ w'.cell? ⟨gd, a, none⟩ = some (.int .i64 da) ∧ w'.cell? ⟨gd, b, none⟩ = some (.int .i64 db) ∧ Aside0 (Below ws.heap.size ws w') ∧ Aside0 (Below W.heap.size W w')) (W.alloc (.cells #[.int .i64 x.f0, .int .i64 x.f1] 100 (0, 0))).drew from ⟨(blk_cell (blk_alloc HVD _) 0).trans rfl, (blk_cell (blk_alloc HVR _) 0).trans rfl, (blk_cell (blk_alloc HVR _) 1).trans rfl, (blk_cell BX 0).trans rfl, (blk_cell BX 1).trans rfl, q1, q2, ⟨below_drew1 (below_chain HWW.out hal1)⟩, ⟨below_drew1 hal1⟩⟩)
  clear hr0_0 hr0_1 hc0_0 hc0_1 hin HR bvd bvr hbw hws hB HVD HVR HD HD2 HD3 BX hal1 HWW ha hb hx q1 q2 hda hdb hup hdl
  have HWR := Aside0.mk hwr
  clear hwr
  go_enter Try.func99, Try.ntmps99
  go_upto_region 1 with (fail)
  generalize W.alloc (.cells #[.int .i64 x.f0, .int .i64 x.f1] 100 (0, 0)) = wq2 at HS1 ⊢
  have hwr := HWR.out
  have hne := HNE.out
  all_goals refine start_ (n := 17) (S := (fun w' => w'.cell? ⟨bd, 0, none⟩ = some (.slice (some ⟨gd, 0, none⟩) l0_0.length dd) ∧ w'.cell? ⟨br, 0, none⟩ = some (.slice A0_0 l0_0.length c0_0) ∧ w'.cell? ⟨br, 1, none⟩ = some (.slice A0_1 l0_1.length c0_1) ∧ w'.cell? ⟨W.heap.size, 0, none⟩ = some (.int .i64 x.f0) ∧ w'.cell? ⟨W.heap.size, 1, none⟩ = some (.int .i64 x.f1) ∧ w'.cell? ⟨gd, a, none⟩ = some (.int .i64 da) ∧ w'.cell? ⟨gd, b, none⟩ = some (.int .i64 db) ∧ Aside0 (Below ws.heap.size ws w') ∧ Aside0 (Below W.heap.size W w'))) (ds := []) (bl 0 17) (by kernel_rfl) rfl rfl HS1.out (fun hHeld => ?_); refine with_tabW impl_links.tab1 impl_links.bits1 (fun HT_ HW_ => ?_)
  all_goals generalize wq2.drew = wv at hHeld ⊢
  all_goals first | refine pA_ 2 (some 7) (bx 0 [2] 17) HT_.out (h := ?_) | refine pO_ 2 (some 7) (bx 0 [2] 17) HT_.out (h := ?_)
  all_goals first | refine pA_ 9 (some 14) (bx 0 [2, 9] 17) HT_.out (h := ?_) | refine pO_ 9 (some 14) (bx 0 [2, 9] 17) HT_.out (h := ?_)
  all_goals first | refine tA_ 0 (some 5) (bx 1 [2, 9] 17) HT_.out HW_.out hHeld (h := ?_) | refine pO_ 0 (some 5) (bx 1 [2, 9] 17) HT_.out (h := ?_)
  all_goals first | refine tA_ 1 (some 6) (bx 3 [9] 17) HT_.out HW_.out hHeld (h := ?_) | refine pO_ 1 (some 6) (bx 3 [9] 17) HT_.out (h := ?_)
  all_goals first | refine tA_ 3 (some 8) (bx 4 [9] 17) HT_.out HW_.out hHeld (h := ?_) | refine pO_ 3 (some 8) (bx 4 [9] 17) HT_.out (h := ?_)
  all_goals first | refine tA_ 7 (some 12) (bx 4 [7, 9] 17) HT_.out HW_.out hHeld (h := ?_) | refine pO_ 7 (some 12) (bx 4 [7, 9] 17) HT_.out (h := ?_)
  all_goals first | refine tA_ 8 (some 13) (bx 4 [7, 8, 9] 17) HT_.out HW_.out hHeld (h := ?_) | refine pO_ 8 (some 13) (bx 4 [7, 8, 9] 17) HT_.out (h := ?_)
  all_goals first | refine tA_ 10 (some 15) (bx 4 [7, 8, 9, 10] 17) HT_.out HW_.out hHeld (h := ?_) | refine pO_ 10 (some 15) (bx 4 [7, 8, 9, 10] 17) HT_.out (h := ?_)
  all_goals first | refine pO_ 4 (some 9) (bx 5 [7, 8, 9, 10] 17) HT_.out (h := ?_) | (refine one_ (i := 4) (N := some 9) (bx 5 [7, 8, 9, 10] 17) rfl rfl (one_of HT_.out (by kernel_rfl)) (by decide) (fun K hK => ?_); refine goes_ Try.func100 (by kernel_rfl) rfl #[.agg #[.slice A0_0 l0_0.length c0_0, .slice A0_1 l0_1.length c0_1], .int .i64 x.f1] (by rfl) rfl rfl (by (try simp only [List.map_toArray, List.map_cons, List.map_nil]); first | done | rfl) ?_; with_reducible refine (impl_indexOf.calls _ _ l0_0 _ _ l0_1 x.f1 _ _ (Kd.C_below HR0.out hHeld.2.2.2.2.2.2.2.1.out) HC0.out (Kd.C_below HR1.out hHeld.2.2.2.2.2.2.2.1.out) HC1.out A1.out).mono ?_; rintro e w1 ⟨rfl, hb⟩; refine ⟨_, rfl, ?_⟩; refine hK.out _ _ ⟨pw_cell_below hb hHeld.1, pw_cell_below hb hHeld.2.1, pw_cell_below hb hHeld.2.2.1, pw_cell_below hb hHeld.2.2.2.1, pw_cell_below hb hHeld.2.2.2.2.1, pw_cell_below hb hHeld.2.2.2.2.2.1, pw_cell_below hb hHeld.2.2.2.2.2.2.1, ⟨below_chain hHeld.2.2.2.2.2.2.2.1.out hb⟩, ⟨below_chain hHeld.2.2.2.2.2.2.2.2.out hb⟩⟩ (fun hHeld => ?_); clear hK K; refine norm_ (a' := ?_) ?_ ?_; rotate_left; (show Act.put _ (some 9) _ = _; simp only [Act.put, List.setIfInBounds_toArray, List.set_cons_zero, List.set_cons_succ, i64_w, i32_w]; rfl))
  all_goals first | refine pA_ 5 (some 10) (bx 6 [7, 8, 9, 10] 17) HT_.out (h := ?_) | refine pO_ 5 (some 10) (bx 6 [7, 8, 9, 10] 17) HT_.out (h := ?_)
  all_goals first | refine tA_ 6 (some 11) (bl 11 17) HT_.out HW_.out hHeld (h := ?_) | refine pO_ 6 (some 11) (bl 11 17) HT_.out (h := ?_)
  all_goals first | refine pO_ 11 (some 16) (bl 12 17) HT_.out (h := ?_) | (refine one_ (i := 11) (N := some 16) (bl 12 17) rfl rfl (one_of HT_.out (by kernel_rfl)) (by decide) (fun K hK => ?_); refine goes_ Try.func100 (by kernel_rfl) rfl #[.agg #[.slice A0_0 l0_0.length c0_0, .slice A0_1 l0_1.length c0_1], .int .i64 x.f0] (by rfl) rfl rfl (by (try simp only [List.map_toArray, List.map_cons, List.map_nil]); first | done | rfl) ?_; with_reducible refine (impl_indexOf.calls _ _ l0_0 _ _ l0_1 x.f0 _ _ (Kd.C_below HR0.out hHeld.2.2.2.2.2.2.2.1.out) HC0.out (Kd.C_below HR1.out hHeld.2.2.2.2.2.2.2.1.out) HC1.out A2.out).mono ?_; rintro e w2 ⟨rfl, hb⟩; refine ⟨_, rfl, ?_⟩; refine hK.out _ _ ⟨pw_cell_below hb hHeld.1, pw_cell_below hb hHeld.2.1, pw_cell_below hb hHeld.2.2.1, pw_cell_below hb hHeld.2.2.2.1, pw_cell_below hb hHeld.2.2.2.2.1, pw_cell_below hb hHeld.2.2.2.2.2.1, pw_cell_below hb hHeld.2.2.2.2.2.2.1, ⟨below_chain hHeld.2.2.2.2.2.2.2.1.out hb⟩, ⟨below_chain hHeld.2.2.2.2.2.2.2.2.out hb⟩⟩ (fun hHeld => ?_); clear hK K; refine norm_ (a' := ?_) ?_ ?_; rotate_left; (show Act.put _ (some 16) _ = _; simp only [Act.put, List.setIfInBounds_toArray, List.set_cons_zero, List.set_cons_succ, i64_w, i32_w]; rfl))
  all_goals first | refine pA_ 12 (some 17) (bl 13 17) HT_.out (h := ?_) | refine pO_ 12 (some 17) (bl 13 17) HT_.out (h := ?_)
  all_goals first | refine tA_ 13 (some 18) (bl 14 17) HT_.out HW_.out hHeld (h := ?_) | refine pO_ 13 (some 18) (bl 14 17) HT_.out (h := ?_)
  all_goals first | refine pA_ 14 (some 19) (bl 15 17) HT_.out (h := ?_) | refine pO_ 14 (some 19) (bl 15 17) HT_.out (h := ?_)
  all_goals first | refine pA_ 15 (some 20) (bl 16 17) HT_.out (h := ?_) | refine pO_ 15 (some 20) (bl 16 17) HT_.out (h := ?_)
  all_goals first | refine pA_ 16 (some 4) (bl 17 17) HT_.out (h := ?_) | refine pO_ 16 (some 4) (bl 17 17) HT_.out (h := ?_)
  all_goals refine done_ (done_of HT_.out (by kernel_rfl)) ?_
  all_goals (go_wp2; go_ret; exact ⟨by first | rfl | simp_all, hHeld.2.2.2.2.2.2.2.2.out⟩)
set_option maxHeartbeats 8000000 in
set_option maxRecDepth 100000 in
theorem impl_links.calls (A0_0 : Option Addr) (c0_0 : Nat) (l0_0 : List S108) (A0_1 : Option Addr) (c0_1 : Nat) (l0_1 : List S100) (w0 : World) (p N1 N2 : Nat) (A : Option Addr) (c : Nat) (ns : List Int) (M1 M2 : Nat → Nat → Bool) (w : World) (hr0_0 : Kd.C k108 w A0_0 l0_0.length l0_0) (hc0_0 : l0_0.length ≤ c0_0) (hr0_1 : Kd.C k100 w A0_1 l0_1.length l0_1) (hc0_1 : l0_1.length ≤ c0_1) (H : OrdIn w0 w p N1 N2 l0_0.length (.slice A l0_0.length c) ns M1 M2) (hn : l0_0.length ≤ 10) (hm : l0_1.length ≤ 24) (hin : relsIn l0_0 l0_1) :
    Calls Try.prog 54 #[.agg #[.slice A0_0 l0_0.length c0_0, .slice A0_1 l0_1.length c0_1], .pointer (some ⟨p, 0, none⟩)] w fun e w' => ∃ v : Value, e = .returned v ∧ Kd.R k100 100 w' w.heap.size (fun _ => True) v (linkRels l0_0 l0_1 M1 M2) ∧ Below w.heap.size w w' := by
  have HG := Aside0.mk (And.intro hn (And.intro hm hin))
  have HUP := Aside0.mk (dAt_up (M := M1) (n := l0_0.length) (r := l0_0.length) (i := 0) (k := 0) hn (Nat.le_refl _) (Nat.zero_le _) (Nat.zero_le _))
  have HDA := Aside0.mk (show dAt M1 l0_0.length l0_0.length 0 0 = dAll M1 l0_0.length l0_0.length from rfl)
  have HRI := Aside0.mk (show relsIn l0_0 (redRels l0_0 l0_1 M1 M2 false) from fun x hx => hin x (List.mem_filter.1 hx).1)
  clear hn hm hin
  have HDL := Aside0.mk (dAll_len M1 l0_0.length l0_0.length)
  rw [HDA.out] at HUP
  unfold linkRels
  generalize dAll M1 l0_0.length l0_0.length = ds at HUP HDL HDA ⊢
  generalize hrl : redRels l0_0 l0_1 M1 M2 false = rl at HRI ⊢
  have HRL := Aside0.mk hrl
  clear hrl
  have HR0 := Aside0.mk hr0_0
  have HR1 := Aside0.mk hr0_1
  have HC0 := Aside0.mk hc0_0
  have HC1 := Aside0.mk hc0_1
  clear hr0_0 hr0_1 hc0_0 hc0_1
  obtain ⟨wb, hwb⟩ : ∃ wb, (w).alloc (.cells #[.slice A0_0 l0_0.length c0_0, .slice A0_1 l0_1.length c0_1] 33 (0, 0)) = wb := ⟨_, rfl⟩
  have HBw := Aside0.mk (show Below w.heap.size w wb from by rw [← hwb]; repeat (first | exact Below.refl _ _ | apply below_alloc))
  have HWB := HBw
  have hhr : wb.heap[w.heap.size]? = some (.cells #[.slice A0_0 l0_0.length c0_0, .slice A0_1 l0_1.length c0_1] 33 (0, 0)) := by rw [← hwb]; have h := blk_new (w) (.cells #[.slice A0_0 l0_0.length c0_0, .slice A0_1 l0_1.length c0_1] 33 (0, 0)); rw [show (w).heap.size = w.heap.size from by rfl] at h; exact h
  have hb0 : wb.cell? ⟨w.heap.size, 0, none⟩ = some (.slice A0_0 l0_0.length c0_0) := (blk_cell hhr 0).trans rfl
  have hb1 : wb.cell? ⟨w.heap.size, 1, none⟩ = some (.slice A0_1 l0_1.length c0_1) := (blk_cell hhr 1).trans rfl
  have hbs : w.heap.size < wb.heap.size := blk_lt hhr
  have HW := Aside0.mk hwb
  clear hwb
  have HO := Aside0.mk (H.step HBw.out)
  have eg := enters_of Try.func99 (by kernel_rfl) rfl
  have BR := Aside0.mk hhr
  clear H hhr
  go_enter Try.func54, Try.ntmps54
  go_upto_region 1 with (fail)
  try rw [HW.out]
  clear HW
  go_upto_region 2 with (go_at_call 95; (refine (impl_order_depths.calls _ p N1 N2 l0_0.length A c _ _ _ _ HO.out HG.out.1).mono ?_); rintro e w1 ⟨v0, rfl, hR, hb⟩; rw [show dAll M1 l0_0.length l0_0.length = ds from HDA.out] at hR; obtain ⟨D, d, rfl, hd0, hC0⟩ := Kd.R_reads hR; have HRD := Aside0.mk hR; have HBw : Aside0 (Below w.heap.size w w1) := Aside0.mk (below_chain (w := w) (by repeat (first | exact HBw.out | exact Below.refl _ _ | apply below_alloc | apply pw_below_drewN | apply below_drew1)) hb); have hb0 := pw_cell_below hb hb0; have hb1 := pw_cell_below hb hb1; have BR := Aside0.mk (blk_below BR.out hb); have HO := Aside0.mk (HO.out.step hb); clear hR hb hd0 hC0)
  obtain ⟨gv, hgv⟩ : ∃ g, w1.heap.size = g := ⟨_, rfl⟩
  have HBO := Aside0.mk (below_alloc (Below.refl w1.heap.size w1) (.cells #[.slice D ds.length d] 54 (0, 0)))
  have BV := Aside0.mk (blk_new w1 (.cells #[.slice D ds.length d] 54 (0, 0)))
  generalize w1.alloc (.cells #[.slice D ds.length d] 54 (0, 0)) = wq at HBO BV ⊢
  rw [hgv] at BV
  try rw [hgv]
  have HO := Aside0.mk (HO.out.step HBO.out)
  have HRD := Aside0.mk (Kd.R_below HRD.out HBO.out)
  have HBw := Aside0.mk (below_chain HBw.out HBO.out)
  have hb0 := pw_cell_below HBO.out hb0
  have hb1 := pw_cell_below HBO.out hb1
  have BR := Aside0.mk (blk_below BR.out HBO.out)
  clear hgv
  go_wp2_with (first | (go_at_call 98; (refine (impl_redundantRelations.calls _ _ l0_0 _ _ l0_1 _ p N1 N2 A c _ M1 M2 false _ (Kd.C_below HR0.out (by repeat (first | exact HBw.out | exact Below.refl _ _ | apply below_alloc | apply pw_below_drewN | apply below_drew1))) HC0.out (Kd.C_below HR1.out (by repeat (first | exact HBw.out | exact Below.refl _ _ | apply below_alloc | apply pw_below_drewN | apply below_drew1))) HC1.out HO.out HG.out.1 HG.out.2.1 HG.out.2.2).mono ?_); rintro e w3 ⟨v3, rfl, hR, hb⟩; rw [HRL.out] at hR; have HRc := Aside0.mk hR; have HSZ := Aside0.mk HBw.out.size; have HBw : Aside0 (Below w.heap.size w w3) := Aside0.mk (below_chain (w := w) (by repeat (first | exact HBw.out | exact Below.refl _ _ | apply below_alloc | apply pw_below_drewN | apply below_drew1)) hb); have hb0 := pw_cell_below hb hb0; have hb1 := pw_cell_below hb hb1; have BV := Aside0.mk (blk_below BV.out hb); have BR := Aside0.mk (blk_below BR.out hb); have HRD := Aside0.mk (Kd.R_below HRD.out hb); clear hb hR) | (go_at_call 97; (refine (impl_Relation_97.callsOn 99 _ eg _ v3 rl _ _ _ HRc.out (impl_links.pred w A0_0 c0_0 l0_0 A0_1 c0_1 l0_1 HR0.out HC0.out HR1.out HC1.out rl HRI.out ds _ _ _ HDL.out HUP.out gv w.heap.size _ _ v3 _ HBw.out HSZ.out HRc.out HRD.out BV.out BR.out)).mono ?_); rintro e w4 ⟨v4, rfl, hR, hg⟩; have HR4 := Aside0.mk hR; have HB4 := Aside0.mk (below_of_grown HBw.out hg (fun b hb => Nat.le_trans HSZ.out (Kd.R_base HRc.out b hb))); clear hR hg))
  go_ret
  exact ⟨_, rfl, by have h := Kd.R_lower HR4.out HSZ.out; simp only [Bool.not_not] at h; exact h, HB4.out⟩

end Go.Proofs.Ytlbkoejpjpcgaaa.Q
