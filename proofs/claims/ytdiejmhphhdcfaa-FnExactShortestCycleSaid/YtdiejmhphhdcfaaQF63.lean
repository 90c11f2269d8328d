-- Written by a program of this session (wip/xprint.py over the kit's printer).
import Derived.Test.YtdiejmhphhdcfaaQ0
import Derived.Test.YtdiejmhphhdcfaaQF117
import Derived.Test.YtdiejmhphhdcfaaQF61
import Derived.Test.YtdiejmhphhdcfaaQF67
import Derived.Test.YtdiejmhphhdcfaaQP
namespace Go.Proofs.Ytdiejmhphhdcfaa.Q
open Go.RowKit Go.Proofs.YtdiejmhphhdcfaaW.PrintWords Go.Proofs.YtdiejmhphhdcfaaW.PrintLast
set_option linter.unusedVariables false
set_option linter.unusedSimpArgs false

/-! ### spec_l4Chain: function 63 -/
/-- The reference's steps towards a context. -/
def stC (cs : List S86) (b r : Int) (d : List Int) (x : S95) : Bool := (d.getD (find cs x.f0).toNat 0 == 0) && ((r == 1 && find cs x.f1 == b) || (decide (1 < r) && d.getD (find cs x.f1).toNat 0 == r - 1))
def stS (cs : List S86) (b r : Int) (d : List Int) (x : S95) : List Int := if stC cs b r d x then d.set (find cs x.f0).toNat r else d
def stR (cs : List S86) (rs : List S95) (b r : Int) (d : List Int) : List Int := rs.foldl (stS cs b r) d
def stA (cs : List S86) (rs : List S95) (b : Int) : Nat → List Int
  | 0 => List.replicate cs.length 0
  | m + 1 => stR cs rs b ((m : Int) + 1) (stA cs rs b m)
theorem stS_len (cs : List S86) (b r : Int) (d : List Int) (x : S95) : (stS cs b r d x).length = d.length := by unfold stS; split <;> simp
theorem stR_len (cs : List S86) (b r : Int) : ∀ (rs : List S95) (d : List Int), (stR cs rs b r d).length = d.length
  | [], _ => rfl
  | x :: q, d => by
    show (stR cs q b r (stS cs b r d x)).length = _
    rw [stR_len cs b r q, stS_len]
theorem stA_len (cs : List S86) (rs : List S95) (b : Int) (m : Nat) : (stA cs rs b m).length = cs.length := by
  induction m with
  | zero => simp [stA]
  | succ m ih => simp only [stA]; rw [stR_len, ih]
theorem stS_up (cs : List S86) (b r : Int) (B : Int) (hr : 0 ≤ r ∧ r ≤ B) (d : List Int) (x : S95) (h : ∀ j, 0 ≤ d.getD j 0 ∧ d.getD j 0 ≤ B) : ∀ j, 0 ≤ (stS cs b r d x).getD j 0 ∧ (stS cs b r d x).getD j 0 ≤ B := by
  intro j
  unfold stS
  split
  · rw [List.getD_eq_getElem?_getD, List.getElem?_set]
    split
    · split <;> simp <;> omega
    · rw [← List.getD_eq_getElem?_getD]; exact h j
  · exact h j
theorem stR_up (cs : List S86) (b r : Int) (B : Int) (hr : 0 ≤ r ∧ r ≤ B) : ∀ (rs : List S95) (d : List Int), (∀ j, 0 ≤ d.getD j 0 ∧ d.getD j 0 ≤ B) → ∀ j, 0 ≤ (stR cs rs b r d).getD j 0 ∧ (stR cs rs b r d).getD j 0 ≤ B
  | [], _, h => h
  | x :: q, d, h => stR_up cs b r B hr q (stS cs b r d x) (stS_up cs b r B hr d x h)
theorem stA_up (cs : List S86) (rs : List S95) (b : Int) (m : Nat) : ∀ j, 0 ≤ (stA cs rs b m).getD j 0 ∧ (stA cs rs b m).getD j 0 ≤ (m : Int) := by
  induction m with
  | zero =>
    intro j
    simp only [stA, List.getD_eq_getElem?_getD, List.getElem?_replicate]
    split <;> simp
  | succ m ih =>
    simp only [stA]
    have := stR_up cs b ((m : Int) + 1) ((m + 1 : Nat) : Int) (by omega) rs (stA cs rs b m) (fun j => by have := ih j; omega)
    exact this
theorem rdS (d : List Int) (k : Nat) : rd d (k : Int) = d.getD k 0 := by simp [rd]
theorem steps_l1 (cs : List S86) (rs : List S95) (hn : cs.length ≤ 10) (hm : rs.length ≤ 24) (hin : relsIn cs rs) (b : Int) (rd_ : Nat) (hrd : rd_ ≤ 20) (out : List Int) : ∀ (m i : Nat), rs.length - i = m → i ≤ rs.length → ∀ d : List Int, d.length = cs.length → Ev (fun q => spec_l4Steps.l0 q b (stR cs (rs.drop i) b ((rd_ : Int) + 1) d) (((rd_ + 1 + 1 : Nat) : Int)) cs rs) out → Ev (fun q => spec_l4Steps.l1 q b d ((rd_ : Int) + 1) (i : Int) cs rs) out := by
  intro m
  induction m with
  | zero =>
    intro i hd hi d hl hnext
    obtain rfl : i = rs.length := by omega
    refine Ev.step (fun q => by rw [spec_l4Steps.l1]) ?_
    rw [List.drop_length] at hnext
    simp only [Int.lt_irrefl, if_false, show wrap64 ((rd_ : Int) + 1 + 1) = ((rd_ + 1 + 1 : Nat) : Int) from by unfold wrap64; omega]
    exact hnext
  | succ m ih =>
    intro i hd hi d hl hnext
    have hlt : i < rs.length := by omega
    have a3 : (i : Int) < (rs.length : Int) := by omega
    have a4 : (0 : Int) ≤ (i : Int) := by omega
    obtain ⟨a, ha, hal⟩ := find_nat cs rs[i].f0 (hin _ (List.getElem_mem hlt)).1
    obtain ⟨l, hb, hbl⟩ := find_nat cs rs[i].f1 (hin _ (List.getElem_mem hlt)).2
    have b1 : (0 : Int) ≤ (a : Int) := by omega
    have b2 : (a : Int) < (cs.length : Int) := by omega
    have b3 : (0 : Int) ≤ (l : Int) := by omega
    have b4 : (l : Int) < (cs.length : Int) := by omega
    rw [List.drop_eq_getElem_cons hlt] at hnext
    have hs : stR cs (rs[i] :: rs.drop (i + 1)) b ((rd_ : Int) + 1) d = stR cs (rs.drop (i + 1)) b ((rd_ : Int) + 1) (stS cs b ((rd_ : Int) + 1) d rs[i]) := rfl
    rw [hs] at hnext
    have hgo := ih (i + 1) (by omega) (by omega) _ (by rw [stS_len]; exact hl) hnext
    have e0 : rd_T95 rs (i : Int) = rs[i] := by simp [rd_T95, List.getD_eq_getElem?_getD, List.getElem?_eq_getElem hlt]
    have e1 : wrap64 ((i : Int) + 1) = ((i + 1 : Nat) : Int) := by unfold wrap64; omega
    have e2 : wrap64 ((rd_ : Int) + 1 - 1) = (rd_ : Int) := by unfold wrap64; omega
    refine Ev.step (fun q => by rw [spec_l4Steps.l1]) ?_
    simp only [a3, a4, if_true, e0, e1, e2, find_f, ha, hb, Option.bind_some, hl, b1, b2, b3, b4, rdS, Int.toNat_natCast]
    have hst : stS cs b ((rd_ : Int) + 1) d rs[i] = if (d.getD a 0 = 0) ∧ (((rd_ : Int) + 1 = 1 ∧ (l : Int) = b) ∨ ((rd_ : Int) + 1 > 1 ∧ d.getD l 0 = (rd_ : Int))) then d.set a ((rd_ : Int) + 1) else d := by
      unfold stS stC
      rw [ha, hb, Int.toNat_natCast, Int.toNat_natCast]
      have e3 : (rd_ : Int) + 1 - 1 = (rd_ : Int) := by omega
      rw [e3]
      by_cases h1 : d.getD a 0 = 0 <;> by_cases h2 : (rd_ : Int) + 1 = 1 <;> by_cases h3 : (l : Int) = b <;> by_cases h4 : (rd_ : Int) + 1 > 1 <;> by_cases h5 : d.getD l 0 = (rd_ : Int) <;> simp [h1, h2, h3, h4, h5] <;> omega
    rw [hst] at hgo
    by_cases h1 : d.getD a 0 = 0
    · simp only [h1, if_true, true_and] at hgo ⊢
      by_cases h2 : (rd_ : Int) + 1 = 1
      · have h4 : ¬ (rd_ : Int) + 1 > 1 := by omega
        by_cases h3 : (l : Int) = b
        · simp only [h2, h3, if_true, and_self, true_or] at hgo ⊢
          exact hgo
        · simp only [h2, h3, if_true, if_false, and_false, false_or, show ¬ (1 : Int) > 1 by decide, false_and] at hgo ⊢
          exact hgo
      · by_cases h4 : (rd_ : Int) + 1 > 1
        · by_cases h5 : d.getD l 0 = (rd_ : Int)
          · simp only [h2, h4, h5, if_true, if_false, false_and, and_self, false_or] at hgo ⊢
            exact hgo
          · simp only [h2, h4, h5, if_true, if_false, false_and, and_false, or_self] at hgo ⊢
            exact hgo
        · simp only [h2, h4, if_false, false_and, or_self] at hgo ⊢
          exact hgo
    · simp only [h1, if_false, false_and] at hgo ⊢
      exact hgo
theorem steps_ev (cs : List S86) (rs : List S95) (hn : cs.length ≤ 10) (hm : rs.length ≤ 24) (hin : relsIn cs rs) (b : Int) : Ev (fun k => spec_l4Steps.f k cs rs b) (stA cs rs b cs.length) := by
  unfold spec_l4Steps.f
  simp only [show (0 : Int) ≤ (cs.length : Int) by omega, if_true, Int.toNat_natCast, show cs.length ≤ 35184372088832 by omega]
  have key : ∀ (d m : Nat), cs.length - m = d → m ≤ cs.length → Ev (fun k => spec_l4Steps.l0 k b (stA cs rs b m) ((m + 1 : Nat) : Int) cs rs) (stA cs rs b cs.length) := by
    intro d
    induction d with
    | zero =>
      intro m hd hm2
      obtain rfl : m = cs.length := by omega
      refine Ev.step (fun q => by rw [spec_l4Steps.l0]) ?_
      have hc : ¬ (((cs.length + 1 : Nat) : Int) ≤ ((stA cs rs b cs.length).length : Int)) := by rw [stA_len]; omega
      simp only [hc, if_false]
      exact Ev.now _
    | succ d ih =>
      intro m hd hm2
      refine Ev.step (fun q => by rw [spec_l4Steps.l0]) ?_
      have hc : (((m + 1 : Nat) : Int) ≤ ((stA cs rs b m).length : Int)) := by rw [stA_len]; omega
      simp only [hc, if_true]
      have h1 := ih (m + 1) (by omega) (by omega)
      have h2 := steps_l1 cs rs hn hm hin b m (by omega) _ rs.length 0 (by omega) (by omega) (stA cs rs b m) (stA_len cs rs b m) (by rw [List.drop_zero]; exact h1)
      exact h2
  exact key cs.length 0 (by omega) (by omega)
def spB (cs : List S86) (st : List Int) (b : Int) (a : Nat) (k : Int) (x : S95) : Bool := (x.f0 == (cs.getD a z86).f0) && ((k == 1 && find cs x.f1 == b) || (decide (1 < k) && st.getD (find cs x.f1).toNat 0 == k - 1))
def spSel (cs : List S86) (rs : List S95) (st : List Int) (b : Int) (a : Nat) (k : Int) (m : Nat) : Int := (rs.take m).foldl (fun s x => if spB cs st b a k x && (decide (s < 0) || decide (find cs x.f1 < s)) then find cs x.f1 else s) (-1)
theorem spSel_succ (cs : List S86) (rs : List S95) (st : List Int) (b : Int) (a : Nat) (k : Int) (m : Nat) (hm : m < rs.length) : spSel cs rs st b a k (m + 1) = if spB cs st b a k (rs.getD m z95) && (decide (spSel cs rs st b a k m < 0) || decide (find cs (rs.getD m z95).f1 < spSel cs rs st b a k m)) then find cs (rs.getD m z95).f1 else spSel cs rs st b a k m := by
  unfold spSel
  rw [take_snocR rs m hm, List.foldl_append]
  rfl
theorem spSel_range (cs : List S86) (rs : List S95) (hin : relsIn cs rs) (st : List Int) (b : Int) (a : Nat) (k : Int) (m : Nat) (hm : m ≤ rs.length) : spSel cs rs st b a k m = -1 ∨ ∃ q : Nat, q < cs.length ∧ spSel cs rs st b a k m = (q : Int) := by
  induction m with
  | zero => left; simp [spSel]
  | succ m ih =>
    rw [spSel_succ cs rs st b a k m (by omega)]
    split
    · right
      have hmem : rs.getD m z95 ∈ rs := by rw [List.getD_eq_getElem?_getD, List.getElem?_eq_getElem (by omega)]; exact List.getElem_mem _
      obtain ⟨q, hq, hql⟩ := find_nat cs _ (hin _ hmem).2
      exact ⟨q, hql, hq⟩
    · exact ih (by omega)
def spGo (cs : List S86) (rs : List S95) (st : List Int) (b : Int) : Nat → Nat → Option (List Int)
  | 0, _ => some []
  | u + 1, a => if spSel cs rs st b a ((u + 1 : Nat) : Int) rs.length < 0 then none else (spGo cs rs st b u (spSel cs rs st b a ((u + 1 : Nat) : Int) rs.length).toNat).map ((cs.getD (spSel cs rs st b a ((u + 1 : Nat) : Int) rs.length).toNat z86).f0 :: ·)
def spec_l4Chain.f (l0_0 : List S86) (l0_1 : List S95) (a1 a2 : Int) : Option (List Int) :=
  if goodB l0_0 l0_1 = true ∧ 0 ≤ a1 ∧ a1 < (l0_0.length : Int) then
    (if (stA l0_0 l0_1 a2 l0_0.length).getD a1.toNat 0 = 0 then some [] else (spGo l0_0 l0_1 (stA l0_0 l0_1 a2 l0_0.length) a2 ((stA l0_0 l0_1 a2 l0_0.length).getD a1.toNat 0).toNat a1.toNat).map ((l0_0.getD a1.toNat z86).f0 :: ·))
  else none
def spec_l4Chain.T13 : Bool × List (List Nat × List Nat) := (true, [([], []), ([], []), ([1], [1]), ([], []), ([2, 3], [2, 3]), ([4], [4]), ([5], [5]), ([0, 6], [0, 6]), ([7, 7, 0, 1, 2, 3, 4, 5, 6, 7], [7])])
def spec_l4Chain.B13 : List Nat := [0, 0, 2, 0, 14, 30, 62, 127, 255]
theorem spec_l4Chain.tab13 : rtab .any (opsOf Try.f63 13) = spec_l4Chain.T13 := by kernel_rfl
theorem spec_l4Chain.bits13 : waitsOk spec_l4Chain.T13.2 spec_l4Chain.B13 = true := by kernel_rfl
set_option maxHeartbeats 16000000 in
set_option maxRecDepth 100000 in
theorem spec_l4Chain.calls (A0_0 : Option Addr) (c0_0 : Nat) (l0_0 : List S86) (A0_1 : Option Addr) (c0_1 : Nat) (l0_1 : List S95) (a1 a2 : Int) (r : List Int) (w : World) (hr0_0 : Kd.C k86 w A0_0 l0_0.length l0_0) (hc0_0 : l0_0.length ≤ c0_0) (hr0_1 : Kd.C k95 w A0_1 l0_1.length l0_1) (hc0_1 : l0_1.length ≤ c0_1) (h : spec_l4Chain.f l0_0 l0_1 a1 a2 = some r) :
    Calls Try.prog 63 #[.agg #[.slice A0_0 l0_0.length c0_0, .slice A0_1 l0_1.length c0_1], .int .i64 a1, .int .i64 a2] w fun e w' => ∃ v0_ : Value, e = .returned (v0_) ∧ Kd.R (Kd.int .i64) 3 w' w.heap.size (fun _ => True) v0_ r ∧ Below w.heap.size w w' := by
  have H := h
  unfold spec_l4Chain.f at H
  clear h
  by_cases hg : goodB l0_0 l0_1 = true ∧ 0 ≤ a1 ∧ a1 < (l0_0.length : Int)
  · rw [if_pos hg] at H
    obtain ⟨hg, ha0, ha1⟩ := hg
    have HG := Aside0.mk (goodB_parts hg)
    obtain ⟨a, rfl⟩ : ∃ a : Nat, a1 = (a : Int) := ⟨a1.toNat, by omega⟩
    rw [Int.toNat_natCast] at H
    obtain ⟨ks, hks⟩ := Ev.rounds (steps_ev l0_0 l0_1 HG.out.1 HG.out.2.1 HG.out.2.2 a2)
    have HUP := Aside0.mk (stA_up l0_0 l0_1 a2 l0_0.length)
    have HLN := Aside0.mk (stA_len l0_0 l0_1 a2 l0_0.length)
    generalize stA l0_0 l0_1 a2 l0_0.length = st at H hks HUP HLN
    have HKS := Aside0.mk hks
    have HH := Aside0.mk H
    have hal : a < l0_0.length := by omega
    clear hks H hg ha0
    have HR0 := Aside0.mk hr0_0
    have HR1 := Aside0.mk hr0_1
    have HC0 := Aside0.mk hc0_0
    have HC1 := Aside0.mk hc0_1
    clear hr0_0 hr0_1 hc0_0 hc0_1
    obtain ⟨wb, hwb⟩ : ∃ wb, (w).alloc (.cells #[.slice A0_0 l0_0.length c0_0, .slice A0_1 l0_1.length c0_1] 33 (0, 0)) = wb := ⟨_, rfl⟩
    have HBw := Aside0.mk (show Below w.heap.size w wb from by rw [← hwb]; repeat (first | exact Below.refl _ _ | apply below_alloc))
    have HWB := HBw
    have hhr : wb.heap[w.heap.size]? = some (.cells #[.slice A0_0 l0_0.length c0_0, .slice A0_1 l0_1.length c0_1] 33 (0, 0)) := by rw [← hwb]; have h := blk_new (w) (.cells #[.slice A0_0 l0_0.length c0_0, .slice A0_1 l0_1.length c0_1] 33 (0, 0)); rw [show (w).heap.size = w.heap.size from by rfl] at h; exact h
    have hb0 : wb.cell? ⟨w.heap.size, 0, none⟩ = some (.slice A0_0 l0_0.length c0_0) := (blk_cell hhr 0).trans rfl
    have hb1 : wb.cell? ⟨w.heap.size, 1, none⟩ = some (.slice A0_1 l0_1.length c0_1) := (blk_cell hhr 1).trans rfl
    have hbs : w.heap.size < wb.heap.size := blk_lt hhr
    have HW := Aside0.mk hwb
    clear hwb hhr
    go_enter Try.func63, Try.ntmps63
    go_upto_region 1 with (fail)
    try rw [HW.out]
    clear HW
    go_upto_region 2 with (go_at_call 117; (refine (spec_l4Steps.calls ks _ _ l0_0 _ _ l0_1 _ _ _ (Kd.C_below HR0.out (by repeat (first | exact HBw.out | exact Below.refl _ _ | apply below_alloc | apply pw_below_drewN | apply below_drew1))) HC0.out (Kd.C_below HR1.out (by repeat (first | exact HBw.out | exact Below.refl _ _ | apply below_alloc | apply pw_below_drewN | apply below_drew1))) HC1.out HKS.out).mono ?_); rintro e w1 ⟨v1, rfl, hR, hb⟩; have HBw : Aside0 (Below w.heap.size w w1) := Aside0.mk (below_chain (w := w) (by repeat (first | exact HBw.out | exact Below.refl _ _ | apply below_alloc | apply pw_below_drewN | apply below_drew1)) hb); have hb0 := pw_cell_below hb hb0; have hb1 := pw_cell_below hb hb1; have HST := Aside0.mk hR; clear hb hR)
    obtain ⟨D, d, hv1, hd, hC⟩ := Kd.R_reads HST.out
    subst hv1
    have HD := Aside0.mk hC
    rw [HLN.out] at HD
    rw [show st.length = l0_0.length from HLN.out]
    clear hd hC HST
    obtain ⟨w5, rfl⟩ : ∃ x, x = w1 := ⟨_, rfl⟩
    obtain ⟨ads, e1, hxs⟩ := Kd.at_int HD.out (a : Int) (by omega) ha1
    cases e1
    rw [show rd st (a : Int) = st.getD a 0 from by simp [rd], Int.toNat_natCast] at hxs
    obtain ⟨adc, e1, hc0, hc1⟩ := at_T86 HR0.out (a : Int) (by omega) ha1
    cases e1
    rw [show rd_T86 l0_0 (a : Int) = l0_0.getD a z86 from by simp [rd_T86], Int.toNat_natCast] at hc0
    clear hc1
    obtain ⟨na, hna⟩ : ∃ x, (l0_0.getD a z86).f0 = x := ⟨_, rfl⟩
    obtain ⟨sa, hsa⟩ : ∃ x, st.getD a 0 = x := ⟨_, rfl⟩
    have hup := HUP.out a
    have HH2 := HH.out
    rw [hna] at hc0 HH2
    rw [hsa] at hxs HH2 hup
    replace hc0 := (HBw.out.cell (World.block_lt_of_cell? w _ hc0)).trans hc0
    clear HH
    by_cases hz : sa = 0
    · have hz1 : (sa == 0) = true := by rw [hz]; rfl
      rw [if_pos hz] at HH2
      obtain rfl := Option.some.inj HH2
      clear HH2 hc0
      go_wp2_with ((with_reducible refine gate_dst (N := 22) rfl ?_); refine Kd.R_lit (Kd.int .i64) (w0 := w5) w5.heap.size 3 ?hg (N := 22) ?hd (xs := ([] : List Int)) (inner := []) (ok := fun _ => True) (okp := fun _ => True) ?hr ?hp (fun _ hk => hk) trivial (Below.refl _ _) (Nat.le_refl _) (by simp) ?_; (case hd => rfl); (case hg => rfl); (case hr => first | (go_simp; done) | (go_simp; rfl)); (case hp => exact (Reps.none _ _)); intro v6 w3 ho hb hg_ hnew_; clear hg_ hnew_; have HR := Aside0.mk ho; have HB := Aside0.mk hb; clear ho hb)
      go_ret
      exact ⟨_, rfl, Kd.R_lower HR.out HBw.out.size, below_chain HBw.out HB.out⟩
    · have hz1 : (sa == 0) = false := beq_eq_false_iff_ne.2 hz
      rw [if_neg hz] at HH2
      obtain ⟨u0, rfl⟩ : ∃ u : Nat, sa = (u : Int) := ⟨sa.toNat, by omega⟩
      rw [Int.toNat_natCast] at HH2
      obtain ⟨rest, hrest, hr⟩ := Option.map_eq_some_iff.1 HH2
      have HREST := Aside0.mk hrest
      have HTOT := Aside0.mk (show [na] ++ rest = r from hr)
      have HU0 := Aside0.mk (show u0 ≤ 10 from by have := HG.out.1; omega)
      clear HH2 hrest hr hup
      go_upto_region 4 with (fail)
      go_upto_region 5 with ((with_reducible refine gate_dst (N := 29) rfl ?_); refine Kd.R_lit (Kd.int .i64) (w0 := w5) w5.heap.size 3 ?hg (N := 29) ?hd (xs := [na]) (inner := [.int .i64 na]) (ok := fun _ => True) (okp := fun _ => True) ?hr ?hp (fun _ hk => hk) trivial (Below.refl _ _) (Nat.le_refl _) (by simp) ?_; (case hd => rfl); (case hg => rfl); (case hr => first | (go_simp; done) | (go_simp; rfl)); (case hp => exact Kd.reps_scalar [na]); intro v8 w3 ho hb_ hg_ hnew_; clear hg_ hnew_; have HR := Aside0.mk ho; have HB := Aside0.mk hb_; have hxs := pw_cell_below hb_ hxs; clear ho hb_)
      clear hc0 hz hz1
      go_wp2
      clear hxs
      go_loopg [8, 9, 10] u0 (fun gg s8 s9 s10 wq => ∃ (a u : Nat) (ys rest : List Int), a < l0_0.length ∧ u ≤ gg ∧ u ≤ 10 ∧ s9 = .int .i64 a ∧ s10 = .int .i64 u ∧ spGo l0_0 l0_1 st a2 u a = some rest ∧ ys ++ rest = r ∧ ys.length + u ≤ 11 ∧ Aside0 (Below w5.heap.size w5 wq) ∧ Aside0 (Kd.R (Kd.int .i64) 3 wq w5.heap.size (fun _ => True) s8 ys))
      case atStart => exact ⟨a, u0, [na], rest, hal, Nat.le_refl _, HU0.out, rfl, rfl, HREST.out, HTOT.out, by have := HU0.out; simp; omega, HB, HR⟩
      case round =>
        clear HR HB hna hsa hal ha1 HTOT HREST
        obtain ⟨a, u, ys, rest, hal, hgg, hu10, rfl, rfl, hgo, htot, hyu, HB, HR⟩ := hrel
        have halz : (a : Int) < (l0_0.length : Int) := by omega
        have HT := Aside0.mk htot
        have HYU := Aside0.mk hyu
        have HXL := Aside0.mk (show ys.length ≤ 11 from by omega)
        clear htot hyu
        cases u with
        | zero =>
          simp only [spGo] at hgo
          obtain rfl := Option.some.inj hgo
          have hz : ¬ (((0 : Nat) : Int) > 0) := by omega
          clear hgo
          go_wp2
          go_ret
          exact ⟨_, rfl, by have h := HT.out; rw [List.append_nil] at h; rw [← h]; exact Kd.R_lower HR.out HBw.out.size, below_chain HBw.out HB.out⟩
        | succ u =>
          have HGO := Aside0.mk hgo
          clear hgo
          obtain ⟨kz, hkz⟩ : ∃ z : Int, ((u + 1 : Nat) : Int) = z := ⟨_, rfl⟩
          have HKZ := Aside0.mk hkz
          rw [hkz]
          have hk0 : kz > 0 := by omega
          have hm1 : wrap64 (kz - 1) = kz - 1 := by unfold wrap64; omega
          have HM1 := Aside0.mk hm1
          clear hkz hm1
          have hb0' := (HB.out.cell (World.block_lt_of_cell? w5 _ hb0)).trans hb0
          have hb1' := (HB.out.cell (World.block_lt_of_cell? w5 _ hb1)).trans hb1
          go_wp2
          clear hb0' hb1' hk0
          go_loopg [11, 12] l0_1.length (fun gg s11 s12 wz => ∃ m : Nat, m ≤ l0_1.length ∧ l0_1.length - m ≤ gg ∧ s12 = .int .i64 m ∧ s11 = .int .i64 (spSel l0_0 l0_1 st a2 a kz m) ∧ Aside0 (Below w5.heap.size w5 wz) ∧ Aside0 (Kd.R (Kd.int .i64) 3 wz w5.heap.size (fun _ => True) u8 ys))
          case atStart => exact ⟨0, Nat.zero_le _, by omega, rfl, by simp [spSel], HB, HR⟩
          case round =>
            clear HB HR
            obtain ⟨m, hm, hgg3, rfl, rfl, HB, HR⟩ := hrel
            have hb0' := (HB.out.cell (World.block_lt_of_cell? w5 _ hb0)).trans hb0
            have hb1' := (HB.out.cell (World.block_lt_of_cell? w5 _ hb1)).trans hb1
            have hsr := spSel_range l0_0 l0_1 HG.out.2.2 st a2 a kz m hm
            by_cases hml : m < l0_1.length
            · have hmlz : (m : Int) < (l0_1.length : Int) := by omega
              have HSS := Aside0.mk (spSel_succ l0_0 l0_1 st a2 a kz m hml)
              generalize spSel l0_0 l0_1 st a2 a kz m = s at hsr HSS ⊢
              obtain ⟨ad, e1, hx0, hx1⟩ := at_T95 HR1.out (m : Int) (by omega) hmlz
              cases e1
              rw [show rd_T95 l0_1 (m : Int) = l0_1.getD m z95 from by simp [rd_T95]] at hx0 hx1
              simp only [Int.toNat_natCast] at hx0 hx1
              obtain ⟨y, hy⟩ : ∃ y, l0_1.getD m z95 = y := ⟨_, rfl⟩
              rw [hy] at hx0 hx1 HSS
              have hmem : y ∈ l0_1 := by rw [← hy, List.getD_eq_getElem?_getD, List.getElem?_eq_getElem hml]; exact List.getElem_mem hml
              obtain ⟨l, hl, hll⟩ := find_nat l0_0 y.f1 (HG.out.2.2 y hmem).2
              have A1 := Aside0.mk (show spec_l2Find.f l0_0 l0_1 y.f1 = some (l : Int) from congrArg some hl)
              obtain ⟨adc, e1, hc0, hc1⟩ := at_T86 HR0.out (a : Int) (by omega) halz
              cases e1
              rw [show rd_T86 l0_0 (a : Int) = l0_0.getD a z86 from by simp [rd_T86], Int.toNat_natCast] at hc0
              obtain ⟨na, hna⟩ : ∃ x, (l0_0.getD a z86).f0 = x := ⟨_, rfl⟩
              rw [hna] at hc0
              have hllz : (l : Int) < (l0_0.length : Int) := by omega
              obtain ⟨ads, e1, hxs⟩ := Kd.at_int HD.out (l : Int) (by omega) hllz
              cases e1
              rw [show rd st (l : Int) = st.getD l 0 from by simp [rd], Int.toNat_natCast] at hxs
              obtain ⟨sl, hsl⟩ : ∃ x, st.getD l 0 = x := ⟨_, rfl⟩
              rw [hsl] at hxs
              have HSS := Aside0.mk (show spSel l0_0 l0_1 st a2 a kz (m + 1) = if ((y.f0 == na) && (((kz == 1) && ((l : Int) == a2)) || (decide (1 < kz) && (sl == kz - 1))) && (decide (s < 0) || decide ((l : Int) < s))) = true then (l : Int) else s from by rw [HSS.out]; unfold spB; rw [hna, hl, Int.toNat_natCast, hsl])
              have HBB := below_chain HBw.out HB.out
              replace hx0 := (HBB.cell (p := ad.add (m * 2)) (World.block_lt_of_cell? w _ hx0)).trans hx0
              replace hx1 := (HBB.cell (World.block_lt_of_cell? w _ hx1)).trans hx1
              replace hc0 := (HBB.cell (World.block_lt_of_cell? w _ hc0)).trans hc0
              replace hxs := (HB.out.cell (World.block_lt_of_cell? w5 _ hxs)).trans hxs
              clear hy hmem hl hc1 hna hsl HBB
              have HS0 := Aside0.mk (show (fun w' : World => w'.cell? ⟨w.heap.size, 0, none⟩ = some (.slice (some adc) l0_0.length c0_0) ∧ w'.cell? ⟨w.heap.size, 1, none⟩ = some (.slice (some ad) l0_1.length c0_1) ∧ w'.cell? (ad.add (m * 2)) = some (.int .i64 y.f0) ∧ w'.cell? ⟨(ad.add (m * 2)).block, (ad.add (m * 2)).off + 1, none⟩ = some (.int .i64 y.f1) ∧ w'.cell? (adc.add (a * 2)) = some (.int .i64 na) ∧ w'.cell? (ads.add l) = some (.int .i64 sl) ∧ Aside0 (Below w5.heap.size w5 w') ∧ Aside0 (Kd.R (Kd.int .i64) 3 w' w5.heap.size (fun _ => True) u8 ys)) wr.drew from ⟨hb0', hb1', hx0, hx1, hc0, hxs, ⟨below_drew1 HB.out⟩, ⟨Kd.R_drew HR.out⟩⟩)
              go_upto_region 13 with (fail)
              clear hb0' hb1' hx0 hx1 hc0 hxs HB HR
              all_goals refine start_ (n := 9) (S := (fun w' => w'.cell? ⟨w.heap.size, 0, none⟩ = some (.slice (some adc) l0_0.length c0_0) ∧ w'.cell? ⟨w.heap.size, 1, none⟩ = some (.slice (some ad) l0_1.length c0_1) ∧ w'.cell? (ad.add (m * 2)) = some (.int .i64 y.f0) ∧ w'.cell? ⟨(ad.add (m * 2)).block, (ad.add (m * 2)).off + 1, none⟩ = some (.int .i64 y.f1) ∧ w'.cell? (adc.add (a * 2)) = some (.int .i64 na) ∧ w'.cell? (ads.add l) = some (.int .i64 sl) ∧ Aside0 (Below w5.heap.size w5 w') ∧ Aside0 (Kd.R (Kd.int .i64) 3 w' w5.heap.size (fun _ => True) u8 ys))) (ds := []) (bl 0 9) (by kernel_rfl) rfl rfl HS0.out (fun hHeld => ?_); refine with_tabW spec_l4Chain.tab13 spec_l4Chain.bits13 (fun HT_ HW_ => ?_)
              all_goals generalize wr.drew = wv at hHeld ⊢
              all_goals first | refine pA_ 1 (some 47) (bx 0 [1] 9) HT_.out (h := ?_) | refine pO_ 1 (some 47) (bx 0 [1] 9) HT_.out (h := ?_)
              all_goals first | refine pA_ 3 (some 49) (bx 0 [1, 3] 9) HT_.out (h := ?_) | refine pO_ 3 (some 49) (bx 0 [1, 3] 9) HT_.out (h := ?_)
              all_goals first | refine tA_ 0 (some 46) (bx 2 [3] 9) HT_.out HW_.out hHeld (h := ?_) | refine pO_ 0 (some 46) (bx 2 [3] 9) HT_.out (h := ?_)
              all_goals first | refine tA_ 2 (some 48) (bl 4 9) HT_.out HW_.out hHeld (h := ?_) | refine pO_ 2 (some 48) (bl 4 9) HT_.out (h := ?_)
              all_goals first | refine pA_ 4 (some 50) (bl 5 9) HT_.out (h := ?_) | refine pO_ 4 (some 50) (bl 5 9) HT_.out (h := ?_)
              all_goals first | refine pA_ 5 (some 51) (bl 6 9) HT_.out (h := ?_) | refine pO_ 5 (some 51) (bl 6 9) HT_.out (h := ?_)
              all_goals first | refine tA_ 6 (some 52) (bl 7 9) HT_.out HW_.out hHeld (h := ?_) | refine pO_ 6 (some 52) (bl 7 9) HT_.out (h := ?_)
              all_goals first | refine pO_ 7 (some 53) (bl 8 9) HT_.out (h := ?_) | (refine one_ (i := 7) (N := some 53) (bl 8 9) rfl rfl (one_of HT_.out (by kernel_rfl)) (by decide) (fun K hK => ?_); refine goes_ Try.func61 (by kernel_rfl) rfl #[.agg #[.slice (some adc) l0_0.length c0_0, .slice (some ad) l0_1.length c0_1], .int .i64 y.f1] (by rfl) rfl rfl (by (try simp only [List.map_toArray, List.map_cons, List.map_nil]); first | done | rfl) ?_; with_reducible refine (spec_l2Find.calls _ _ l0_0 _ _ l0_1 y.f1 _ _ (Kd.C_below HR0.out (below_chain HBw.out hHeld.2.2.2.2.2.2.1.out)) HC0.out (Kd.C_below HR1.out (below_chain HBw.out hHeld.2.2.2.2.2.2.1.out)) HC1.out A1.out).mono ?_; rintro e w6 ⟨rfl, hb⟩; refine ⟨_, rfl, ?_⟩; refine hK.out _ _ ⟨pw_cell_below hb hHeld.1, pw_cell_below hb hHeld.2.1, pw_cell_below hb hHeld.2.2.1, pw_cell_below hb hHeld.2.2.2.1, pw_cell_below hb hHeld.2.2.2.2.1, pw_cell_below hb hHeld.2.2.2.2.2.1, ⟨below_chain hHeld.2.2.2.2.2.2.1.out hb⟩, ⟨Kd.R_below hHeld.2.2.2.2.2.2.2.out hb⟩⟩ (fun hHeld => ?_); clear hK K; refine norm_ (a' := ?_) ?_ ?_; rotate_left; (show Act.put _ (some 53) _ = _; simp only [Act.put, List.setIfInBounds_toArray, List.set_cons_zero, List.set_cons_succ, i64_w, i32_w]; rfl))
              all_goals first | refine pA_ 8 (some 13) (bl 9 9) HT_.out (h := ?_) | refine pO_ 8 (some 13) (bl 9 9) HT_.out (h := ?_)
              all_goals refine done_ (done_of HT_.out (by kernel_rfl)) ?_
              obtain ⟨hb0', hb1', hx0, hx1, hc0, hxs, HB, HR⟩ := hHeld
              obtain ⟨wv6, hwv⟩ : ∃ x, w6 = x := ⟨_, rfl⟩
              rw [hwv] at hb0' hb1' hx0 hx1 hc0 hxs HB HR ⊢
              clear hwv HS0
              have hm1 := HM1.out
              obtain ⟨b1_, e1_⟩ : ∃ x, (y.f0 == na) = x := ⟨_, rfl⟩
              cases b1_ with
              | false =>
                have HSL := Aside0.mk (HSS.out.trans (if_neg (by rw [e1_]; simp)))
                go_wp2
                repeat (go_quiet (fail); try go_wp2)
                go_roundg (l0_1.length - (m + 1))
                case measure => omega
                case rel => exact ⟨m + 1, by omega, by omega, by have := HG.out.2.1; first | go_num | exact congrArg (Value.int .i64) (by unfold wrap64; omega), by rw [HSL.out], ⟨by repeat (first | exact HB.out | apply below_alloc | apply pw_below_drewN | apply below_drew1)⟩, ⟨by (with_reducible repeat (first | apply Kd.R_alloc | apply Kd.R_drewN | apply Kd.R_drew)); exact HR.out⟩⟩
              | true =>
                by_cases hk1 : kz = 1
                · have e2_ : (kz == 1) = true := by rw [hk1]; rfl
                  have hk2 : ¬ (1 : Int) < kz := by omega
                  have hk3 : decide ((1 : Int) < kz) = false := decide_eq_false hk2
                  clear hk1
                  obtain ⟨b3_, e3_⟩ : ∃ x, ((l : Int) == a2) = x := ⟨_, rfl⟩
                  cases b3_ with
                  | false =>
                    have HSL := Aside0.mk (HSS.out.trans (if_neg (by rw [e3_, hk3]; simp)))
                    go_wp2
                    repeat (go_quiet (fail); try go_wp2)
                    go_roundg (l0_1.length - (m + 1))
                    case measure => omega
                    case rel => exact ⟨m + 1, by omega, by omega, by have := HG.out.2.1; first | go_num | exact congrArg (Value.int .i64) (by unfold wrap64; omega), by rw [HSL.out], ⟨by repeat (first | exact HB.out | apply below_alloc | apply pw_below_drewN | apply below_drew1)⟩, ⟨by (with_reducible repeat (first | apply Kd.R_alloc | apply Kd.R_drewN | apply Kd.R_drew)); exact HR.out⟩⟩
                  | true =>
                    rcases hsr with hs | ⟨sq, hsq, hs⟩
                    · subst hs
                      have hs1 : ((-1 : Int) < 0) := by decide
                      have HSL := Aside0.mk (HSS.out.trans (if_pos (by rw [e1_, e2_, e3_]; simp)))
                      go_wp2
                      repeat (go_quiet (fail); try go_wp2)
                      go_roundg (l0_1.length - (m + 1))
                      case measure => omega
                      case rel => exact ⟨m + 1, by omega, by omega, by have := HG.out.2.1; first | go_num | exact congrArg (Value.int .i64) (by unfold wrap64; omega), by rw [HSL.out], ⟨by repeat (first | exact HB.out | apply below_alloc | apply pw_below_drewN | apply below_drew1)⟩, ⟨by (with_reducible repeat (first | apply Kd.R_alloc | apply Kd.R_drewN | apply Kd.R_drew)); exact HR.out⟩⟩
                    · subst hs
                      have hs1 : ¬ ((sq : Int) < 0) := by omega
                      have hs2 : decide ((sq : Int) < 0) = false := decide_eq_false hs1
                      by_cases hlt : (l : Int) < (sq : Int)
                      · have hlt2 : decide ((l : Int) < (sq : Int)) = true := decide_eq_true hlt
                        have HSL := Aside0.mk (HSS.out.trans (if_pos (by rw [e1_, e2_, e3_, hlt2]; simp)))
                        go_wp2
                        repeat (go_quiet (fail); try go_wp2)
                        go_roundg (l0_1.length - (m + 1))
                        case measure => omega
                        case rel => exact ⟨m + 1, by omega, by omega, by have := HG.out.2.1; first | go_num | exact congrArg (Value.int .i64) (by unfold wrap64; omega), by rw [HSL.out], ⟨by repeat (first | exact HB.out | apply below_alloc | apply pw_below_drewN | apply below_drew1)⟩, ⟨by (with_reducible repeat (first | apply Kd.R_alloc | apply Kd.R_drewN | apply Kd.R_drew)); exact HR.out⟩⟩
                      · have hlt2 : decide ((l : Int) < (sq : Int)) = false := decide_eq_false hlt
                        have HSL := Aside0.mk (HSS.out.trans (if_neg (by rw [hs2, hlt2]; simp)))
                        go_wp2
                        repeat (go_quiet (fail); try go_wp2)
                        go_roundg (l0_1.length - (m + 1))
                        case measure => omega
                        case rel => exact ⟨m + 1, by omega, by omega, by have := HG.out.2.1; first | go_num | exact congrArg (Value.int .i64) (by unfold wrap64; omega), by rw [HSL.out], ⟨by repeat (first | exact HB.out | apply below_alloc | apply pw_below_drewN | apply below_drew1)⟩, ⟨by (with_reducible repeat (first | apply Kd.R_alloc | apply Kd.R_drewN | apply Kd.R_drew)); exact HR.out⟩⟩
                · have hk4 : (kz == 1) = false := beq_eq_false_iff_ne.2 hk1
                  have hk2 : (1 : Int) < kz := by have := HKZ.out; omega
                  have e2_ : decide ((1 : Int) < kz) = true := decide_eq_true hk2
                  obtain ⟨b3_, e3_⟩ : ∃ x, (sl == kz - 1) = x := ⟨_, rfl⟩
                  cases b3_ with
                  | false =>
                    have HSL := Aside0.mk (HSS.out.trans (if_neg (by rw [e3_, hk4]; simp)))
                    go_wp2
                    repeat (go_quiet (fail); try go_wp2)
                    go_roundg (l0_1.length - (m + 1))
                    case measure => omega
                    case rel => exact ⟨m + 1, by omega, by omega, by have := HG.out.2.1; first | go_num | exact congrArg (Value.int .i64) (by unfold wrap64; omega), by rw [HSL.out], ⟨by repeat (first | exact HB.out | apply below_alloc | apply pw_below_drewN | apply below_drew1)⟩, ⟨by (with_reducible repeat (first | apply Kd.R_alloc | apply Kd.R_drewN | apply Kd.R_drew)); exact HR.out⟩⟩
                  | true =>
                    rcases hsr with hs | ⟨sq, hsq, hs⟩
                    · subst hs
                      have hs1 : ((-1 : Int) < 0) := by decide
                      have HSL := Aside0.mk (HSS.out.trans (if_pos (by rw [e1_, e2_, e3_]; simp)))
                      go_wp2
                      repeat (go_quiet (fail); try go_wp2)
                      go_roundg (l0_1.length - (m + 1))
                      case measure => omega
                      case rel => exact ⟨m + 1, by omega, by omega, by have := HG.out.2.1; first | go_num | exact congrArg (Value.int .i64) (by unfold wrap64; omega), by rw [HSL.out], ⟨by repeat (first | exact HB.out | apply below_alloc | apply pw_below_drewN | apply below_drew1)⟩, ⟨by (with_reducible repeat (first | apply Kd.R_alloc | apply Kd.R_drewN | apply Kd.R_drew)); exact HR.out⟩⟩
                    · subst hs
                      have hs1 : ¬ ((sq : Int) < 0) := by omega
                      have hs2 : decide ((sq : Int) < 0) = false := decide_eq_false hs1
                      by_cases hlt : (l : Int) < (sq : Int)
                      · have hlt2 : decide ((l : Int) < (sq : Int)) = true := decide_eq_true hlt
                        have HSL := Aside0.mk (HSS.out.trans (if_pos (by rw [e1_, e2_, e3_, hlt2]; simp)))
                        go_wp2
                        repeat (go_quiet (fail); try go_wp2)
                        go_roundg (l0_1.length - (m + 1))
                        case measure => omega
                        case rel => exact ⟨m + 1, by omega, by omega, by have := HG.out.2.1; first | go_num | exact congrArg (Value.int .i64) (by unfold wrap64; omega), by rw [HSL.out], ⟨by repeat (first | exact HB.out | apply below_alloc | apply pw_below_drewN | apply below_drew1)⟩, ⟨by (with_reducible repeat (first | apply Kd.R_alloc | apply Kd.R_drewN | apply Kd.R_drew)); exact HR.out⟩⟩
                      · have hlt2 : decide ((l : Int) < (sq : Int)) = false := decide_eq_false hlt
                        have HSL := Aside0.mk (HSS.out.trans (if_neg (by rw [hs2, hlt2]; simp)))
                        go_wp2
                        repeat (go_quiet (fail); try go_wp2)
                        go_roundg (l0_1.length - (m + 1))
                        case measure => omega
                        case rel => exact ⟨m + 1, by omega, by omega, by have := HG.out.2.1; first | go_num | exact congrArg (Value.int .i64) (by unfold wrap64; omega), by rw [HSL.out], ⟨by repeat (first | exact HB.out | apply below_alloc | apply pw_below_drewN | apply below_drew1)⟩, ⟨by (with_reducible repeat (first | apply Kd.R_alloc | apply Kd.R_drewN | apply Kd.R_drew)); exact HR.out⟩⟩
            · obtain rfl : m = l0_1.length := by omega
              have hmlz : ¬ ((l0_1.length : Int) < (l0_1.length : Int)) := by omega
              have h1 := HGO.out
              simp only [spGo] at h1
              rw [HKZ.out] at h1
              generalize spSel l0_0 l0_1 st a2 a kz l0_1.length = s at hsr h1 ⊢
              by_cases hs0 : s < 0
              · rw [if_pos hs0] at h1; cases h1
              · rw [if_neg hs0] at h1
                rcases hsr with hs | ⟨sq, hsq, hs⟩
                · omega
                · subst hs
                  rw [Int.toNat_natCast] at h1
                  obtain ⟨q2, hq2, hq3⟩ := Option.map_eq_some_iff.1 h1
                  have HQ2 := Aside0.mk hq2
                  have HQ3 := Aside0.mk hq3
                  have hsqz : (sq : Int) < (l0_0.length : Int) := by omega
                  obtain ⟨adc, e1, hc0, hc1⟩ := at_T86 HR0.out (sq : Int) (by omega) hsqz
                  cases e1
                  rw [show rd_T86 l0_0 (sq : Int) = l0_0.getD sq z86 from by simp [rd_T86], Int.toNat_natCast] at hc0
                  obtain ⟨ns, hns⟩ : ∃ x, (l0_0.getD sq z86).f0 = x := ⟨_, rfl⟩
                  rw [hns] at hc0 HQ3
                  replace hc0 := ((below_chain HBw.out HB.out).cell (World.block_lt_of_cell? w _ hc0)).trans hc0
                  have hm1 := HM1.out
                  clear h1 hq2 hq3 hc1 hns hs0
                  go_wp2_with ((with_reducible refine gate_builtin (b := .append) (xs := #[.tmp 100, .tmp 107]) rfl ?_); at_builtin; refine Kd.R_append (Kd.int .i64) (w0 := w5) w5.heap.size rfl (.tmp 100) (.tmp 107) 27 3 (.int .i64 0) 8 rfl Try.underlying27 info3 rfl (by decide) (by omega) u8 (ys) ns [.int .i64 ns] (fun _ => True) (fun _ => False) rfl rfl rfl (fun _ hk => hk.elim) (fun _ _ => trivial) ?aO ?aB ?aS ?aL ?_; (case aO => exact (by (with_reducible repeat (first | apply Kd.R_alloc | apply Kd.R_drewN | apply Kd.R_drew)); exact HR.out)); (case aB => exact (by repeat (first | exact HB.out | apply below_alloc | apply pw_below_drewN | apply below_drew1))); (case aS => exact below_size (by repeat (first | exact HB.out | apply below_alloc | apply pw_below_drewN | apply below_drew1))); (case aL => (first | (simp only [List.length_nil]; omega) | (have := HXL.out; omega))); intro v9 wk ho hb hg hat; have HB9 := Aside0.mk hb; have HR9 := Aside0.mk ho; clear hg hat ho hb)
                  go_roundg u
                  case measure => omega
                  case rel => exact ⟨sq, u, ys ++ [ns], q2, hsq, Nat.le_refl _, by omega, rfl, by have := HKZ.out; first | go_num | exact congrArg (Value.int .i64) (by omega), HQ2.out, by rw [← HT.out, ← HQ3.out]; simp, by have := HYU.out; simp; omega, HB9, HR9⟩
  · rw [if_neg hg] at H
    exact absurd H (by simp)

end Go.Proofs.Ytdiejmhphhdcfaa.Q
