-- Written by a program of this session (wip/xprint.py over the kit's printer).
import Derived.Test.YtdiejmhphhdcfaaQ0
import Derived.Test.YtdiejmhphhdcfaaQF128
import Derived.Test.YtdiejmhphhdcfaaQF133
import Derived.Test.YtdiejmhphhdcfaaQF61
import Derived.Test.YtdiejmhphhdcfaaQF67
import Derived.Test.YtdiejmhphhdcfaaQF76
import Derived.Test.YtdiejmhphhdcfaaQF79
import Derived.Test.YtdiejmhphhdcfaaQF80
import Derived.Test.YtdiejmhphhdcfaaQF81
import Derived.Test.YtdiejmhphhdcfaaQP
namespace Go.Proofs.Ytdiejmhphhdcfaa.Q
open Go.RowKit Go.Proofs.YtdiejmhphhdcfaaW.PrintWords Go.Proofs.YtdiejmhphhdcfaaW.PrintLast
set_option linter.unusedVariables false
set_option linter.unusedSimpArgs false

/-! ### impl_CloseRecord: function 30 -/
/-- A store into a block of another kind. -/
theorem OrdIn.store {w wr : World} {p N1 N2 n : Nat} {v : Value} {ns : List Int} {M1 M2 : Nat → Nat → Bool} (h : OrdIn w wr p N1 N2 n v ns M1 M2) {g t : Nat} {cells : Array Value} (hg : wr.heap[g]? = some (.cells cells t (0, 0))) (h0 : w.heap.size ≤ g) (t1 : t ≠ 91) (t2 : t ≠ 88) (t3 : t ≠ 4) (t4 : 3 ≠ t) (j : Nat) (u : Value) : OrdIn w (wr.setCell ⟨g, j, none⟩ u) p N1 N2 n v ns M1 M2 := by
  have ne : ∀ {b t' : Nat} {cs : Array Value}, wr.heap[b]? = some (.cells cs t' (0, 0)) → t ≠ t' → b ≠ g := by
    intro b t' cs hb ht e
    subst e
    rw [hg] at hb
    injection hb with hb
    injection hb with _ hb
    exact ht hb
  obtain ⟨c, hc⟩ := rowIs_block h.row
  obtain ⟨c1, hc1⟩ := rowIs_block h.m1.top
  obtain ⟨c2, hc2⟩ := rowIs_block h.m2.top
  refine ⟨below_set h.below h0, h.l0, h.l1, h.l2, h.row.setOther (ne hc t1) _, ⟨h.m1.top.setOther (ne hc1 t2) _, fun j hj => ?_⟩, ⟨h.m2.top.setOther (ne hc2 t2) _, fun j hj => ?_⟩, Kd.R_set h.ns hg (fun q hq => by
    rcases List.mem_cons.1 hq with rfl | hq
    · exact t4
    · exact (List.not_mem_nil (show q ∈ [] from hq)).elim) _ _⟩
  · obtain ⟨c3, hc3⟩ := rowIs_block (h.m1.row j hj)
    exact (h.m1.row j hj).setOther (ne hc3 t3) _
  · obtain ⟨c3, hc3⟩ := rowIs_block (h.m2.row j hj)
    exact (h.m2.row j hj).setOther (ne hc3 t3) _
def rowRels (cs : List S86) (M : Nat → Nat → Bool) (a k : Nat) : List S95 := ((List.range k).filter (M a)).map fun b => (⟨(cs.getD a z86).f0, (cs.getD b z86).f0⟩ : S95)
def closeTo (cs : List S86) (M : Nat → Nat → Bool) (i k : Nat) : List S95 := ((List.range i).flatMap fun a => rowRels cs M a cs.length) ++ rowRels cs M i k
theorem rowRels_succ (cs : List S86) (M : Nat → Nat → Bool) (a k : Nat) : rowRels cs M a (k + 1) = if M a k = true then rowRels cs M a k ++ [⟨(cs.getD a z86).f0, (cs.getD k z86).f0⟩] else rowRels cs M a k := by
  unfold rowRels
  rw [List.range_succ, List.filter_append, List.map_append]
  cases h : M a k <;> simp [h]
theorem closeTo_succ (cs : List S86) (M : Nat → Nat → Bool) (i k : Nat) : closeTo cs M i (k + 1) = if M i k = true then closeTo cs M i k ++ [⟨(cs.getD i z86).f0, (cs.getD k z86).f0⟩] else closeTo cs M i k := by
  unfold closeTo
  rw [rowRels_succ]
  split <;> simp [List.append_assoc]
theorem closeTo_row (cs : List S86) (M : Nat → Nat → Bool) (i : Nat) : closeTo cs M i cs.length = closeTo cs M (i + 1) 0 := by
  unfold closeTo
  rw [List.range_succ, List.flatMap_append]
  simp [rowRels]
theorem rowRels_le (cs : List S86) (M : Nat → Nat → Bool) (a k : Nat) : (rowRels cs M a k).length ≤ k := by
  unfold rowRels
  rw [List.length_map]
  exact Nat.le_trans (List.length_filter_le _ _) (by simp)
theorem closeTo_le (cs : List S86) (M : Nat → Nat → Bool) (i k : Nat) (hn : cs.length ≤ 10) : (closeTo cs M i k).length ≤ i * 10 + k := by
  have h : ∀ i, (((List.range i).flatMap fun a => rowRels cs M a cs.length)).length ≤ i * 10 := by
    intro i
    induction i with
    | zero => simp
    | succ i ih =>
      rw [List.range_succ, List.flatMap_append, List.length_append]
      have := rowRels_le cs M i cs.length
      simp only [List.flatMap_cons, List.flatMap_nil, List.append_nil]
      omega
  unfold closeTo
  rw [List.length_append]
  have := h i
  have := rowRels_le cs M i k
  omega
def closeAll (cs : List S86) (M : Nat → Nat → Bool) : List S95 := closeTo cs M cs.length 0
def impl_CloseRecord.f (l0_0 : List S86) (l0_1 : List S95) : Option (List S86 × List S95 × Bool) := some (if goodB l0_0 l0_1 && consB l0_0.length (lat l0_0 l0_1) && goodB l0_0 (closeAll l0_0 (lat l0_0 l0_1)) then (l0_0, closeAll l0_0 (lat l0_0 l0_1), true) else ([], [], false))
def impl_CloseRecord.T12 : Bool × List (List Nat × List Nat) := (true, [([], []), ([0], [0]), ([], []), ([2], [2]), ([3], [3]), ([4], [4]), ([], []), ([5, 6], [5, 6]), ([7], [7]), ([], []), ([9], [9]), ([10], [10]), ([11], [11]), ([], []), ([12, 13], [12, 13]), ([14], [14]), ([8, 15], [8, 15]), ([16], [16]), ([1, 17], [1, 17]), ([0, 1, 2, 3, 4, 5, 6, 7, 8, 9, 10, 11, 12, 13, 14, 15, 16, 17, 18], []), ([19, 18, 18, 0, 1, 2, 3, 4, 5, 6, 7, 8, 9, 10, 11, 12, 13, 14, 15, 16, 17, 18], [18, 19])])
def impl_CloseRecord.B12 : List Nat := [0, 1, 0, 4, 12, 28, 0, 124, 252, 0, 512, 1536, 3584, 0, 15872, 32256, 65532, 131068, 262143, 524287, 1048575]
theorem impl_CloseRecord.tab12 : rtab .any (opsOf Try.f30 12) = impl_CloseRecord.T12 := by kernel_rfl
theorem impl_CloseRecord.bits12 : waitsOk impl_CloseRecord.T12.2 impl_CloseRecord.B12 = true := by kernel_rfl
set_option maxHeartbeats 8000000 in
set_option maxRecDepth 100000 in
theorem impl_CloseRecord.calls (A0_0 : Option Addr) (c0_0 : Nat) (l0_0 : List S86) (A0_1 : Option Addr) (c0_1 : Nat) (l0_1 : List S95) (r1 : List S86) (r2 : List S95) (r3 : Bool) (w : World) (hr0_0 : Kd.C k86 w A0_0 l0_0.length l0_0) (hc0_0 : l0_0.length ≤ c0_0) (hr0_1 : Kd.C k95 w A0_1 l0_1.length l0_1) (hc0_1 : l0_1.length ≤ c0_1) (h : impl_CloseRecord.f l0_0 l0_1 = some (r1, r2, r3)) :
    Calls Try.prog 30 #[.agg #[.slice A0_0 l0_0.length c0_0, .slice A0_1 l0_1.length c0_1]] w fun e w' => ∃ v0_ v1_ : Value, e = .returned (.tuple #[.agg #[v0_, v1_], .bool r3]) ∧ Kd.R k86 86 w' w.heap.size (fun _ => True) v0_ r1 ∧ Kd.R k95 95 w' w.heap.size (fun _ => True) v1_ r2 ∧ Below w.heap.size w w' := by
  have H := Option.some.inj h
  clear h
  have HR0 := Aside0.mk hr0_0
  have HR1 := Aside0.mk hr0_1
  have HC0 := Aside0.mk hc0_0
  have HC1 := Aside0.mk hc0_1
  clear hr0_0 hr0_1 hc0_0 hc0_1
  obtain ⟨wb, hwb⟩ : ∃ wb, ((w).alloc (.cells #[.slice A0_0 l0_0.length c0_0, .slice A0_1 l0_1.length c0_1] 33 (0, 0))).alloc (.cells #[.slice none 0 0, .slice none 0 0] 33 (0, 0)) = wb := ⟨_, rfl⟩
  have HBw := Aside0.mk (show Below w.heap.size w wb from by rw [← hwb]; repeat (first | exact Below.refl _ _ | apply below_alloc))
  have HWB := HBw
  have hhr : wb.heap[w.heap.size]? = some (.cells #[.slice A0_0 l0_0.length c0_0, .slice A0_1 l0_1.length c0_1] 33 (0, 0)) := by rw [← hwb]; have h := blk_new (w) (.cells #[.slice A0_0 l0_0.length c0_0, .slice A0_1 l0_1.length c0_1] 33 (0, 0)); rw [show (w).heap.size = w.heap.size from by rfl] at h; exact blk_alloc (h) _
  have hb0 : wb.cell? ⟨w.heap.size, 0, none⟩ = some (.slice A0_0 l0_0.length c0_0) := (blk_cell hhr 0).trans rfl
  have hb1 : wb.cell? ⟨w.heap.size, 1, none⟩ = some (.slice A0_1 l0_1.length c0_1) := (blk_cell hhr 1).trans rfl
  have hh0 : wb.heap[w.heap.size + 1]? = some (.cells #[.slice none 0 0, .slice none 0 0] 33 (0, 0)) := by rw [← hwb]; have h := blk_new ((w).alloc (.cells #[.slice A0_0 l0_0.length c0_0, .slice A0_1 l0_1.length c0_1] 33 (0, 0))) (.cells #[.slice none 0 0, .slice none 0 0] 33 (0, 0)); rw [show ((w).alloc (.cells #[.slice A0_0 l0_0.length c0_0, .slice A0_1 l0_1.length c0_1] 33 (0, 0))).heap.size = w.heap.size + 1 from by simp] at h; exact h
  have hx0 : wb.cell? ⟨w.heap.size + 1, 0, none⟩ = some (.slice none 0 0) := (blk_cell hh0 0).trans rfl
  have hx0_1 : wb.cell? ⟨w.heap.size + 1, 1, none⟩ = some (.slice none 0 0) := (blk_cell hh0 1).trans rfl
  have hbs : w.heap.size + 1 < wb.heap.size := blk_lt hh0
  have HW := Aside0.mk hwb
  clear hwb
  clear hhr
  obtain ⟨b, hb⟩ : ∃ b, goodB l0_0 l0_1 = b := ⟨_, rfl⟩
  rw [hb] at H
  have HGB := Aside0.mk hb
  have hf1 := blk_frozen hh0 0
  have hf2 := blk_frozen hh0 1
  cases b with
  | false =>
    clear hb
    injection H with H1 H2
    injection H2 with H2 H3
    subst H1; subst H2; subst H3
    go_enter Try.func30, Try.ntmps30
    go_upto_region 1 with (fail)
    try rw [HW.out]
    clear HW
    go_upto_region 2 with (go_at_call 79; (refine (impl_readConsistent.bad _ _ l0_0 _ _ l0_1 _ (Kd.C_below HR0.out (by repeat (first | exact HBw.out | exact Below.refl _ _ | apply below_alloc | apply pw_below_drewN | apply below_drew1))) HC0.out (Kd.C_below HR1.out (by repeat (first | exact HBw.out | exact Below.refl _ _ | apply below_alloc | apply pw_below_drewN | apply below_drew1))) HC1.out HGB.out).mono ?_); rintro e w1 ⟨rfl, hb⟩; have HBw : Aside0 (Below w.heap.size w w1) := Aside0.mk (below_chain (w := w) (by repeat (first | exact HBw.out | exact Below.refl _ _ | apply below_alloc | apply pw_below_drewN | apply below_drew1)) hb); have hb0 := pw_cell_below hb hb0; have hb1 := pw_cell_below hb hb1; have hx0 := pw_cell_below hb hx0; have hx0_1 := pw_cell_below hb hx0_1; have hh0 := blk_below hh0 hb; clear hf1 hf2; have hf1 := blk_frozen hh0 0; have hf2 := blk_frozen hh0 1; clear hb)
    go_wp2
    refine bodyPost_ret (results_ct rfl _ _ (w.heap.size + 1) 33 #[.slice none 0 0, .slice none 0 0] (0, 0) _ rfl (blk_put (blk_put hh0 0 _ rfl) 1 _ rfl) Try.underlying33 rfl (by kernel_rfl)) rfl ?_
    exact ⟨_, _, rfl, Kd.R_nil _ _ _ _ _, Kd.R_nil _ _ _ _ _, by repeat (first | exact HBw.out | refine below_set ?_ (by show w.heap.size ≤ w.heap.size + 1; omega))⟩
  | true =>
    have HG := Aside0.mk (goodB_parts hb)
    clear hb
    obtain ⟨b2, hb2⟩ : ∃ b, consB l0_0.length (lat l0_0 l0_1) = b := ⟨_, rfl⟩
    rw [hb2] at H
    have HCB := Aside0.mk hb2
    clear hb2
    cases b2 with
    | false =>
      injection H with H1 H2
      injection H2 with H2 H3
      subst H1; subst H2; subst H3
      go_enter Try.func30, Try.ntmps30
      go_upto_region 1 with (fail)
      try rw [HW.out]
      clear HW
      go_upto_region 2 with (go_at_call 79; (refine (impl_readConsistent.calls _ _ l0_0 _ _ l0_1 _ (Kd.C_below HR0.out (by repeat (first | exact HBw.out | exact Below.refl _ _ | apply below_alloc | apply pw_below_drewN | apply below_drew1))) HC0.out (Kd.C_below HR1.out (by repeat (first | exact HBw.out | exact Below.refl _ _ | apply below_alloc | apply pw_below_drewN | apply below_drew1))) HC1.out HGB.out).mono ?_); rintro e w1 ⟨p, rfl, N1, N2, A, c, HO⟩; rw [HCB.out]; have hb := HO.below; have HBw : Aside0 (Below w.heap.size w w1) := Aside0.mk (below_chain (w := w) (by repeat (first | exact HBw.out | exact Below.refl _ _ | apply below_alloc | apply pw_below_drewN | apply below_drew1)) hb); have hb0 := pw_cell_below hb hb0; have hb1 := pw_cell_below hb hb1; have hx0 := pw_cell_below hb hx0; have hx0_1 := pw_cell_below hb hx0_1; have hh0 := blk_below hh0 hb; clear hf1 hf2; have hf1 := blk_frozen hh0 0; have hf2 := blk_frozen hh0 1; clear hb HO)
      go_wp2
      refine bodyPost_ret (results_ct rfl _ _ (w.heap.size + 1) 33 #[.slice none 0 0, .slice none 0 0] (0, 0) _ rfl (blk_put (blk_put hh0 0 _ rfl) 1 _ rfl) Try.underlying33 rfl (by kernel_rfl)) rfl ?_
      exact ⟨_, _, rfl, Kd.R_nil _ _ _ _ _, Kd.R_nil _ _ _ _ _, by repeat (first | exact HBw.out | refine below_set ?_ (by show w.heap.size ≤ w.heap.size + 1; omega))⟩
    | true =>
      have AC := Aside0.mk (show impl_Context_80.f l0_0 = some l0_0 from by
        have h1 := HG.out.1
        unfold impl_Context_80.f
        exact if_pos (by omega))
      have HF := Aside0.mk H
      have HRS := Aside0.mk hh0
      have HN := Aside0.mk HG.out.1
      clear H hf1 hf2 hx0 hx0_1 hh0
      go_enter Try.func30, Try.ntmps30
      go_upto_region 1 with (fail)
      try rw [HW.out]
      clear HW
      go_upto_region 4 with (go_at_call 79; (refine (impl_readConsistent.calls _ _ l0_0 _ _ l0_1 _ (Kd.C_below HR0.out (by repeat (first | exact HBw.out | exact Below.refl _ _ | apply below_alloc | apply pw_below_drewN | apply below_drew1))) HC0.out (Kd.C_below HR1.out (by repeat (first | exact HBw.out | exact Below.refl _ _ | apply below_alloc | apply pw_below_drewN | apply below_drew1))) HC1.out HGB.out).mono ?_); rintro e w1 ⟨p, rfl, N1, N2, A, c, HO⟩; rw [HCB.out]; have hb := HO.below; have HBw : Aside0 (Below w.heap.size w w1) := Aside0.mk (below_chain (w := w) (by repeat (first | exact HBw.out | exact Below.refl _ _ | apply below_alloc | apply pw_below_drewN | apply below_drew1)) hb); have hb0 := pw_cell_below hb hb0; have hb1 := pw_cell_below hb hb1; have HOA := Aside0.mk HO; have HRS := Aside0.mk (blk_below HRS.out hb); clear hb HO)
      obtain ⟨wo, HOB⟩ : ∃ wo, Aside0 (OrdIn wo w1 p N1 N2 l0_0.length (.slice A l0_0.length c) (nums l0_0) (abv l0_0 l0_1) (lat l0_0 l0_1)) := ⟨_, HOA⟩
      clear HOA
      generalize lat l0_0 l0_1 = M at HOB HF
      go_upto_region 5 with (go_at_call 80; (with_reducible refine (impl_Context_80.calls _ _ l0_0 l0_0 _ (Kd.C_below HR0.out (by repeat (first | exact HBw.out | exact Below.refl _ _ | apply below_alloc | apply pw_below_drewN | apply below_drew1))) HC0.out AC.out).mono ?_); rintro e w2 ⟨v0, rfl, hR, hb⟩; obtain ⟨D0, d0, rfl, hd0, hC0⟩ := Kd.R_reads hR; have HRc := Aside0.mk (Kd.R_lower hR HBw.out.size); have HBw : Aside0 (Below w.heap.size w w2) := Aside0.mk (below_chain (w := w) (by repeat (first | exact HBw.out | exact Below.refl _ _ | apply below_alloc | apply pw_below_drewN | apply below_drew1)) hb); have hb0 := pw_cell_below hb hb0; have hb1 := pw_cell_below hb hb1; have HRS := Aside0.mk (blk_below HRS.out hb); have HOB := Aside0.mk (HOB.out.step hb); clear hb hR hd0 hC0)
      obtain ⟨bo, hbo⟩ : ∃ g, w2.heap.size = g := ⟨_, rfl⟩
      have HBO := Aside0.mk (below_alloc (Below.refl w2.heap.size w2) (.cells #[.slice D0 l0_0.length d0, .slice none 0 0] 33 (0, 0)))
      have BO := Aside0.mk (blk_new w2 (.cells #[.slice D0 l0_0.length d0, .slice none 0 0] 33 (0, 0)))
      have HSZ := Aside0.mk HBw.out.size
      have HSO := Aside0.mk HOB.out.below.size
      have HNE := Aside0.mk (blk_lt HRS.out)
      generalize w2.alloc (.cells #[.slice D0 l0_0.length d0, .slice none 0 0] 33 (0, 0)) = w3 at HBO BO ⊢
      rw [hbo] at BO HSZ HSO HNE
      try rw [hbo]
      have HB := Aside0.mk (below_chain HBw.out HBO.out)
      have HO := Aside0.mk (HOB.out.step HBO.out)
      have HC := Aside0.mk (Kd.R_below HRc.out HBO.out)
      have HZ := Aside0.mk (blk_below HRS.out HBO.out)
      have HL := Aside0.mk (show Kd.R k95 95 w3 bo (fun _ => True) (.slice none 0 0) (closeTo l0_0 M 0 0) from Kd.R_nil _ _ _ _ _)
      clear hbo HBO HBw HOB HRc HRS hb0 hb1
      have g0 := HO.out.c2
      go_upto_region 6 with (fail)
      clear g0
      go_loopg [7, 8, 9, 10, 28] l0_0.length (fun gg _ _ _ _ s28 wr => ∃ (i : Nat) (v : Value), i ≤ l0_0.length ∧ l0_0.length - i ≤ gg ∧ s28 = .int .i64 i ∧ Aside0 (Below w.heap.size w wr) ∧ Aside0 (OrdIn wo wr p N1 N2 l0_0.length (.slice A l0_0.length c) (nums l0_0) (abv l0_0 l0_1) M) ∧ Aside0 (Kd.R k86 86 wr w.heap.size (fun _ => True) (.slice D0 l0_0.length d0) l0_0) ∧ Aside0 (wr.heap[w.heap.size + 1]? = some (.cells #[.slice none 0 0, .slice none 0 0] 33 (0, 0))) ∧ Aside0 (wr.heap[bo]? = some (.cells #[.slice D0 l0_0.length d0, v] 33 (0, 0))) ∧ Aside0 (Kd.R k95 95 wr bo (fun _ => True) v (closeTo l0_0 M i 0)))
      case atStart => exact ⟨0, _, Nat.zero_le _, by omega, rfl, HB, HO, HC, HZ, BO, HL⟩
      case round =>
        clear HB HO HC HZ BO HL
        obtain ⟨i, v, hi, hgg, rfl, HB, HO, HC, HZ, BO, HL⟩ := hrel
        by_cases hil : i < l0_0.length
        · have hilz : (i : Int) < (l0_0.length : Int) := by omega
          have g2 := HO.out.m2.topc hil
          go_upto_region 9 with (fail)
          clear g2
          go_loopg [9, 10, 35] l0_0.length (fun gg _ _ s35 wr => ∃ (k : Nat) (v : Value), k ≤ l0_0.length ∧ l0_0.length - k ≤ gg ∧ s35 = .int .i64 k ∧ Aside0 (Below w.heap.size w wr) ∧ Aside0 (OrdIn wo wr p N1 N2 l0_0.length (.slice A l0_0.length c) (nums l0_0) (abv l0_0 l0_1) M) ∧ Aside0 (Kd.R k86 86 wr w.heap.size (fun _ => True) (.slice D0 l0_0.length d0) l0_0) ∧ Aside0 (wr.heap[w.heap.size + 1]? = some (.cells #[.slice none 0 0, .slice none 0 0] 33 (0, 0))) ∧ Aside0 (wr.heap[bo]? = some (.cells #[.slice D0 l0_0.length d0, v] 33 (0, 0))) ∧ Aside0 (Kd.R k95 95 wr bo (fun _ => True) v (closeTo l0_0 M i k)))
          case atStart => exact ⟨0, _, Nat.zero_le _, by omega, rfl, HB, HO, HC, HZ, BO, HL⟩
          case round =>
            clear HB HO HC HZ BO HL
            obtain ⟨k, v, hk, hgg2, rfl, HB, HO, HC, HZ, BO, HL⟩ := hrel
            by_cases hkl : k < l0_0.length
            · have hklz : (k : Int) < (l0_0.length : Int) := by omega
              have g3 := HO.out.m2.cell hil hkl
              have HS := closeTo_succ l0_0 M i k
              obtain ⟨mb, hmb⟩ : ∃ x, M i k = x := ⟨_, rfl⟩
              rw [hmb] at g3 HS
              clear hmb
              cases mb with
              | false =>
                rw [if_neg (by simp)] at HS
                have HSA := Aside0.mk HS
                clear HS
                go_wp2
                go_roundg (l0_0.length - (k + 1))
                case measure => omega
                case rel => exact ⟨k + 1, v, by omega, by omega, by first | go_num | exact congrArg (Value.int .i64) (wrap_succ k (by have := HN.out; omega)), HB, HO, HC, HZ, BO, by rw [HSA.out]; exact HL⟩
              | true =>
                rw [if_pos rfl] at HS
                have HSA := Aside0.mk HS
                clear HS
                obtain ⟨nl, hnl⟩ : ∃ l, nums l0_0 = l := ⟨_, rfl⟩
                have HCN := Aside0.mk (show Kd.C (Kd.int .i64) wr A l0_0.length (nums l0_0) from by have h := (Kd.R_reads' HO.out.ns).2.2; rw [nums_length] at h; exact h)
                obtain ⟨ad, ea, hx1⟩ := Kd.at_int HCN.out (i : Int) (by omega) hilz
                obtain ⟨ad', eb, hx2⟩ := Kd.at_int HCN.out (k : Int) (by omega) hklz
                subst ea
                obtain rfl := Option.some.inj eb
                rw [rd_nums l0_0 i hil, Int.toNat_natCast] at hx1
                rw [rd_nums l0_0 k hkl, Int.toNat_natCast] at hx2
                obtain ⟨y0, hy0⟩ : ∃ y, (l0_0.getD i z86).f0 = y := ⟨_, rfl⟩
                obtain ⟨y1, hy1⟩ : ∃ y, (l0_0.getD k z86).f0 = y := ⟨_, rfl⟩
                rw [hy0] at hx1 HSA
                rw [hy1] at hx2 HSA
                clear hy0 hy1 hnl nl HCN eb
                go_upto_region 12 with (fail)
                have HS0 := Aside0.mk (show (fun w' : World => w'.cell? ⟨bo, 1, none⟩ = some v ∧ w'.cell? ⟨p, 0, none⟩ = some (.slice (some ad) l0_0.length c) ∧ w'.cell? (ad.add i) = some (.int .i64 y0) ∧ w'.cell? (ad.add k) = some (.int .i64 y1) ∧ Aside0 (Below w.heap.size w w') ∧ Aside0 (OrdIn wo w' p N1 N2 l0_0.length (.slice (some ad) l0_0.length c) (nums l0_0) (abv l0_0 l0_1) M) ∧ Aside0 (Kd.R k86 86 w' w.heap.size (fun _ => True) (.slice D0 l0_0.length d0) l0_0) ∧ Aside0 (w'.heap[w.heap.size + 1]? = some (.cells #[.slice none 0 0, .slice none 0 0] 33 (0, 0))) ∧ Aside0 (w'.heap[bo]? = some (.cells #[.slice D0 l0_0.length d0, v] 33 (0, 0))) ∧ Aside0 (Kd.R k95 95 w' bo (fun _ => True) v (closeTo l0_0 M i k))) wr.drew from ⟨(blk_cell (blk_drew BO.out) 1).trans rfl, HO.out.drew.c0, hx1, hx2, ⟨below_drew1 HB.out⟩, ⟨HO.out.drew⟩, ⟨Kd.R_drew HC.out⟩, ⟨blk_drew HZ.out⟩, ⟨blk_drew BO.out⟩, ⟨Kd.R_drew HL.out⟩⟩)
                clear g3 hx1 hx2 HB HO HC HZ BO HL
                all_goals refine start_ (n := 21) (S := (fun w' => w'.cell? ⟨bo, 1, none⟩ = some v ∧ w'.cell? ⟨p, 0, none⟩ = some (.slice (some ad) l0_0.length c) ∧ w'.cell? (ad.add i) = some (.int .i64 y0) ∧ w'.cell? (ad.add k) = some (.int .i64 y1) ∧ Aside0 (Below w.heap.size w w') ∧ Aside0 (OrdIn wo w' p N1 N2 l0_0.length (.slice (some ad) l0_0.length c) (nums l0_0) (abv l0_0 l0_1) M) ∧ Aside0 (Kd.R k86 86 w' w.heap.size (fun _ => True) (.slice D0 l0_0.length d0) l0_0) ∧ Aside0 (w'.heap[w.heap.size + 1]? = some (.cells #[.slice none 0 0, .slice none 0 0] 33 (0, 0))) ∧ Aside0 (w'.heap[bo]? = some (.cells #[.slice D0 l0_0.length d0, v] 33 (0, 0))) ∧ Aside0 (Kd.R k95 95 w' bo (fun _ => True) v (closeTo l0_0 M i k)))) (ds := [18, 20]) (bl 0 21) (by kernel_rfl) rfl rfl HS0.out (fun hHeld => ?_); refine with_tabW impl_CloseRecord.tab12 impl_CloseRecord.bits12 (fun HT_ HW_ => ?_)
                all_goals generalize wr.drew = wv at hHeld ⊢
                all_goals first | refine pA_ 0 (some 41) (bl 1 21) HT_.out (h := ?_) | refine pO_ 0 (some 41) (bl 1 21) HT_.out (h := ?_)
                all_goals first | refine pA_ 2 (some 43) (bx 1 [2] 21) HT_.out (h := ?_) | refine pO_ 2 (some 43) (bx 1 [2] 21) HT_.out (h := ?_)
                all_goals first | refine pA_ 3 (some 44) (bx 1 [2, 3] 21) HT_.out (h := ?_) | refine pO_ 3 (some 44) (bx 1 [2, 3] 21) HT_.out (h := ?_)
                all_goals first | refine pA_ 4 (some 45) (bx 1 [2, 3, 4] 21) HT_.out (h := ?_) | refine pO_ 4 (some 45) (bx 1 [2, 3, 4] 21) HT_.out (h := ?_)
                all_goals first | refine pA_ 6 (some 47) (bx 1 [2, 3, 4, 6] 21) HT_.out (h := ?_) | refine pO_ 6 (some 47) (bx 1 [2, 3, 4, 6] 21) HT_.out (h := ?_)
                all_goals first | refine pA_ 9 (some 50) (bx 1 [2, 3, 4, 6, 9] 21) HT_.out (h := ?_) | refine pO_ 9 (some 50) (bx 1 [2, 3, 4, 6, 9] 21) HT_.out (h := ?_)
                all_goals first | refine pA_ 10 (some 51) (bx 1 [2, 3, 4, 6, 9, 10] 21) HT_.out (h := ?_) | refine pO_ 10 (some 51) (bx 1 [2, 3, 4, 6, 9, 10] 21) HT_.out (h := ?_)
                all_goals first | refine pA_ 11 (some 52) (bx 1 [2, 3, 4, 6, 9, 10, 11] 21) HT_.out (h := ?_) | refine pO_ 11 (some 52) (bx 1 [2, 3, 4, 6, 9, 10, 11] 21) HT_.out (h := ?_)
                all_goals first | refine pA_ 13 (some 54) (bx 1 [2, 3, 4, 6, 9, 10, 11, 13] 21) HT_.out (h := ?_) | refine pO_ 13 (some 54) (bx 1 [2, 3, 4, 6, 9, 10, 11, 13] 21) HT_.out (h := ?_)
                all_goals first | refine tA_ 1 (some 42) (bx 5 [6, 9, 10, 11, 13] 21) HT_.out HW_.out hHeld (h := ?_) | refine pO_ 1 (some 42) (bx 5 [6, 9, 10, 11, 13] 21) HT_.out (h := ?_)
                all_goals first | refine tA_ 5 (some 46) (bx 7 [9, 10, 11, 13] 21) HT_.out HW_.out hHeld (h := ?_) | refine pO_ 5 (some 46) (bx 7 [9, 10, 11, 13] 21) HT_.out (h := ?_)
                all_goals first | refine pA_ 7 (some 48) (bx 8 [9, 10, 11, 13] 21) HT_.out (h := ?_) | refine pO_ 7 (some 48) (bx 8 [9, 10, 11, 13] 21) HT_.out (h := ?_)
                all_goals first | refine tA_ 8 (some 49) (bx 12 [13] 21) HT_.out HW_.out hHeld (h := ?_) | refine pO_ 8 (some 49) (bx 12 [13] 21) HT_.out (h := ?_)
                all_goals first | refine tA_ 12 (some 53) (bl 14 21) HT_.out HW_.out hHeld (h := ?_) | refine pO_ 12 (some 53) (bl 14 21) HT_.out (h := ?_)
                all_goals first | refine pA_ 14 (some 55) (bl 15 21) HT_.out (h := ?_) | refine pO_ 14 (some 55) (bl 15 21) HT_.out (h := ?_)
                all_goals first | refine tA_ 15 (some 56) (bl 16 21) HT_.out HW_.out hHeld (h := ?_) | refine pO_ 15 (some 56) (bl 16 21) HT_.out (h := ?_)
                all_goals first | refine pA_ 16 (some 57) (bl 17 21) HT_.out (h := ?_) | refine pO_ 16 (some 57) (bl 17 21) HT_.out (h := ?_)
                all_goals (refine one_ (i := 17) (N := some 58) (bl 18 21) rfl rfl (one_of HT_.out (by kernel_rfl)) (by decide) (fun K hK => ?_); have HV := hHeld.2.2.2.2; refine value_ (by rfl) rfl (by go_simp; constructor; rfl; rfl) ?_; skip; refine hK.out _ _ ⟨pw_cell_below (below_alloc (Below.refl _ _) _) hHeld.1, pw_cell_below (below_alloc (Below.refl _ _) _) hHeld.2.1, pw_cell_below (below_alloc (Below.refl _ _) _) hHeld.2.2.1, pw_cell_below (below_alloc (Below.refl _ _) _) hHeld.2.2.2.1, ⟨below_chain hHeld.2.2.2.2.1.out (below_alloc (Below.refl _ _) _)⟩, ⟨hHeld.2.2.2.2.2.1.out.step (below_alloc (Below.refl _ _) _)⟩, ⟨Kd.R_below hHeld.2.2.2.2.2.2.1.out (below_alloc (Below.refl _ _) _)⟩, ⟨blk_below hHeld.2.2.2.2.2.2.2.1.out (below_alloc (Below.refl _ _) _)⟩, ⟨blk_below hHeld.2.2.2.2.2.2.2.2.1.out (below_alloc (Below.refl _ _) _)⟩, ⟨Kd.R_below hHeld.2.2.2.2.2.2.2.2.2.out (below_alloc (Below.refl _ _) _)⟩⟩ (fun hHeld => ?_); clear hK K; refine norm_ (a' := ?_) ?_ ?_; rotate_left; focus (show Act.put _ (some 58) _ = _; simp only [Act.put, List.setIfInBounds_toArray, List.set_cons_zero, List.set_cons_succ, i64_w, i32_w]; rfl))
                all_goals (refine last_ (i := 18) (N := some 59) (bl 19 21) rfl rfl (one_of HT_.out (by kernel_rfl)) (by decide) (fun K hK => ?_); refine Kd.R_append_step k95 (w0 := wv) bo (by rfl) (.tmp 42) (.tmp 58) 31 95 (.agg #[(.int .i64 0), (.int .i64 0)]) 16 rfl Try.underlying31 info95 rfl (by decide) (by omega) v (closeTo l0_0 M i k) (⟨y0, y1⟩ : S95) [.int .i64 y0, .int .i64 y1] (fun _ => True) (fun _ => False) rfl rfl (k95_mkM _ _ _ (⟨y0, y1⟩ : S95)) (fun _ hk => hk.elim) (fun _ _ => trivial) ?aO (Below.refl _ _) ?aS ?aL ?_; (case aO => exact HV.2.2.2.2.2.out); (case aS => exact Nat.le_of_lt (blk_lt HV.2.2.2.2.1.out)); (case aL => have h1 := closeTo_le l0_0 M i k HN.out; have h2 := HN.out; omega); intro v1 w1 ho hb hg hat; obtain ⟨D1, d1, he1, hd1, hC1⟩ := Kd.R_reads ho; obtain ⟨n1, hn1⟩ : ∃ n, n = (closeTo l0_0 M i k ++ [(⟨y0, y1⟩ : S95)]).length := ⟨_, rfl⟩; obtain rfl : v1 = .slice D1 n1 d1 := he1.trans (by rw [hn1]); have BO1 := blk_grown HV.2.2.2.2.1.out hg (Kd.R_ne HV.2.2.2.2.2.out HV.2.2.2.2.1.out (by decide)); have hcp := (blk_cell BO1 1).trans rfl; have hfp := blk_frozen BO1 1; have AB := Aside0.mk (below_set (below_of_grown HV.1.out hg (fun b hb => Nat.le_trans HSZ.out (Kd.R_base HV.2.2.2.2.2.out b hb))) (j := 1) (v := .slice D1 n1 d1) HSZ.out); have AO := Aside0.mk (OrdIn.store (OrdIn.other HV.2.1.out HV.2.2.2.2.2.out HSO.out hg (by decide) (by decide) (by decide) (by decide)) BO1 HSO.out (by decide) (by decide) (by decide) (by decide) 1 (.slice D1 n1 d1)); have ACC := Aside0.mk (Kd.R_set (Kd.R_grown2 HV.2.2.1.out rfl hg (rows_ne HV.2.2.2.2.2.out HV.2.2.1.out (by decide))) BO1 (by decide) 1 (.slice D1 n1 d1)); have AZ := Aside0.mk ((Below.heap_setCell w1 ⟨bo, 1, none⟩ (.slice D1 n1 d1) (w.heap.size + 1) (by show w.heap.size + 1 ≠ bo; have := HNE.out; omega)).trans (blk_grown HV.2.2.2.1.out hg (Kd.R_ne HV.2.2.2.2.2.out HV.2.2.2.1.out (by decide)))); have ABO := Aside0.mk (blk_put BO1 1 (.slice D1 n1 d1) rfl); have AL := Aside0.mk (Kd.R_set ho BO1 (by decide) 1 (.slice D1 n1 d1)); clear hn1 he1 hd1 hC1 hat hg hb ho HV BO1; refine hK.out _ _ ?_; clear hK K; refine norm_ (a' := ?_) ?_ ?_; rotate_left; focus (show Act.put _ (some 59) _ = _; simp only [Act.put, List.setIfInBounds_toArray, List.set_cons_zero, List.set_cons_succ, i64_w, i32_w]; rfl))
                all_goals first | refine pA_ 19 (some 60) (bl 20 21) HT_.out (h := ?_) | refine pO_ 19 (some 60) (bl 20 21) HT_.out (h := ?_)
                all_goals (refine last_ (i := 20) (N := none) (bl 21 21) rfl rfl (one_of HT_.out (by kernel_rfl)) (by decide) (fun K hK => ?_); refine skip_ (by rfl) rfl (by go_simp; rfl) ?_; refine hK.out _ _ ?_; clear hK K)
                all_goals refine done_ (done_of HT_.out (by kernel_rfl)) ?_
                go_wp2
                go_roundg (l0_0.length - (k + 1))
                case measure => omega
                case rel => exact ⟨k + 1, _, by omega, by omega, by first | go_num | exact congrArg (Value.int .i64) (wrap_succ k (by have := HN.out; omega)), AB, AO, ACC, AZ, ABO, by rw [HSA.out]; exact AL⟩
            · obtain rfl : k = l0_0.length := by omega
              have hkz : ¬ ((l0_0.length : Int) < (l0_0.length : Int)) := by omega
              have HRW := Aside0.mk (closeTo_row l0_0 M i)
              go_wp2
              go_roundg (l0_0.length - (i + 1))
              case measure => omega
              case rel => exact ⟨i + 1, v, by omega, by omega, by first | go_num | exact congrArg (Value.int .i64) (wrap_succ i (by have := HN.out; omega)), HB, HO, HC, HZ, BO, by rw [← HRW.out]; exact HL⟩
        · obtain rfl : i = l0_0.length := by omega
          have hkz : ¬ ((l0_0.length : Int) < (l0_0.length : Int)) := by omega
          have HL := Aside0.mk (show Kd.R k95 95 wr bo (fun _ => True) v (closeAll l0_0 M) from HL.out)
          generalize closeAll l0_0 M = cl at HL HF
          obtain ⟨Dv, dv, rfl, hdv, hCv⟩ := Kd.R_reads HL.out
          have HCv := Aside0.mk hCv
          have HDv := Aside0.mk hdv
          have q0 := (blk_cell BO.out 0).trans rfl
          have q1 := (blk_cell BO.out 1).trans rfl
          obtain ⟨gb, hgb⟩ : ∃ b, goodB l0_0 cl = b := ⟨_, rfl⟩
          rw [hgb] at HF
          have HGC := Aside0.mk hgb
          have HFF := HF.out
          clear hdv hCv hgb HF
          cases gb with
          | false =>
            injection HFF with H1 H2
            injection H2 with H2 H3
            subst H1; subst H2; subst H3
            go_upto_region 16 with (go_at_call 81; (refine (impl_ifRecord.calls _ _ l0_0 _ _ cl _ (Kd.R_reads' HC.out).2.2 (Kd.R_reads' HC.out).2.1 HCv.out HDv.out).mono ?_); rintro e w5 ⟨rfl, hb⟩; rw [HGC.out]; have HB5 := Aside0.mk (below_chain HB.out hb); have hh0 := blk_below HZ.out hb; have hx0 := (blk_cell hh0 0).trans rfl; have hx1 := (blk_cell hh0 1).trans rfl; have hf1 := blk_frozen hh0 0; have hf2 := blk_frozen hh0 1; clear hb)
            go_wp2
            refine bodyPost_ret (results_ct rfl _ _ (w.heap.size + 1) 33 #[.slice none 0 0, .slice none 0 0] (0, 0) _ rfl (blk_put (blk_put hh0 0 _ rfl) 1 _ rfl) Try.underlying33 rfl (by kernel_rfl)) rfl ?_
            exact ⟨_, _, rfl, Kd.R_nil _ _ _ _ _, Kd.R_nil _ _ _ _ _, below_set (below_set HB5.out (by omega)) (by omega)⟩
          | true =>
            injection HFF with H1 H2
            injection H2 with H2 H3
            subst H1; subst H2; subst H3
            go_upto_region 16 with (go_at_call 81; (refine (impl_ifRecord.calls _ _ l0_0 _ _ cl _ (Kd.R_reads' HC.out).2.2 (Kd.R_reads' HC.out).2.1 HCv.out HDv.out).mono ?_); rintro e w5 ⟨rfl, hb⟩; rw [HGC.out]; have HB5 := Aside0.mk (below_chain HB.out hb); have HC5 := Aside0.mk (Kd.R_below HC.out hb); have HL5 := Aside0.mk (Kd.R_lower (Kd.R_below HL.out hb) HSZ.out); have hh0 := blk_below HZ.out hb; have hx0 := (blk_cell hh0 0).trans rfl; have hx1 := (blk_cell hh0 1).trans rfl; have hf1 := blk_frozen hh0 0; have hf2 := blk_frozen hh0 1; clear hb)
            go_wp2
            refine bodyPost_ret (results_ct rfl _ _ (w.heap.size + 1) 33 #[.slice D0 l0_0.length d0, .slice Dv cl.length dv] (0, 0) _ rfl (blk_put (blk_put hh0 0 _ rfl) 1 _ rfl) Try.underlying33 rfl (by kernel_rfl)) rfl ?_
            exact ⟨_, _, rfl, Kd.R_set (Kd.R_set HC5.out hh0 (by decide) 0 _) (blk_put hh0 0 _ rfl) (by decide) 1 _, Kd.R_set (Kd.R_set HL5.out hh0 (by decide) 0 _) (blk_put hh0 0 _ rfl) (by decide) 1 _, below_set (below_set HB5.out (by omega)) (by omega)⟩

end Go.Proofs.Ytdiejmhphhdcfaa.Q
