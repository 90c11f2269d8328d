-- Written by a program of this session (wip/xprint.py over the kit's printer).
import Derived.Test.YtlmdmnenljmdgaaQ0
import Derived.Test.YtlmdmnenljmdgaaQF36
import Derived.Test.YtlmdmnenljmdgaaQF38
import Derived.Test.YtlmdmnenljmdgaaQF48
import Derived.Test.YtlmdmnenljmdgaaQF49
import Derived.Test.YtlmdmnenljmdgaaQF51
import Derived.Test.YtlmdmnenljmdgaaQF67
import Derived.Test.YtlmdmnenljmdgaaQF68
import Derived.Test.YtlmdmnenljmdgaaQF78
import Derived.Test.YtlmdmnenljmdgaaQP
namespace Go.Proofs.Ytlmdmnenljmdgaa.Q
open Go.RowKit Go.Proofs.YtlmdmnenljmdgaaW.PrintWords Go.Proofs.YtlmdmnenljmdgaaW.PrintLast
set_option linter.unusedVariables false
set_option linter.unusedSimpArgs false

/-! ### impl_AddContext: function 19 -/
def tidyC (cs : List S44) : List S44 := cs.mergeSort fun a b => decide (a.f0 ≤ b.f0)
def selfless (rs : List S36) : List S36 := rs.filter fun x => !(x.f0 == x.f1)
def sortR (rs : List S36) : List S36 := rs.mergeSort fun a b => !before b a
def tidyR (rs : List S36) : List S36 := cptTo (sortR (selfless rs)) (sortR (selfless rs)).length
theorem eqR_iff (a b : S36) : eqR a b = true ↔ a = b := by
  cases a; cases b; simp [eqR]
theorem bef_iff (a b : S36) : before a b = true ↔ a.f0 < b.f0 ∨ (a.f0 = b.f0 ∧ a.f1 < b.f1) := by simp [before]
theorem bef_tot {a b : S36} (h1 : before a b = false) (h2 : before b a = false) : a = b := by
  have e1 : ¬ before a b = true := by simp [h1]
  have e2 : ¬ before b a = true := by simp [h2]
  rw [bef_iff] at e1 e2
  cases a; cases b
  simp only at e1 e2
  congr 1 <;> omega
theorem bef_tr {a b c : S36} (h1 : before a b = true) (h2 : before b c = true) : before a c = true := by
  rw [bef_iff] at *; omega
theorem bef_tr2 {a b c : S36} (h1 : before b a = false) (h2 : before b c = true) : before a c = true := by
  have e1 : ¬ before b a = true := by simp [h1]
  rw [bef_iff] at *; omega
theorem cptTo_mem (xs : List S36) (x : S36) : ∀ m, m ≤ xs.length → (x ∈ cptTo xs m ↔ x ∈ xs.take m)
  | 0, _ => by simp [cptTo]
  | m + 1, hm => by
    have ih := cptTo_mem xs x m (by omega)
    rw [cptTo_succ, take_getD xs m (by omega), List.mem_append, ← ih]
    cases hk : kp xs m with
    | true => simp
    | false =>
      simp only [Bool.false_eq_true, if_false]
      constructor
      · exact .inl
      · rintro (h | h)
        · exact h
        · have h0 : m ≠ 0 := by rintro rfl; simp [kp] at hk
          have he : eqR (xs.getD m z36) (xs.getD (m - 1) z36) = true := by
            unfold kp at hk
            rw [show (m == 0) = false from beq_eq_false_iff_ne.2 h0] at hk
            simpa using hk
          rw [eqR_iff] at he
          obtain rfl : x = xs.getD m z36 := by simpa using h
          rw [ih, he]
          rw [List.getD_eq_getElem?_getD, List.getElem?_eq_getElem (by omega)]
          exact List.mem_iff_getElem.2 ⟨m - 1, by rw [List.length_take]; omega, by rw [List.getElem_take]; rfl⟩
theorem cptTo_strict {xs : List S36} (hs : xs.Pairwise fun a b => before b a = false) : ∀ m, m ≤ xs.length → (cptTo xs m).Pairwise fun a b => before a b = true
  | 0, _ => by simp [cptTo]
  | m + 1, hm => by
    have ih := cptTo_strict hs m (by omega)
    rw [cptTo_succ]
    cases hk : kp xs m with
    | false => simpa using ih
    | true =>
      simp only [if_true]
      rw [List.pairwise_append]
      refine ⟨ih, List.pairwise_singleton _ _, fun a ha b hb => ?_⟩
      obtain rfl : b = xs.getD m z36 := by simpa using hb
      rw [cptTo_mem xs a m (by omega)] at ha
      obtain ⟨i, hi, rfl⟩ := List.mem_iff_getElem.1 ha
      rw [List.length_take] at hi
      rw [List.getElem_take]
      rw [List.pairwise_iff_getElem] at hs
      have h0 : m ≠ 0 := by omega
      have hne : ¬ eqR (xs.getD m z36) (xs.getD (m - 1) z36) = true := by
        unfold kp at hk
        rw [show (m == 0) = false from beq_eq_false_iff_ne.2 h0] at hk
        simpa using hk
      rw [eqR_iff] at hne
      have e1 : xs.getD m z36 = xs[m] := by rw [List.getD_eq_getElem?_getD, List.getElem?_eq_getElem (by omega)]; rfl
      have e2 : xs.getD (m - 1) z36 = xs[m - 1] := by rw [List.getD_eq_getElem?_getD, List.getElem?_eq_getElem (by omega)]; rfl
      rw [e1, e2] at hne
      rw [e1]
      have h1 := hs (m - 1) m (by omega) (by omega) (by omega)
      have h2 : before xs[m - 1] xs[m] = true := by
        cases h : before xs[m - 1] xs[m] with
        | true => rfl
        | false => exact absurd (bef_tot h1 h) hne
      by_cases hi2 : i = m - 1
      · subst hi2; exact h2
      · exact bef_tr2 (hs i (m - 1) (by omega) (by omega) (by omega)) h2
theorem sx {α : Type} (lt : α → α → Prop) (irr : ∀ a, ¬ lt a a) (tr : ∀ a b c, lt a b → lt b c → lt a c) : ∀ (l1 l2 : List α), l1.Pairwise lt → l2.Pairwise lt → (∀ x, x ∈ l1 ↔ x ∈ l2) → l1 = l2
  | [], [], _, _, _ => rfl
  | [], b :: r2, _, _, h => absurd ((h b).2 (by simp)) (by simp)
  | a :: r1, [], _, _, h => absurd ((h a).1 (by simp)) (by simp)
  | a :: r1, b :: r2, h1, h2, h => by
    rw [List.pairwise_cons] at h1 h2
    have hab : a = b := by
      rcases List.mem_cons.1 ((h a).1 (by simp)) with e | e
      · exact e
      · rcases List.mem_cons.1 ((h b).2 (by simp)) with e2 | e2
        · exact e2.symm
        · exact absurd (tr _ _ _ (h1.1 b e2) (h2.1 a e)) (irr a)
    subst hab
    rw [sx lt irr tr r1 r2 h1.2 h2.2 (fun x => ?_)]
    constructor
    · intro hx
      rcases List.mem_cons.1 ((h x).1 (List.mem_cons_of_mem _ hx)) with e | e
      · subst e; exact absurd (h1.1 x hx) (irr x)
      · exact e
    · intro hx
      rcases List.mem_cons.1 ((h x).2 (List.mem_cons_of_mem _ hx)) with e | e
      · subst e; exact absurd (h2.1 x hx) (irr x)
      · exact e
theorem bef_irr (a : S36) : ¬ before a a = true := by rw [bef_iff]; omega
theorem sortR_sorted (rs : List S36) : (sortR rs).Pairwise fun a b => before b a = false := by
  have h := List.pairwise_mergeSort (le := fun a b : S36 => !before b a) (fun a b c h1 h2 => by
    simp only [Bool.not_eq_true'] at h1 h2 ⊢
    cases h : before c a with
    | false => rfl
    | true =>
      have := bef_tr2 h2 h
      rw [this] at h1; cases h1) (fun a b => by
    cases h1 : before b a <;> cases h2 : before a b <;> simp
    exact absurd (bef_tr h1 h2) (bef_irr b)) rs
  exact h.imp fun h => by simpa using h
theorem tidyR_eq {rs ys : List S36} (hp : ys.Perm (selfless rs)) (hs : ys.Pairwise fun a b => before b a = false) : cptTo ys ys.length = tidyR rs := by
  refine sx (fun a b => before a b = true) bef_irr (fun a b c => bef_tr) _ _ (cptTo_strict hs _ (Nat.le_refl _)) (cptTo_strict (sortR_sorted _) _ (Nat.le_refl _)) (fun x => ?_)
  rw [show tidyR rs = cptTo (sortR (selfless rs)) (sortR (selfless rs)).length from rfl, cptTo_mem _ _ _ (Nat.le_refl _), cptTo_mem _ _ _ (Nat.le_refl _), List.take_length, List.take_length, hp.mem_iff]
  exact (List.mergeSort_perm _ _).mem_iff.symm
theorem ctx_strict : ∀ (cs : List S44) (p : Option Int), ctxOk p cs = true → cs.Pairwise (fun a b => a.f0 < b.f0) ∧ (∀ q, p = some q → ∀ c, c ∈ cs → q < c.f0)
  | [], _, _ => ⟨List.Pairwise.nil, fun _ _ _ h => by simp at h⟩
  | c :: r, p, h => by
    simp only [ctxOk, Bool.and_eq_true] at h
    obtain ⟨h1, h2⟩ := ctx_strict r _ h.2
    refine ⟨List.pairwise_cons.2 ⟨fun d hd => h2 _ rfl d hd, h1⟩, fun q hq d hd => ?_⟩
    subst hq
    have hqc : q < c.f0 := by simpa using h.1.2
    rcases List.mem_cons.1 hd with rfl | hd
    · exact hqc
    · have := h2 _ rfl d hd; omega
/-- A list sorted by number, and one of the same elements with rising numbers: the same. -/
theorem sort_same {l1 l2 : List S44} (hp : l1.Perm l2) (h1 : l1.Pairwise fun a b => a.f0 ≤ b.f0) (h2 : l2.Pairwise fun a b => a.f0 < b.f0) : l1 = l2 := by
  have hn2 : (l2.map (·.f0)).Nodup := by
    rw [List.Nodup, List.pairwise_map]
    exact h2.imp fun h => by omega
  have hn1 : (l1.map (·.f0)).Nodup := (hp.map _).nodup_iff.2 hn2
  rw [List.Nodup, List.pairwise_map] at hn1
  exact sx (fun a b => a.f0 < b.f0) (fun a h => by omega) (fun a b c h h' => by omega) l1 l2 ((h1.and hn1).imp fun h => by have := h.1; have := h.2; omega) h2 (fun x => hp.mem_iff)
theorem tidyC_sorted (cs : List S44) : (tidyC cs).Pairwise fun a b => a.f0 ≤ b.f0 := by
  have h := List.pairwise_mergeSort (le := fun a b : S44 => decide (a.f0 ≤ b.f0)) (fun a b c h1 h2 => by simp at *; omega) (fun a b => by simp; omega) cs
  exact h.imp fun h => by simpa using h
theorem tidyC_perm (cs : List S44) : (tidyC cs).Perm cs := List.mergeSort_perm _ _
theorem goodB_ctx {cs : List S44} {R : List S36} (h : goodB cs R = true) : cs.Pairwise fun a b => a.f0 < b.f0 := by
  simp only [goodB, Bool.and_eq_true] at h
  exact (ctx_strict cs _ h.1.2).1
theorem tidyC_eq {cs cs' : List S44} (hp : cs'.Perm cs) (hs : cs'.Pairwise fun a b => Go.Proofs.ltOf cfC b a = false) (R : List S36) : goodB cs' R = goodB (tidyC cs) R ∧ (goodB cs' R = true → cs' = tidyC cs) := by
  have hs2 : cs'.Pairwise fun a b => a.f0 ≤ b.f0 := hs.imp fun h => by rw [ltC] at h; simp at h; omega
  have hpp : cs'.Perm (tidyC cs) := hp.trans (tidyC_perm cs).symm
  by_cases e : cs' = tidyC cs
  · rw [e]; exact ⟨rfl, fun _ => rfl⟩
  · have h1 : goodB cs' R = false := by
      cases h : goodB cs' R with
      | false => rfl
      | true => exact absurd (sort_same hpp.symm (tidyC_sorted cs) (goodB_ctx h)).symm e
    have h2 : goodB (tidyC cs) R = false := by
      cases h : goodB (tidyC cs) R with
      | false => rfl
      | true => exact absurd (sort_same hpp hs2 (goodB_ctx h)) e
    exact ⟨by rw [h1, h2], fun h => by rw [h1] at h; cases h⟩
def impl_AddContext.f (l0_0 : List S44) (l0_1 : List S36) (a1 a2 : Int) : Option (List S44 × List S36 × Bool) := some (if goodB l0_0 l0_1 then (if goodB (tidyC (l0_0 ++ [(⟨a1, a2⟩ : S44)])) (tidyR l0_1) then (tidyC (l0_0 ++ [(⟨a1, a2⟩ : S44)]), tidyR l0_1, true) else ([], [], false)) else ([], [], false))
set_option maxHeartbeats 16000000 in
set_option maxRecDepth 100000 in
theorem impl_AddContext.calls (A0_0 : Option Addr) (c0_0 : Nat) (l0_0 : List S44) (A0_1 : Option Addr) (c0_1 : Nat) (l0_1 : List S36) (a1 a2 : Int) (r1 : List S44) (r2 : List S36) (r3 : Bool) (w : World) (hr0_0 : Kd.C k44 w A0_0 l0_0.length l0_0) (hc0_0 : l0_0.length ≤ c0_0) (hr0_1 : Kd.C k36 w A0_1 l0_1.length l0_1) (hc0_1 : l0_1.length ≤ c0_1) (h : impl_AddContext.f l0_0 l0_1 a1 a2 = some (r1, r2, r3)) :
    Calls Try.prog 19 #[.agg #[.slice A0_0 l0_0.length c0_0, .slice A0_1 l0_1.length c0_1], .agg #[.int .i64 a1, .int .i64 a2]] w fun e w' => ∃ v0_ v1_ : Value, e = .returned (.tuple #[.agg #[v0_, v1_], .bool r3]) ∧ Kd.R k44 44 w' w.heap.size (fun _ => True) v0_ r1 ∧ Kd.R k36 36 w' w.heap.size (fun _ => True) v1_ r2 ∧ Below w.heap.size w w' := by
  have H := Option.some.inj h
  clear h
  have HR0 := Aside0.mk hr0_0
  have HR1 := Aside0.mk hr0_1
  have HC0 := Aside0.mk hc0_0
  have HC1 := Aside0.mk hc0_1
  clear hr0_0 hr0_1 hc0_0 hc0_1
  obtain ⟨wb, hwb⟩ : ∃ wb, (((w).alloc (.cells #[.slice A0_0 l0_0.length c0_0, .slice A0_1 l0_1.length c0_1] 32 (0, 0))).alloc (.cells #[.int .i64 a1, .int .i64 a2] 44 (0, 0))).alloc (.cells #[.slice none 0 0, .slice none 0 0] 32 (0, 0)) = wb := ⟨_, rfl⟩
  have HBw := Aside0.mk (show Below w.heap.size w wb from by rw [← hwb]; repeat (first | exact Below.refl _ _ | apply below_alloc))
  have HWB := HBw
  have hhr : wb.heap[w.heap.size]? = some (.cells #[.slice A0_0 l0_0.length c0_0, .slice A0_1 l0_1.length c0_1] 32 (0, 0)) := by rw [← hwb]; have h := blk_new (w) (.cells #[.slice A0_0 l0_0.length c0_0, .slice A0_1 l0_1.length c0_1] 32 (0, 0)); rw [show (w).heap.size = w.heap.size from by rfl] at h; exact blk_alloc (blk_alloc (h) _) _
  have hb0 : wb.cell? ⟨w.heap.size, 0, none⟩ = some (.slice A0_0 l0_0.length c0_0) := (blk_cell hhr 0).trans rfl
  have hb1 : wb.cell? ⟨w.heap.size, 1, none⟩ = some (.slice A0_1 l0_1.length c0_1) := (blk_cell hhr 1).trans rfl
  have hh0 : wb.heap[w.heap.size + 1]? = some (.cells #[.int .i64 a1, .int .i64 a2] 44 (0, 0)) := by rw [← hwb]; have h := blk_new ((w).alloc (.cells #[.slice A0_0 l0_0.length c0_0, .slice A0_1 l0_1.length c0_1] 32 (0, 0))) (.cells #[.int .i64 a1, .int .i64 a2] 44 (0, 0)); rw [show ((w).alloc (.cells #[.slice A0_0 l0_0.length c0_0, .slice A0_1 l0_1.length c0_1] 32 (0, 0))).heap.size = w.heap.size + 1 from by simp] at h; exact blk_alloc (h) _
  have hx0 : wb.cell? ⟨w.heap.size + 1, 0, none⟩ = some (.int .i64 a1) := (blk_cell hh0 0).trans rfl
  have hx0_1 : wb.cell? ⟨w.heap.size + 1, 1, none⟩ = some (.int .i64 a2) := (blk_cell hh0 1).trans rfl
  have hh1 : wb.heap[w.heap.size + 1 + 1]? = some (.cells #[.slice none 0 0, .slice none 0 0] 32 (0, 0)) := by rw [← hwb]; have h := blk_new (((w).alloc (.cells #[.slice A0_0 l0_0.length c0_0, .slice A0_1 l0_1.length c0_1] 32 (0, 0))).alloc (.cells #[.int .i64 a1, .int .i64 a2] 44 (0, 0))) (.cells #[.slice none 0 0, .slice none 0 0] 32 (0, 0)); rw [show (((w).alloc (.cells #[.slice A0_0 l0_0.length c0_0, .slice A0_1 l0_1.length c0_1] 32 (0, 0))).alloc (.cells #[.int .i64 a1, .int .i64 a2] 44 (0, 0))).heap.size = w.heap.size + 1 + 1 from by simp] at h; exact h
  have hx1 : wb.cell? ⟨w.heap.size + 1 + 1, 0, none⟩ = some (.slice none 0 0) := (blk_cell hh1 0).trans rfl
  have hx1_1 : wb.cell? ⟨w.heap.size + 1 + 1, 1, none⟩ = some (.slice none 0 0) := (blk_cell hh1 1).trans rfl
  have hbs : w.heap.size + 1 + 1 < wb.heap.size := blk_lt hh1
  have HW := Aside0.mk hwb
  clear hwb
  clear hhr
  obtain ⟨b1, hb1_⟩ : ∃ b, goodB l0_0 l0_1 = b := ⟨_, rfl⟩
  have AV := Aside0.mk (show impl_IsValidRecord.f l0_0 l0_1 = some b1 from congrArg some hb1_)
  have HL := Aside0.mk (show b1 = true → l0_0.length ≤ 10 ∧ l0_1.length ≤ 24 from fun e => by rw [e] at hb1_; simp only [goodB, Bool.and_eq_true, decide_eq_true_eq] at hb1_; exact hb1_.1.1)
  rw [hb1_] at H
  clear hb1_
  cases b1 with
  | false =>
    injection H with H1 H2
    injection H2 with H2 H3
    subst H1; subst H2; subst H3
    have hf1 := blk_frozen hh1 0
    have hf2 := blk_frozen hh1 1
    go_enter Try.func19, Try.ntmps19
    go_upto_region 1 with (fail)
    try rw [HW.out]
    clear HW
    go_upto_region 2 with (go_at_call 36; (with_reducible refine (impl_IsValidRecord.calls _ _ l0_0 _ _ l0_1 _ _ (Kd.C_below HR0.out (by repeat (first | exact HBw.out | exact Below.refl _ _ | apply below_alloc | apply pw_below_drewN | apply below_drew1))) HC0.out (Kd.C_below HR1.out (by repeat (first | exact HBw.out | exact Below.refl _ _ | apply below_alloc | apply pw_below_drewN | apply below_drew1))) HC1.out AV.out).mono ?_); rintro e w1 ⟨rfl, hb⟩; have HBw : Aside0 (Below w.heap.size w w1) := Aside0.mk (below_chain (w := w) (by repeat (first | exact HBw.out | exact Below.refl _ _ | apply below_alloc | apply pw_below_drewN | apply below_drew1)) hb); have hb0 := pw_cell_below hb hb0; have hb1 := pw_cell_below hb hb1; have hx0 := pw_cell_below hb hx0; have hx0_1 := pw_cell_below hb hx0_1; have hx1 := pw_cell_below hb hx1; have hx1_1 := pw_cell_below hb hx1_1; have hh1 := blk_below hh1 hb; clear hf1 hf2; have hf1 := blk_frozen hh1 0; have hf2 := blk_frozen hh1 1; clear hb)
    go_wp2
    refine bodyPost_ret (results_ct rfl _ _ (w.heap.size + 1 + 1) 32 #[.slice none 0 0, .slice none 0 0] (0, 0) _ rfl (blk_put (blk_put hh1 0 _ rfl) 1 _ rfl) Try.underlying32 rfl (by kernel_rfl)) rfl ?_
    exact ⟨_, _, rfl, Kd.R_nil _ _ _ _ _, Kd.R_nil _ _ _ _ _, by repeat (first | exact HBw.out | refine below_set ?_ (by show w.heap.size ≤ w.heap.size + 1 + 1; omega))⟩
  | true =>
    have HL2 := Aside0.mk (HL.out rfl)
    have HH := Aside0.mk (show (if goodB (tidyC (l0_0 ++ [(⟨a1, a2⟩ : S44)])) (tidyR l0_1) then (tidyC (l0_0 ++ [(⟨a1, a2⟩ : S44)]), tidyR l0_1, true) else ([], [], false)) = (r1, r2, r3) from H)
    clear H
    have AC := Aside0.mk (show impl_copyRecord.f l0_0 l0_1 = some (l0_0, l0_1) from by
      have h1 := HL2.out
      unfold impl_copyRecord.f impl_Context_67.f impl_Relation_68.f
      rw [if_pos (by omega), if_pos (by omega)]
      rfl)
    have B1 := Aside0.mk hh0
    have B2 := Aside0.mk hh1
    clear hh0 hh1
    go_enter Try.func19, Try.ntmps19
    go_upto_region 1 with (fail)
    try rw [HW.out]
    clear HW
    go_upto_region 4 with (first | (go_at_call 36; (with_reducible refine (impl_IsValidRecord.calls _ _ l0_0 _ _ l0_1 _ _ (Kd.C_below HR0.out (by repeat (first | exact HBw.out | exact Below.refl _ _ | apply below_alloc | apply pw_below_drewN | apply below_drew1))) HC0.out (Kd.C_below HR1.out (by repeat (first | exact HBw.out | exact Below.refl _ _ | apply below_alloc | apply pw_below_drewN | apply below_drew1))) HC1.out AV.out).mono ?_); rintro e w1 ⟨rfl, hb⟩; have HBw : Aside0 (Below w.heap.size w w1) := Aside0.mk (below_chain (w := w) (by repeat (first | exact HBw.out | exact Below.refl _ _ | apply below_alloc | apply pw_below_drewN | apply below_drew1)) hb); have hb0 := pw_cell_below hb hb0; have hb1 := pw_cell_below hb hb1; have hx0 := pw_cell_below hb hx0; have hx0_1 := pw_cell_below hb hx0_1; have hx1 := pw_cell_below hb hx1; have hx1_1 := pw_cell_below hb hx1_1; have B1 := Aside0.mk (blk_below B1.out hb); have B2 := Aside0.mk (blk_below B2.out hb); clear hb) | (go_at_call 38; (with_reducible refine (impl_copyRecord.calls _ _ l0_0 _ _ l0_1 _ _ _ (Kd.C_below HR0.out (by repeat (first | exact HBw.out | exact Below.refl _ _ | apply below_alloc | apply pw_below_drewN | apply below_drew1))) HC0.out (Kd.C_below HR1.out (by repeat (first | exact HBw.out | exact Below.refl _ _ | apply below_alloc | apply pw_below_drewN | apply below_drew1))) HC1.out AC.out).mono ?_); rintro e w2 ⟨v0, v1, rfl, hR0, hR1, hb⟩; obtain ⟨D0, d0, rfl, hd0, hC0⟩ := Kd.R_reads hR0; obtain ⟨D1, d1, rfl, hd1, hC1⟩ := Kd.R_reads hR1; have HR0q := Aside0.mk (Kd.R_lower hR0 HBw.out.size); have HR1q := Aside0.mk (Kd.R_lower hR1 HBw.out.size); have HBw : Aside0 (Below w.heap.size w w2) := Aside0.mk (below_chain (w := w) (by repeat (first | exact HBw.out | exact Below.refl _ _ | apply below_alloc | apply pw_below_drewN | apply below_drew1)) hb); have hb0 := pw_cell_below hb hb0; have hb1 := pw_cell_below hb hb1; have hx0 := pw_cell_below hb hx0; have hx0_1 := pw_cell_below hb hx0_1; have hx1 := pw_cell_below hb hx1; have hx1_1 := pw_cell_below hb hx1_1; have B1 := Aside0.mk (blk_below B1.out hb); have B2 := Aside0.mk (blk_below B2.out hb); clear hb hR0 hR1 hC0 hC1 hd0 hd1))
    obtain ⟨gb, hgb⟩ : ∃ g, w2.heap.size = g := ⟨_, rfl⟩
    have B0 := Aside0.mk (blk_new w2 (.cells #[.slice D0 l0_0.length d0, .slice D1 l0_1.length d1] 32 (0, 0)))
    have hlt : w.heap.size + 1 + 1 < w2.heap.size := blk_lt B2.out
    have B1 := Aside0.mk (blk_alloc B1.out (.cells #[.slice D0 l0_0.length d0, .slice D1 l0_1.length d1] 32 (0, 0)))
    have B2 := Aside0.mk (blk_alloc B2.out (.cells #[.slice D0 l0_0.length d0, .slice D1 l0_1.length d1] 32 (0, 0)))
    have HBw := Aside0.mk (below_alloc HBw.out (.cells #[.slice D0 l0_0.length d0, .slice D1 l0_1.length d1] 32 (0, 0)))
    have HR0q := Aside0.mk (Kd.R_alloc HR0q.out (.cells #[.slice D0 l0_0.length d0, .slice D1 l0_1.length d1] 32 (0, 0)))
    have HR1q := Aside0.mk (Kd.R_alloc HR1q.out (.cells #[.slice D0 l0_0.length d0, .slice D1 l0_1.length d1] 32 (0, 0)))
    generalize w2.alloc (.cells #[.slice D0 l0_0.length d0, .slice D1 l0_1.length d1] 32 (0, 0)) = wq at B0 B1 B2 HBw HR0q HR1q ⊢
    rw [hgb] at B0
    try rw [hgb]
    have HGL := Aside0.mk (show w.heap.size + 1 + 1 < gb from by omega)
    clear hgb hlt hb0 hb1 hx0 hx0_1 hx1 hx1_1
    have c0 : wq.cell? ⟨gb, 0, none⟩ = some (.slice D0 l0_0.length d0) := (blk_cell B0.out 0).trans rfl
    have x0 : wq.cell? ⟨w.heap.size + 1, 0, none⟩ = some (.int .i64 a1) := (blk_cell B1.out 0).trans rfl
    have x1 : wq.cell? ⟨w.heap.size + 1, 1, none⟩ = some (.int .i64 a2) := (blk_cell B1.out 1).trans rfl
    go_upto_region 5 with ((with_reducible refine gate_builtin (b := .append) rfl ?_); at_builtin; refine Kd.R_append k44 (w0 := w) w.heap.size rfl _ _ 29 44 (.agg #[(.int .i64 0), (.int .i64 0)]) 16 rfl Try.underlying29 info44 rfl (by decide) (by omega) (.slice D0 l0_0.length d0) l0_0 (⟨a1, a2⟩ : S44) [.int .i64 a1, .int .i64 a2] (fun _ => True) (fun _ => False) rfl rfl (k44_mkM _ _ _ (⟨a1, a2⟩ : S44)) (fun _ hk => hk.elim) (fun _ _ => trivial) ?aO ?aB ?aS ?aL ?_; (case aO => exact HR0q.out); (case aB => exact HBw.out); (case aS => exact HBw.out.size); (case aL => have := HL2.out; omega); intro v3 w3 ho hbb hg _; obtain ⟨D2, d2, he2, _, _⟩ := Kd.R_reads ho; obtain ⟨n2, hn2⟩ : ∃ n, n = (l0_0 ++ [(⟨a1, a2⟩ : S44)]).length := ⟨_, rfl⟩; obtain rfl : v3 = .slice D2 n2 d2 := he2.trans (by rw [hn2]); have HR2q := Aside0.mk ho; have HN2 := Aside0.mk hn2; have B0 := Aside0.mk (blk_grown B0.out hg (Kd.R_ne HR0q.out B0.out (by decide))); have B2 := Aside0.mk (blk_grown B2.out hg (Kd.R_ne HR0q.out B2.out (by decide))); have HR1q := Aside0.mk (Kd.R_grown2 HR1q.out rfl hg (rows_ne HR0q.out HR1q.out (by decide))); have HBw := Aside0.mk hbb; clear c0; have c0 : w3.cell? ⟨gb, 0, none⟩ = some (.slice D0 l0_0.length d0) := (blk_cell B0.out 0).trans rfl; have f0 : w3.frozen? ⟨gb, 0, none⟩ = false := blk_frozen B0.out 0; clear ho hbb hg he2 hn2 HR0q B1 x0 x1)
    have HR1q := Aside0.mk (Kd.R_set HR1q.out B0.out (by decide) 0 (.slice D2 n2 d2))
    have HR2q := Aside0.mk (Kd.R_set HR2q.out B0.out (by decide) 0 (.slice D2 n2 d2))
    have B2 := Aside0.mk (blk_far B2.out (p := ⟨gb, 0, none⟩) (by have := HGL.out; show w.heap.size + 1 + 1 ≠ gb; omega) (.slice D2 n2 d2))
    have B0 := Aside0.mk (blk_put B0.out 0 (.slice D2 n2 d2) rfl)
    have HBw := Aside0.mk (below_set HBw.out (g := gb) (j := 0) (v := .slice D2 n2 d2) (by have := HGL.out; omega))
    clear c0 f0
    generalize w3.setCell ⟨gb, 0, none⟩ (.slice D2 n2 d2) = wq3 at HR1q HR2q B0 B2 HBw ⊢
    have c0 : wq3.cell? ⟨gb, 0, none⟩ = some (.slice D2 n2 d2) := (blk_cell B0.out 0).trans rfl
    have c1 : wq3.cell? ⟨gb, 1, none⟩ = some (.slice D1 l0_1.length d1) := (blk_cell B0.out 1).trans rfl
    have HT9 := Aside0.mk (show (l0_0 ++ [(⟨a1, a2⟩ : S44)]).length ≤ 1000 ∧ l0_1.length ≤ 1000 from by have := HL2.out; simp only [List.length_append, List.length_singleton]; omega)
    obtain ⟨bb, hbb⟩ : ∃ b, goodB (tidyC (l0_0 ++ [(⟨a1, a2⟩ : S44)])) (tidyR l0_1) = b := ⟨_, rfl⟩
    rw [hbb] at HH
    have HBB := Aside0.mk hbb
    clear hbb B0
    obtain ⟨T, hT⟩ : ∃ T, tidyR l0_1 = T := ⟨_, rfl⟩
    have HT := Aside0.mk hT
    rw [hT] at HBB HH
    clear hT
    cases bb with
    | false =>
      have H := HH.out
      injection H with H1 H2
      injection H2 with H2 H3
      subst H1; subst H2; subst H3
      go_wp2_with (first | (go_at_call 49; (refine (impl_tidyRecord.calls w (.slice D2 n2 d2) (.slice D1 l0_1.length d1) (l0_0 ++ [(⟨a1, a2⟩ : S44)]) l0_1 _ HBw.out HR2q.out HR1q.out HT9.out.1 HT9.out.2).mono ?_); rintro e w5 ⟨v5, cs', ys, rfl, hC, hR, hp, hs, hp2, hs2, hb, hk⟩; rw [tidyR_eq hp2 (hs2.imp fun h => by rw [ltR] at h; exact h), HT.out] at hR; obtain ⟨D5, d5, he5, hd5, _⟩ := Kd.R_reads hR; obtain ⟨n5, hn5⟩ : ∃ n, n = T.length := ⟨_, rfl⟩; obtain rfl : v5 = .slice D5 n5 d5 := he5.trans (by rw [hn5]); have GB := Aside0.mk ((tidyC_eq hp hs T).1.trans HBB.out); have GE := Aside0.mk (tidyC_eq hp hs T).2; have HNA := Aside0.mk (show n2 = cs'.length from HN2.out.trans (hp.length_eq).symm); have HNB := Aside0.mk hn5; have B2 := Aside0.mk ((hk.2 _ (blk_lt B2.out) (fun h => by rcases h with h | h; exact Kd.R_ne HR2q.out B2.out (by decide) h; exact Kd.R_ne HR1q.out B2.out (by decide) h)).trans B2.out); have HRa := Aside0.mk hC; have HRb := Aside0.mk (Kd.R_mono (ok' := fun _ => True) hR (fun _ _ => trivial)); have HBw := Aside0.mk hb; clear hC hR hp hs hp2 hs2 hb hk he5 hd5 hn5 c0 c1) | (go_at_call 48; (refine (show Calls Try.prog 48 #[.agg #[.slice D2 n2 d2, .slice D5 n5 d5]] _ _ from (by have hIF := impl_ifRecord.calls D2 d2 cs' D5 d5 T _ (by rw [← HNA.out]; have h := (Kd.R_reads' HRa.out).2.2; rw [← HNA.out] at h; exact h) (by rw [← HNA.out]; exact (Kd.R_reads' HRa.out).2.1) (by have h := (Kd.R_reads' HRb.out).2.2; exact h) (by rw [← HNB.out]; exact (Kd.R_reads' HRb.out).2.1); rw [← HNA.out, ← HNB.out] at hIF; exact hIF)).mono ?_); rintro e w6 ⟨he, hb⟩; rw [GB.out] at he; rw [if_neg (by simp)] at he; subst he; have B2 := Aside0.mk (blk_below B2.out hb); have HRa := Aside0.mk (Kd.R_below HRa.out hb); have HRb := Aside0.mk (Kd.R_below HRb.out hb); have HBw := Aside0.mk (below_chain (w := w) HBw.out hb); clear hb; have g0 : w6.cell? ⟨w.heap.size + 1 + 1, 0, none⟩ = some (.slice none 0 0) := (blk_cell B2.out 0).trans rfl; have g1 : w6.cell? ⟨w.heap.size + 1 + 1, 1, none⟩ = some (.slice none 0 0) := (blk_cell B2.out 1).trans rfl; have f0 := blk_frozen B2.out 0; have f1 := blk_frozen B2.out 1))
      refine bodyPost_ret (results_ct rfl _ _ (w.heap.size + 1 + 1) 32 #[.slice none 0 0, .slice none 0 0] (0, 0) _ rfl (blk_put (blk_put B2.out 0 _ rfl) 1 _ rfl) Try.underlying32 rfl (by kernel_rfl)) rfl ?_
      exact ⟨_, _, rfl, Kd.R_nil _ _ _ _ _, Kd.R_nil _ _ _ _ _, below_set (below_set HBw.out (by omega)) (by omega)⟩
    | true =>
      have H := HH.out
      injection H with H1 H2
      injection H2 with H2 H3
      subst H1; subst H2; subst H3
      go_wp2_with (first | (go_at_call 49; (refine (impl_tidyRecord.calls w (.slice D2 n2 d2) (.slice D1 l0_1.length d1) (l0_0 ++ [(⟨a1, a2⟩ : S44)]) l0_1 _ HBw.out HR2q.out HR1q.out HT9.out.1 HT9.out.2).mono ?_); rintro e w5 ⟨v5, cs', ys, rfl, hC, hR, hp, hs, hp2, hs2, hb, hk⟩; rw [tidyR_eq hp2 (hs2.imp fun h => by rw [ltR] at h; exact h), HT.out] at hR; obtain ⟨D5, d5, he5, hd5, _⟩ := Kd.R_reads hR; obtain ⟨n5, hn5⟩ : ∃ n, n = T.length := ⟨_, rfl⟩; obtain rfl : v5 = .slice D5 n5 d5 := he5.trans (by rw [hn5]); have GB := Aside0.mk ((tidyC_eq hp hs T).1.trans HBB.out); have GE := Aside0.mk (tidyC_eq hp hs T).2; have HNA := Aside0.mk (show n2 = cs'.length from HN2.out.trans (hp.length_eq).symm); have HNB := Aside0.mk hn5; have B2 := Aside0.mk ((hk.2 _ (blk_lt B2.out) (fun h => by rcases h with h | h; exact Kd.R_ne HR2q.out B2.out (by decide) h; exact Kd.R_ne HR1q.out B2.out (by decide) h)).trans B2.out); have HRa := Aside0.mk hC; have HRb := Aside0.mk (Kd.R_mono (ok' := fun _ => True) hR (fun _ _ => trivial)); have HBw := Aside0.mk hb; clear hC hR hp hs hp2 hs2 hb hk he5 hd5 hn5 c0 c1) | (go_at_call 48; (refine (show Calls Try.prog 48 #[.agg #[.slice D2 n2 d2, .slice D5 n5 d5]] _ _ from (by have hIF := impl_ifRecord.calls D2 d2 cs' D5 d5 T _ (by rw [← HNA.out]; have h := (Kd.R_reads' HRa.out).2.2; rw [← HNA.out] at h; exact h) (by rw [← HNA.out]; exact (Kd.R_reads' HRa.out).2.1) (by have h := (Kd.R_reads' HRb.out).2.2; exact h) (by rw [← HNB.out]; exact (Kd.R_reads' HRb.out).2.1); rw [← HNA.out, ← HNB.out] at hIF; exact hIF)).mono ?_); rintro e w6 ⟨he, hb⟩; rw [GB.out] at he; rw [if_pos rfl] at he; subst he; have B2 := Aside0.mk (blk_below B2.out hb); have HRa := Aside0.mk (Kd.R_below HRa.out hb); have HRb := Aside0.mk (Kd.R_below HRb.out hb); have HBw := Aside0.mk (below_chain (w := w) HBw.out hb); clear hb; have g0 : w6.cell? ⟨w.heap.size + 1 + 1, 0, none⟩ = some (.slice none 0 0) := (blk_cell B2.out 0).trans rfl; have g1 : w6.cell? ⟨w.heap.size + 1 + 1, 1, none⟩ = some (.slice none 0 0) := (blk_cell B2.out 1).trans rfl; have f0 := blk_frozen B2.out 0; have f1 := blk_frozen B2.out 1))
      refine bodyPost_ret (results_ct rfl _ _ (w.heap.size + 1 + 1) 32 #[.slice D2 n2 d2, .slice D5 n5 d5] (0, 0) _ rfl (blk_put (blk_put B2.out 0 _ rfl) 1 _ rfl) Try.underlying32 rfl (by kernel_rfl)) rfl ?_
      exact ⟨_, _, rfl, by rw [← GE.out GB.out]; exact Kd.R_set (Kd.R_set HRa.out B2.out (by decide) 0 _) (blk_put B2.out 0 _ rfl) (by decide) 1 _, Kd.R_set (Kd.R_set HRb.out B2.out (by decide) 0 _) (blk_put B2.out 0 _ rfl) (by decide) 1 _, below_set (below_set HBw.out (by omega)) (by omega)⟩

end Go.Proofs.Ytlmdmnenljmdgaa.Q
