/- The law FnExactShortestCycle answers true at every record: ShortestCycle of the program and of the reference agree. No conditions. -/
import Derived.Test.YtdiejmhphhdcfaaQ0
import Derived.Test.YtdiejmhphhdcfaaQF61
import Derived.Test.YtdiejmhphhdcfaaQB0
import Derived.Test.YtdiejmhphhdcfaaQB1
import Derived.Test.YtdiejmhphhdcfaaQM0
import Derived.Test.YtdiejmhphhdcfaaQF67
import Derived.Test.YtdiejmhphhdcfaaQF68
import Derived.Test.YtdiejmhphhdcfaaQF18
import Derived.Test.YtdiejmhphhdcfaaQF63
import Derived.Test.YtdiejmhphhdcfaaQF33
import Derived.Test.YtdiejmhphhdcfaaQF83
import Derived.Test.YtdiejmhphhdcfaaQF19
import Derived.Test.YtdiejmhphhdcfaaQF22
import Derived.Test.YtdiejmhphhdcfaaQF23
import Derived.Test.YtdiejmhphhdcfaaQF6
import Derived.Test.YtdiejmhphhdcfaaQF32
namespace Go.Proofs.Ytdiejmhphhdcfaa.Pure
open Go.RowKit Go.Proofs.Ytdiejmhphhdcfaa.Q Go.Proofs.YtdiejmhphhdcfaaW.PrintWords
set_option linter.unusedVariables false
set_option linter.unusedSimpArgs false
/-- Going down from the end of a loop. -/
theorem Ev.down {α : Type} (n : Nat) (F : Nat → Nat → Option α) (R : Nat → α) (hend : Ev (fun k => F k n) (R n)) (hstep : ∀ i, i < n → Ev (fun k => F k (i + 1)) (R (i + 1)) → Ev (fun k => F k i) (R i)) : ∀ i, i ≤ n → Ev (fun k => F k i) (R i) := by
  have key : ∀ d i, n - i = d → i ≤ n → Ev (fun k => F k i) (R i) := by
    intro d
    induction d with
    | zero =>
      intro i hd hi
      obtain rfl : i = n := by omega
      exact hend
    | succ d ih => intro i hd hi; exact hstep i (by omega) (ih (i + 1) (by omega) (by omega))
  intro i hi
  exact key (n - i) i rfl hi
theorem Ev.some {α : Type} (r : α) : Ev (fun _ => Option.some r) r := Ev.now r
theorem w64 (i : Nat) (h : i ≤ 4611686018427387904) : wrap64 ((i : Int) + 1) = ((i + 1 : Nat) : Int) := by unfold wrap64; omega
theorem rdCl (l : List S127) (i : Nat) (h : i < l.length) : rd_T127 l (i : Int) = l[i] := by simp [rd_T127, List.getD_eq_getElem?_getD, List.getElem?_eq_getElem h]
theorem rdRl (l : List S129) (i : Nat) (h : i < l.length) : rd_T129 l (i : Int) = l[i] := by simp [rd_T129, List.getD_eq_getElem?_getD, List.getElem?_eq_getElem h]
theorem getDR (rs : List S95) (i : Nat) (h : i < rs.length) : rs.getD i z95 = rs[i] := by simp [List.getD_eq_getElem?_getD, List.getElem?_eq_getElem h]
theorem getDC (cs : List S86) (i : Nat) (h : i < cs.length) : cs.getD i z86 = cs[i] := by simp [List.getD_eq_getElem?_getD, List.getElem?_eq_getElem h]
def cvC (x : S127) : S86 := ⟨x.f0, x.f1⟩
def cvR (x : S129) : S95 := ⟨x.f0, x.f1⟩
theorem acc_step {α β : Type} (f : α → β) (z : β) (l : List α) (i : Nat) (hi : i < l.length) : ((l.take i).map f ++ List.replicate (l.length - i) z).set i (f l[i]) = (l.take (i + 1)).map f ++ List.replicate (l.length - (i + 1)) z := by
  have h1 : ((l.take i).map f).length = i := by rw [List.length_map, List.length_take]; omega
  rw [List.set_append_right _ _ (by omega), h1, Nat.sub_self]
  obtain ⟨m, hm⟩ : ∃ m, l.length - i = m + 1 := ⟨l.length - i - 1, by omega⟩
  rw [hm, List.replicate_succ, List.set_cons_zero, List.take_succ_eq_append_getElem hi, List.map_append, show l.length - (i + 1) = m by omega]
  simp
theorem toContextS_ev (l : List S127) (hl : l.length ≤ 1048576) : Ev (fun k => laws_toContextS.f k l) (l.map cvC) := by
  unfold laws_toContextS.f
  have h1 : (0 : Int) ≤ (l.length : Int) := by omega
  have h2 : l.length ≤ 17592186044416 := by omega
  simp only [h1, if_true, Int.toNat_natCast, h2]
  have key := Ev.down l.length (fun k i => laws_toContextS.l0 k l ((l.take i).map cvC ++ List.replicate (l.length - i) z86) (i : Int)) (fun _ => l.map cvC)
    (by
      refine Ev.step (fun k => by rw [laws_toContextS.l0]) ?_
      simp only [Int.lt_irrefl, if_false, List.take_length, Nat.sub_self, List.replicate_zero, List.append_nil]
      exact Ev.now _)
    (fun i hi ih => by
      refine Ev.step (fun k => by rw [laws_toContextS.l0]) ?_
      have h1 : (i : Int) < (l.length : Int) := by omega
      have h2 : (0 : Int) ≤ (i : Int) := by omega
      have h3 : (i : Int) < ((((l.take i).map cvC ++ List.replicate (l.length - i) z86).length : Nat) : Int) := by
        rw [List.length_append, List.length_map, List.length_take, List.length_replicate]
        omega
      simp only [h1, h2, h3, if_true, rdCl l i hi, laws_toContext.f, Option.bind_some, w64 i (by omega), Int.toNat_natCast]
      have e := acc_step cvC z86 l i hi
      unfold cvC at e ih ⊢
      rw [e]
      exact ih)
  have h0 := key 0 (Nat.zero_le _)
  simpa using h0
theorem toRelationS_ev (l : List S129) (hl : l.length ≤ 1048576) : Ev (fun k => laws_toRelationS.f k l) (l.map cvR) := by
  unfold laws_toRelationS.f
  have h1 : (0 : Int) ≤ (l.length : Int) := by omega
  have h2 : l.length ≤ 17592186044416 := by omega
  simp only [h1, if_true, Int.toNat_natCast, h2]
  have key := Ev.down l.length (fun k i => laws_toRelationS.l0 k l ((l.take i).map cvR ++ List.replicate (l.length - i) z95) (i : Int)) (fun _ => l.map cvR)
    (by
      refine Ev.step (fun k => by rw [laws_toRelationS.l0]) ?_
      simp only [Int.lt_irrefl, if_false, List.take_length, Nat.sub_self, List.replicate_zero, List.append_nil]
      exact Ev.now _)
    (fun i hi ih => by
      refine Ev.step (fun k => by rw [laws_toRelationS.l0]) ?_
      have h1 : (i : Int) < (l.length : Int) := by omega
      have h2 : (0 : Int) ≤ (i : Int) := by omega
      have h3 : (i : Int) < ((((l.take i).map cvR ++ List.replicate (l.length - i) z95).length : Nat) : Int) := by
        rw [List.length_append, List.length_map, List.length_take, List.length_replicate]
        omega
      simp only [h1, h2, h3, if_true, rdRl l i hi, laws_toRelation.f, Option.bind_some, w64 i (by omega), Int.toNat_natCast]
      have e := acc_step cvR z95 l i hi
      unfold cvR at e ih ⊢
      rw [e]
      exact ih)
  have h0 := key 0 (Nat.zero_le _)
  simpa using h0
theorem toRecord_ev (l0 : List S127) (l1 : List S129) (h0 : l0.length ≤ 1048576) (h1 : l1.length ≤ 1048576) : Ev (fun k => laws_toRecord.f k l0 l1) (l0.map cvC, l1.map cvR) := by
  unfold laws_toRecord.f
  refine Ev.bind (toContextS_ev l0 h0) ?_
  refine Ev.bind (toRelationS_ev l1 h1) ?_
  exact Ev.now _
theorem eqContextS_ev (a : List S86) (ha : a.length ≤ 1048576) : Ev (fun k => laws_eqContextS.f k a a) true := by
  unfold laws_eqContextS.f
  simp only [if_true]
  have key := Ev.down a.length (fun k i => laws_eqContextS.l0 k a a (i : Int)) (fun _ => true)
    (by
      refine Ev.step (fun k => by rw [laws_eqContextS.l0]) ?_
      simp only [Int.lt_irrefl, if_false]
      exact Ev.now _)
    (fun i hi ih => by
      refine Ev.step (fun k => by rw [laws_eqContextS.l0]) ?_
      have h1 : (i : Int) < (a.length : Int) := by omega
      have h2 : (0 : Int) ≤ (i : Int) := by omega
      simp only [h1, h2, if_true, laws_eqContext.f, Option.bind_some, w64 i (by omega)]
      exact ih)
  exact key 0 (Nat.zero_le _)
theorem eqRelationS_ev (a : List S95) (ha : a.length ≤ 1048576) : Ev (fun k => laws_eqRelationS.f k a a) true := by
  unfold laws_eqRelationS.f
  simp only [if_true]
  have key := Ev.down a.length (fun k i => laws_eqRelationS.l0 k a a (i : Int)) (fun _ => true)
    (by
      refine Ev.step (fun k => by rw [laws_eqRelationS.l0]) ?_
      simp only [Int.lt_irrefl, if_false]
      exact Ev.now _)
    (fun i hi ih => by
      refine Ev.step (fun k => by rw [laws_eqRelationS.l0]) ?_
      have h1 : (i : Int) < (a.length : Int) := by omega
      have h2 : (0 : Int) ≤ (i : Int) := by omega
      simp only [h1, h2, if_true, laws_eqRelation.f, Option.bind_some, w64 i (by omega)]
      exact ih)
  exact key 0 (Nat.zero_le _)
theorem eqRecord_ev (a : List S86) (b : List S95) (ha : a.length ≤ 1048576) (hb : b.length ≤ 1048576) : Ev (fun k => laws_eqRecord.f k a b a b) true := by
  unfold laws_eqRecord.f
  refine Ev.bind (eqContextS_ev a ha) ?_
  simp only [if_true]
  refine Ev.bind (eqRelationS_ev b hb) ?_
  simp only [if_true]
  exact Ev.now _
/-- What the law's first test lets by: at most 2^20 contexts and relations. -/
theorem szRecord_eq (l0 : List S127) (l1 : List S129) (g0 : l0.length ≤ 9223372036854775807) (g1 : l1.length ≤ 9223372036854775807) :
    ∃ t, laws_szRecord.f l0 l1 1048576 = some t ∧ (t < 0 ∨ (0 ≤ t ∧ t ≤ 1048576 ∧ l0.length ≤ 1048576 ∧ l1.length ≤ 1048576)) := by
  unfold laws_szRecord.f laws_szContextS.f laws_szRelationS.f
  have e0 : wrap64 (1048576 - (l0.length : Int)) = 1048576 - (l0.length : Int) := by unfold wrap64; omega
  rw [e0]
  by_cases h0 : (1048576 - (l0.length : Int)) < 0
  · exact ⟨-1, by simp [h0], .inl (by omega)⟩
  · have e1 : wrap64 (1048576 - (l0.length : Int) - (l1.length : Int)) = 1048576 - (l0.length : Int) - (l1.length : Int) := by unfold wrap64; omega
    simp only [h0, if_false, Option.bind_some, e1]
    by_cases h1 : (1048576 - (l0.length : Int) - (l1.length : Int)) < 0
    · exact ⟨-1, by simp [h1], .inl (by omega)⟩
    · exact ⟨1048576 - (l0.length : Int) - (l1.length : Int), by simp [h1], .inr (by omega)⟩
theorem markC_l0 : ∀ (d : Nat) (st : List S86) (k : Int) (i : Nat), st.length - i = d → i ≤ st.length → st.length ≤ 1048576 → 0 ≤ k → k + 2 * d ≤ 4611686018427387904 → ∃ st', Ev (fun q => laws_markContextS.l0 q st k (i : Int)) (k + 2 * d, st') := by
  intro d
  induction d with
  | zero =>
    intro st k i hd hi hl h0 h1
    obtain rfl : i = st.length := by omega
    refine ⟨st, Ev.step (fun q => by rw [laws_markContextS.l0]) ?_⟩
    simp only [Int.lt_irrefl, if_false]
    rw [show k + 2 * ((0 : Nat) : Int) = k by omega]
    exact Ev.now _
  | succ d ih =>
    intro st k i hd hi hl h0 h1
    have a1 : wrap64 (k + 1) = k + 1 := by unfold wrap64; omega
    have a2 : wrap64 (k + 1 + 1) = k + 2 := by unfold wrap64; omega
    have a3 : (i : Int) < (st.length : Int) := by omega
    have a4 : (0 : Int) ≤ (i : Int) := by omega
    obtain ⟨st', h⟩ := ih (((st.set i ⟨k, (rd_T86 st (i : Int)).f1⟩).set i ⟨(rd_T86 (st.set i ⟨k, (rd_T86 st (i : Int)).f1⟩) (i : Int)).f0, k + 1⟩)) (k + 2) (i + 1) (by simp only [List.length_set]; omega) (by simp only [List.length_set]; omega) (by simp only [List.length_set]; omega) (by omega) (by omega)
    refine ⟨st', Ev.step (fun q => by rw [laws_markContextS.l0]) ?_⟩
    simp only [a1, a2, a3, a4, if_true, Option.bind_some, Int.toNat_natCast, w64 i (by omega)]
    rw [show k + 2 * ((d + 1 : Nat) : Int) = k + 2 + 2 * (d : Int) by omega]
    exact h
theorem markC_ev (st : List S86) (k : Int) (hl : st.length ≤ 1048576) (h0 : 0 ≤ k) (h1 : k ≤ 1099511627776) : ∃ m st', 0 ≤ m ∧ m ≤ k + 2097152 ∧ Ev (fun q => laws_markContextS.f q st k) (m, st') := by
  obtain ⟨st', h⟩ := markC_l0 st.length st k 0 (by omega) (by omega) hl h0 (by omega)
  exact ⟨k + 2 * (st.length : Int), st', by omega, by omega, h⟩
theorem markR_l0 : ∀ (d : Nat) (st : List S95) (k : Int) (i : Nat), st.length - i = d → i ≤ st.length → st.length ≤ 1048576 → 0 ≤ k → k + 2 * d ≤ 4611686018427387904 → ∃ st', Ev (fun q => laws_markRelationS.l0 q st k (i : Int)) (k + 2 * d, st') := by
  intro d
  induction d with
  | zero =>
    intro st k i hd hi hl h0 h1
    obtain rfl : i = st.length := by omega
    refine ⟨st, Ev.step (fun q => by rw [laws_markRelationS.l0]) ?_⟩
    simp only [Int.lt_irrefl, if_false]
    rw [show k + 2 * ((0 : Nat) : Int) = k by omega]
    exact Ev.now _
  | succ d ih =>
    intro st k i hd hi hl h0 h1
    have a1 : wrap64 (k + 1) = k + 1 := by unfold wrap64; omega
    have a2 : wrap64 (k + 1 + 1) = k + 2 := by unfold wrap64; omega
    have a3 : (i : Int) < (st.length : Int) := by omega
    have a4 : (0 : Int) ≤ (i : Int) := by omega
    obtain ⟨st', h⟩ := ih (((st.set i ⟨k, (rd_T95 st (i : Int)).f1⟩).set i ⟨(rd_T95 (st.set i ⟨k, (rd_T95 st (i : Int)).f1⟩) (i : Int)).f0, k + 1⟩)) (k + 2) (i + 1) (by simp only [List.length_set]; omega) (by simp only [List.length_set]; omega) (by simp only [List.length_set]; omega) (by omega) (by omega)
    refine ⟨st', Ev.step (fun q => by rw [laws_markRelationS.l0]) ?_⟩
    simp only [a1, a2, a3, a4, if_true, Option.bind_some, Int.toNat_natCast, w64 i (by omega)]
    rw [show k + 2 * ((d + 1 : Nat) : Int) = k + 2 + 2 * (d : Int) by omega]
    exact h
theorem markR_ev (st : List S95) (k : Int) (hl : st.length ≤ 1048576) (h0 : 0 ≤ k) (h1 : k ≤ 1099511627776) : ∃ m st', 0 ≤ m ∧ m ≤ k + 2097152 ∧ Ev (fun q => laws_markRelationS.f q st k) (m, st') := by
  obtain ⟨st', h⟩ := markR_l0 st.length st k 0 (by omega) (by omega) hl h0 (by omega)
  exact ⟨k + 2 * (st.length : Int), st', by omega, by omega, h⟩
/-- Marking a record: what it answers is not below 0. -/
theorem markRecord_ev (cs : List S86) (rs : List S95) (k : Int) (hc : cs.length ≤ 1048576) (hr : rs.length ≤ 1048576) (h0 : 0 ≤ k) (h1 : k ≤ 1048576) : ∃ m x y, 0 ≤ m ∧ m ≤ 8388608 ∧ Ev (fun q => laws_markRecord.f q cs rs k) (m, x, y) := by
  obtain ⟨m, x, a, b, hm⟩ := markC_ev cs k hc h0 (by omega)
  obtain ⟨n, y, c, d, hn⟩ := markR_ev rs m hr a (by omega)
  refine ⟨n, x, y, c, by omega, ?_⟩
  unfold laws_markRecord.f
  exact Ev.bind hm (Ev.bind hn (Ev.now _))
theorem find_at (cs : List S86) (a : Int) (i : Nat) (h : find cs a = (i : Int)) : i < cs.length ∧ (cs.getD i z86).f0 = a := by
  obtain ⟨k, hk, e, hp, _⟩ := idxI_found (fun c : S86 => c.f0 == a) z86 cs (by unfold find at h; omega)
  have : i = k := by unfold find at h; omega
  subst this
  exact ⟨hk, by simpa using hp⟩
theorem abv_iff (cs : List S86) (rs : List S95) (i k : Nat) : abv cs rs i k = true ↔ ∃ y, y ∈ rs ∧ find cs y.f0 = (i : Int) ∧ find cs y.f1 = (k : Int) := by
  unfold abv
  rw [List.any_eq_true]
  constructor
  · rintro ⟨y, hy, h⟩
    simp only [Bool.and_eq_true, decide_eq_true_eq] at h
    exact ⟨y, hy, h.1, h.2⟩
  · rintro ⟨y, hy, h1, h2⟩
    exact ⟨y, hy, by simp [h1, h2]⟩
theorem ctxOk_pair : ∀ (cs : List S86) (p : Option Int), ctxOk p cs = true → cs.Pairwise (fun a b => a.f0 < b.f0) ∧ (∀ q, p = some q → ∀ c, c ∈ cs → q < c.f0)
  | [], _, _ => ⟨List.Pairwise.nil, fun _ _ _ h => by simp at h⟩
  | c :: r, p, h => by
    simp only [ctxOk, Bool.and_eq_true] at h
    obtain ⟨h1, h2⟩ := ctxOk_pair r _ h.2
    refine ⟨List.pairwise_cons.2 ⟨fun d hd => h2 _ rfl d hd, h1⟩, fun q hq d hd => ?_⟩
    subst hq
    have hqc : q < c.f0 := by simpa using h.1.2
    rcases List.mem_cons.1 hd with rfl | hd
    · exact hqc
    · have := h2 _ rfl d hd; omega
theorem before_iff (a b : S95) : before a b = true ↔ a.f0 < b.f0 ∨ (a.f0 = b.f0 ∧ a.f1 < b.f1) := by simp [before]
theorem relOk_pair (cs : List S86) : ∀ (rs : List S95) (p : Option S95), relOk cs p rs = true → rs.Pairwise (fun a b => before a b = true) ∧ (∀ q, p = some q → ∀ c, c ∈ rs → before q c = true)
  | [], _, _ => ⟨List.Pairwise.nil, fun _ _ _ h => by simp at h⟩
  | c :: r, p, h => by
    simp only [relOk, Bool.and_eq_true] at h
    obtain ⟨h1, h2⟩ := relOk_pair cs r _ h.2
    refine ⟨List.pairwise_cons.2 ⟨fun d hd => h2 _ rfl d hd, h1⟩, fun q hq d hd => ?_⟩
    subst hq
    have hqc : before q c = true := by simpa using h.1.2
    rcases List.mem_cons.1 hd with rfl | hd
    · exact hqc
    · have h3 := h2 _ rfl d hd
      rw [before_iff] at hqc h3 ⊢
      omega
theorem goodB_sorted {cs : List S86} {rs : List S95} (h : goodB cs rs = true) : cs.Pairwise (fun a b => a.f0 < b.f0) ∧ rs.Pairwise (fun a b => before a b = true) := by
  simp only [goodB, Bool.and_eq_true] at h
  exact ⟨(ctxOk_pair cs _ h.1.2).1, (relOk_pair cs rs _ h.2).1⟩
def updP (d : List Int) (x : Nat × Nat) : List Int := d.set x.2 (mx (d.getD x.2 0) (d.getD x.1 0 + 1))
/-! rounds of relaxing along edges (source, target) -/
def rounds (E : List (Nat × Nat)) (n r : Nat) : List Int := (List.range r).foldl (fun d _ => E.foldl updP d) (List.replicate n 0)
/-- A walk of j steps to b, over the contexts from lo on. -/
def wl (M : Nat → Nat → Bool) (n lo b : Nat) : Nat → Nat → Prop
  | 0, u => u = b
  | j + 1, u => ∃ x, lo ≤ x ∧ x < n ∧ M u x = true ∧ wl M n lo b j x
theorem setD (d : List Int) (i j : Nat) (v : Int) : (d.set i v).getD j 0 = if j = i ∧ j < d.length then v else d.getD j 0 := by
  rw [List.getD_eq_getElem?_getD, List.getD_eq_getElem?_getD, List.getElem?_set]
  by_cases h : i = j
  · subst h
    by_cases hl : i < d.length
    · rw [if_pos rfl, if_pos hl, if_pos ⟨rfl, hl⟩]; rfl
    · rw [if_pos rfl, if_neg hl, if_neg (fun h => hl h.2), List.getElem?_eq_none (by omega)]
  · rw [if_neg h, if_neg (by omega)]
theorem mn_le (a b : Int) : mn a b ≤ a ∧ mn a b ≤ b ∧ (mn a b = a ∨ mn a b = b) := by unfold mn; split <;> omega
section
variable {M : Nat → Nat → Bool} {n lo b : Nat}
theorem fStep_at (d : List Int) (i k j : Nat) : (fStep M b d i k).getD j 0 = if (M i k = true ∧ i ≠ b) ∧ j = i ∧ j < d.length then mn (d.getD i 0) (d.getD k 0 + 1) else d.getD j 0 := by
  unfold fStep
  by_cases h : M i k = true ∧ i ≠ b
  · rw [if_pos (by simp [h.1, h.2]), setD]
    by_cases h2 : j = i ∧ j < d.length
    · rw [if_pos h2, if_pos ⟨h, h2⟩]
    · rw [if_neg h2, if_neg (fun e => h2 e.2)]
  · rw [if_neg (by simpa using h), if_neg (fun e => h e.1)]
theorem fStep_mono (d : List Int) (i k j : Nat) : (fStep M b d i k).getD j 0 ≤ d.getD j 0 := by
  rw [fStep_at]
  split
  · rename_i h; rw [h.2.1]; exact (mn_le _ _).1
  · exact Int.le_refl _
theorem fStep_len (d : List Int) (i k : Nat) : (fStep M b d i k).length = d.length := by unfold fStep; split <;> simp
theorem fRow_len (d : List Int) (i m : Nat) : (fRow M b lo d i m).length = d.length := by
  induction m with
  | zero => rfl
  | succ m ih => rw [fRow_succ, fStep_len, ih]
theorem fRow_mono (d : List Int) (i m j : Nat) : (fRow M b lo d i m).getD j 0 ≤ d.getD j 0 := by
  induction m with
  | zero => exact Int.le_refl _
  | succ m ih => rw [fRow_succ]; exact Int.le_trans (fStep_mono _ _ _ _) ih
theorem fRow_ge (d : List Int) (i m e : Nat) (he : e < m) (hM : M i (lo + e) = true) (hib : i ≠ b) (hi : i < d.length) : (fRow M b lo d i m).getD i 0 ≤ d.getD (lo + e) 0 + 1 := by
  induction m with
  | zero => omega
  | succ m ih =>
    rw [fRow_succ]
    by_cases h : e = m
    · subst h
      rw [fStep_at, if_pos ⟨⟨hM, hib⟩, rfl, by rw [fRow_len]; exact hi⟩]
      have h1 := (mn_le ((fRow M b lo d i e).getD i 0) ((fRow M b lo d i e).getD (lo + e) 0 + 1)).2.1
      have h2 := fRow_mono (M := M) (b := b) (lo := lo) d i e (lo + e)
      omega
    · exact Int.le_trans (fStep_mono _ _ _ _) (ih (by omega))
theorem fRound_len (d : List Int) (m : Nat) : (fRound M b lo n d m).length = d.length := by
  induction m with
  | zero => rfl
  | succ m ih => rw [fRound_succ, fRow_len, ih]
theorem fRound_mono (d : List Int) (m j : Nat) : (fRound M b lo n d m).getD j 0 ≤ d.getD j 0 := by
  induction m with
  | zero => exact Int.le_refl _
  | succ m ih => rw [fRound_succ]; exact Int.le_trans (fRow_mono _ _ _ _) ih
theorem fRound_ge (d : List Int) (m i k : Nat) (hi : i < m) (hk : lo ≤ k ∧ k < n) (hM : M (lo + i) k = true) (hib : lo + i ≠ b) (hl : lo + i < d.length) : (fRound M b lo n d m).getD (lo + i) 0 ≤ d.getD k 0 + 1 := by
  induction m with
  | zero => omega
  | succ m ih =>
    rw [fRound_succ]
    by_cases h : i = m
    · subst h
      have h1 := fRow_ge (M := M) (b := b) (lo := lo) (fRound M b lo n d i) (lo + i) (n - lo) (k - lo) (by omega) (by rw [show lo + (k - lo) = k by omega]; exact hM) hib (by rw [fRound_len]; exact hl)
      rw [show lo + (k - lo) = k by omega] at h1
      have h2 := fRound_mono (M := M) (b := b) (lo := lo) (n := n) d i k
      omega
    · exact Int.le_trans (fRow_mono _ _ _ _) (ih (by omega))
/-- What is told of the distances at any time. -/
structure Far (M : Nat → Nat → Bool) (n lo b : Nat) (d : List Int) : Prop where
  len : d.length = n
  at_b : d.getD b 0 = 0
  told : ∀ u, u < n → d.getD u 0 = (n : Int) + 1 ∨ ∃ j : Nat, d.getD u 0 = (j : Int) ∧ j ≤ n ∧ wl M n lo b j u
theorem far_step {d : List Int} (h : Far M n lo b d) (i k : Nat) (hi : i < n) (hk : lo ≤ k ∧ k < n) : Far M n lo b (fStep M b d i k) := by
  refine ⟨by rw [fStep_len, h.len], ?_, fun u hu => ?_⟩
  · rw [fStep_at, if_neg (by omega)]; exact h.at_b
  · rw [fStep_at]
    split
    · rename_i hc
      obtain ⟨⟨hM, hib⟩, rfl, _⟩ := hc
      rcases (mn_le (d.getD u 0) (d.getD k 0 + 1)).2.2 with e | e
      · rw [e]; exact h.told u hu
      · have hle := (mn_le (d.getD u 0) (d.getD k 0 + 1)).1
        rw [e] at hle ⊢
        have hu2 := h.told u hu
        rcases h.told k hk.2 with e2 | ⟨j, e2, hj, hw⟩
        · rcases hu2 with e3 | ⟨q, e3, hq, _⟩ <;> omega
        · by_cases hjn : j + 1 ≤ n
          · exact .inr ⟨j + 1, by omega, hjn, k, hk.1, hk.2, hM, hw⟩
          · left
            omega
    · exact h.told u hu
theorem far_row {d : List Int} (h : Far M n lo b d) (i m : Nat) (hi : i < n) (hm : lo + m ≤ n) : Far M n lo b (fRow M b lo d i m) := by
  induction m with
  | zero => exact h
  | succ m ih => rw [fRow_succ]; exact far_step (ih (by omega)) i _ hi ⟨by omega, by omega⟩
theorem far_round {d : List Int} (h : Far M n lo b d) (m : Nat) (hlo : lo ≤ n) (hm : lo + m ≤ n) : Far M n lo b (fRound M b lo n d m) := by
  induction m with
  | zero => exact h
  | succ m ih => rw [fRound_succ]; exact far_row (ih (by omega)) _ _ (by omega) (by omega)
theorem far_init (hb : b < n) : Far M n lo b (fInit n b) := by
  refine ⟨by simp [fInit], by unfold fInit; rw [setD, if_pos ⟨rfl, by simpa using hb⟩], fun u hu => ?_⟩
  unfold fInit
  rw [setD]
  split
  · rename_i h; exact .inr ⟨0, rfl, Nat.zero_le _, h.1⟩
  · left; simp [List.getD_eq_getElem?_getD, hu]
theorem far_all (hb : b < n) (hlo : lo ≤ n) (m : Nat) : Far M n lo b (fAll M b lo n m) := by
  induction m with
  | zero => exact far_init hb
  | succ m ih => rw [fAll_succ]; exact far_round ih _ hlo (by omega)
theorem fAll_le (hb : b < n) (hlo : lo ≤ n) (m : Nat) : ∀ (j u : Nat), j ≤ m → lo ≤ u → u < n → wl M n lo b j u → (fAll M b lo n m).getD u 0 ≤ (j : Int) := by
  induction m with
  | zero =>
    intro j u hj _ _ hw
    obtain rfl : j = 0 := by omega
    obtain rfl : u = b := hw
    rw [(far_all (M := M) hb hlo 0).at_b]; exact Int.le_refl _
  | succ m ih =>
    intro j u hj hu hun hw
    by_cases hub : u = b
    · rw [hub, (far_all (M := M) hb hlo (m + 1)).at_b]; omega
    · cases j with
      | zero => exact absurd hw hub
      | succ j =>
        obtain ⟨x, hx1, hx2, hM, hw⟩ := hw
        have h1 := ih j x (by omega) hx1 hx2 hw
        rw [fAll_succ]
        have h2 := fRound_ge (M := M) (b := b) (lo := lo) (n := n) (fAll M b lo n m) (n - lo) (u - lo) x (by omega) ⟨hx1, hx2⟩ (by rw [show lo + (u - lo) = u by omega]; exact hM) (by omega) (by rw [(far_all (M := M) hb hlo m).len]; omega)
        rw [show lo + (u - lo) = u by omega] at h2
        omega
/-- The distances when all rounds are done. -/
structure Dist (M : Nat → Nat → Bool) (n lo b : Nat) (d : List Int) : Prop extends Far M n lo b d where
  le : ∀ (j u : Nat), j ≤ n → lo ≤ u → u < n → wl M n lo b j u → d.getD u 0 ≤ (j : Int)
theorem dist_all (hb : b < n) (hlo : lo ≤ n) : Dist M n lo b (fAll M b lo n n) := ⟨far_all hb hlo n, fAll_le hb hlo n⟩
theorem holds_all : ∀ (m : Nat) (l : List Nat), (∀ j, j < m → j ∈ l) → m ≤ l.length
  | 0, _, _ => Nat.zero_le _
  | m + 1, l, h => by
    have h1 := holds_all m (l.erase m) (fun j hj => (List.mem_erase_of_ne (by omega)).2 (h j (by omega)))
    have h2 := List.length_erase_of_mem (h m (by omega))
    have h3 : 0 < l.length := List.length_pos_of_mem (h m (by omega))
    omega
/-- No shortest walk has as many steps as there are contexts. -/
theorem dist_lt {d : List Int} (h : Dist M n lo b d) {u : Nat} (hlu : lo ≤ u) (hu : u < n) (hd : d.getD u 0 ≤ (n : Int)) : d.getD u 0 < (n : Int) := by
  obtain ⟨v, hv⟩ : ∃ v : Nat, d.getD u 0 = (v : Int) := by
    rcases h.told u hu with e | ⟨j, e, _⟩
    · exact ⟨n + 1, by omega⟩
    · exact ⟨j, e⟩
  have down : ∀ k : Nat, k ≤ v → ∃ x, lo ≤ x ∧ x < n ∧ d.getD x 0 = ((v - k : Nat) : Int) := by
    intro k
    induction k with
    | zero => intro _; exact ⟨u, hlu, hu, hv⟩
    | succ k ih =>
      intro hk
      obtain ⟨x, hx1, hx2, e⟩ := ih (by omega)
      rcases h.told x hx2 with e2 | ⟨j, e2, hj, hw⟩
      · omega
      · obtain ⟨j', rfl⟩ : ∃ j', j = j' + 1 := ⟨j - 1, by omega⟩
        obtain ⟨y, hy1, hy2, hM, hw2⟩ := hw
        have h1 := h.le j' y (by omega) hy1 hy2 hw2
        refine ⟨y, hy1, hy2, ?_⟩
        rcases h.told y hy2 with e3 | ⟨q, e3, hq, hw3⟩
        · omega
        · have h2 : d.getD x 0 ≤ ((q + 1 : Nat) : Int) := h.le (q + 1) x (by omega) hx1 hx2 ⟨y, hy1, hy2, hM, hw3⟩
          omega
  by_cases hvn : v < n
  · omega
  · exfalso
    have hall : ∀ j, j < n + 1 → j ∈ (List.range n).map (fun x => (d.getD x 0).toNat) := by
      intro j hj
      obtain ⟨x, _, hx, e⟩ := down (v - j) (by omega)
      rw [List.mem_map]
      exact ⟨x, List.mem_range.2 hx, by rw [e]; omega⟩
    have := holds_all (n + 1) _ hall
    rw [List.length_map, List.length_range] at this
    omega
end
/-! the reference's steps -/
def stCond (cs : List S86) (b r : Int) (d : List Int) (x : S95) : Prop := (r = 1 ∧ find cs x.f1 = b) ∨ (1 < r ∧ d.getD (find cs x.f1).toNat 0 = r - 1)
instance stCond_dec (cs : List S86) (b r : Int) (d : List Int) (x : S95) : Decidable (stCond cs b r d x) := by unfold stCond; infer_instance
theorem stC_iff (cs : List S86) (b r : Int) (d : List Int) (x : S95) : stC cs b r d x = true ↔ d.getD (find cs x.f0).toNat 0 = 0 ∧ stCond cs b r d x := by
  simp only [stC, stCond, Bool.and_eq_true, Bool.or_eq_true, beq_iff_eq, decide_eq_true_eq]
theorem stS_at (cs : List S86) (b r : Int) (d : List Int) (x : S95) (u : Nat) (hx : (find cs x.f0).toNat < d.length) : (stS cs b r d x).getD u 0 = if d.getD u 0 = 0 ∧ (find cs x.f0).toNat = u ∧ stCond cs b r d x then r else d.getD u 0 := by
  unfold stS
  by_cases hc : stC cs b r d x = true
  · obtain ⟨h0, h1⟩ := (stC_iff cs b r d x).1 hc
    rw [if_pos hc, setD]
    by_cases e : u = (find cs x.f0).toNat
    · rw [if_pos ⟨e, by omega⟩, if_pos ⟨by rw [e]; exact h0, e.symm, h1⟩]
    · rw [if_neg (by omega), if_neg (fun hh => e hh.2.1.symm)]
  · rw [if_neg hc, if_neg]
    rintro ⟨h1, h2, h3⟩
    exact hc ((stC_iff cs b r d x).2 ⟨by rw [h2]; exact h1, h3⟩)
theorem stR_at (cs : List S86) (b r : Int) (hr : 1 ≤ r) : ∀ (l : List S95) (d : List Int) (u : Nat), (∀ x ∈ l, (find cs x.f0).toNat < d.length) → ((stR cs l b r d).getD u 0 = r ∧ d.getD u 0 = 0 ∧ ∃ x ∈ l, (find cs x.f0).toNat = u ∧ stCond cs b r d x) ∨ ((stR cs l b r d).getD u 0 = d.getD u 0 ∧ ¬ (d.getD u 0 = 0 ∧ ∃ x ∈ l, (find cs x.f0).toNat = u ∧ stCond cs b r d x))
  | [], d, u, _ => .inr ⟨rfl, fun h => by obtain ⟨_, x, hx, _⟩ := h; simp at hx⟩
  | x :: q, d, u, hl => by
    have hx := hl x List.mem_cons_self
    have hs := fun v => stS_at cs b r d x v hx
    have hcond : ∀ y : S95, stCond cs b r (stS cs b r d x) y ↔ stCond cs b r d y := by
      intro y
      unfold stCond
      rw [hs]
      by_cases h : d.getD (find cs y.f1).toNat 0 = 0 ∧ (find cs x.f0).toNat = (find cs y.f1).toNat ∧ stCond cs b r d x
      · rw [if_pos h, h.1]
        constructor
        · rintro (h1 | ⟨h1, h2⟩)
          · exact .inl h1
          · omega
        · rintro (h1 | ⟨h1, h2⟩)
          · exact .inl h1
          · omega
      · rw [if_neg h]
    have ih := stR_at cs b r hr q (stS cs b r d x) u (fun y hy => by rw [stS_len]; exact hl y (List.mem_cons_of_mem _ hy))
    show ((stR cs q b r (stS cs b r d x)).getD u 0 = r ∧ _) ∨ ((stR cs q b r (stS cs b r d x)).getD u 0 = d.getD u 0 ∧ _)
    by_cases h : d.getD u 0 = 0 ∧ (find cs x.f0).toNat = u ∧ stCond cs b r d x
    · have e := hs u
      rw [if_pos h] at e
      left
      refine ⟨?_, h.1, x, List.mem_cons_self, h.2⟩
      rcases ih with ⟨h1, _⟩ | ⟨h1, _⟩
      · exact h1
      · rw [h1, e]
    · have e := hs u
      rw [if_neg h] at e
      rw [e] at ih
      rcases ih with ⟨h1, h2, y, hy, h3, h4⟩ | ⟨h1, h2⟩
      · exact .inl ⟨h1, h2, y, List.mem_cons_of_mem _ hy, h3, (hcond y).1 h4⟩
      · refine .inr ⟨h1, ?_⟩
        rintro ⟨h3, y, hy, h4, h5⟩
        rcases List.mem_cons.1 hy with rfl | hy
        · exact h ⟨h3, h4, h5⟩
        · exact h2 ⟨h3, y, hy, h4, (hcond y).2 h5⟩
structure Steps (M : Nat → Nat → Bool) (n b m : Nat) (d : List Int) : Prop where
  len : d.length = n
  told : ∀ u, u < n → (d.getD u 0 = 0 ∧ ∀ j, 1 ≤ j → j ≤ m → ¬ wl M n 0 b j u) ∨ ∃ v : Nat, d.getD u 0 = (v : Int) ∧ 1 ≤ v ∧ v ≤ m ∧ wl M n 0 b v u ∧ ∀ j, 1 ≤ j → j < v → ¬ wl M n 0 b j u
theorem steps_all {cs : List S86} {rs : List S95} (hin : relsIn cs rs) (b : Nat) (hb : b < cs.length) (m : Nat) : Steps (abv cs rs) cs.length b m (stA cs rs (b : Int) m) := by
  induction m with
  | zero =>
    refine ⟨stA_len cs rs _ 0, fun u hu => .inl ⟨?_, fun j h1 h2 => by omega⟩⟩
    simp [stA, List.getD_eq_getElem?_getD, hu]
  | succ m ih =>
    refine ⟨stA_len cs rs _ (m + 1), fun u hu => ?_⟩
    have hbd : ∀ x ∈ rs, (find cs x.f0).toNat < (stA cs rs (b : Int) m).length := by
      intro x hx
      obtain ⟨a, ha, hal⟩ := find_nat cs x.f0 (hin x hx).1
      rw [ha, Int.toNat_natCast, ih.len]; exact hal
    have hat := stR_at cs (b : Int) ((m : Int) + 1) (by omega) rs (stA cs rs (b : Int) m) u hbd
    have hgo : (∃ x ∈ rs, (find cs x.f0).toNat = u ∧ stCond cs (b : Int) ((m : Int) + 1) (stA cs rs (b : Int) m) x) ↔ ∃ l, l < cs.length ∧ abv cs rs u l = true ∧ ((m = 0 ∧ l = b) ∨ (1 ≤ m ∧ (stA cs rs (b : Int) m).getD l 0 = (m : Int))) := by
      constructor
      · rintro ⟨x, hx, h1, h2⟩
        obtain ⟨a, ha, hal⟩ := find_nat cs x.f0 (hin x hx).1
        obtain ⟨l, hl, hll⟩ := find_nat cs x.f1 (hin x hx).2
        rw [ha, Int.toNat_natCast] at h1
        subst h1
        refine ⟨l, hll, (abv_iff cs rs a l).2 ⟨x, hx, ha, hl⟩, ?_⟩
        unfold stCond at h2
        rw [hl, Int.toNat_natCast] at h2
        rcases h2 with ⟨h2, h3⟩ | ⟨h2, h3⟩
        · exact .inl ⟨by omega, by omega⟩
        · exact .inr ⟨by omega, by omega⟩
      · rintro ⟨l, hll, hM, hc⟩
        obtain ⟨x, hx, ha, hl⟩ := (abv_iff cs rs u l).1 hM
        refine ⟨x, hx, by rw [ha, Int.toNat_natCast], ?_⟩
        unfold stCond
        rw [hl, Int.toNat_natCast]
        rcases hc with ⟨h2, h3⟩ | ⟨h2, h3⟩
        · exact .inl ⟨by omega, by omega⟩
        · exact .inr ⟨by omega, by omega⟩
    show ((stR cs rs (b : Int) ((m : Int) + 1) (stA cs rs (b : Int) m)).getD u 0 = 0 ∧ _) ∨ ∃ v : Nat, (stR cs rs (b : Int) ((m : Int) + 1) (stA cs rs (b : Int) m)).getD u 0 = (v : Int) ∧ _
    rw [hgo] at hat
    rcases hat with ⟨h1, h2, l, hll, hM, hc⟩ | ⟨h1, h2⟩
    · right
      have hno : ∀ j, 1 ≤ j → j ≤ m → ¬ wl (abv cs rs) cs.length 0 b j u := by
        rcases ih.told u hu with ⟨_, h3⟩ | ⟨v, h3, h4, _⟩
        · exact h3
        · omega
      refine ⟨m + 1, by rw [h1]; omega, by omega, by omega, ⟨l, Nat.zero_le _, hll, hM, ?_⟩, fun j hj1 hj2 => hno j hj1 (by omega)⟩
      rcases hc with ⟨h3, h4⟩ | ⟨h3, h4⟩
      · subst h3; exact h4
      · rcases ih.told l hll with ⟨h5, _⟩ | ⟨v, h5, _, _, h6, _⟩
        · omega
        · obtain rfl : v = m := by omega
          exact h6
    · rcases ih.told u hu with ⟨h3, h4⟩ | ⟨v, h3, h4, h5, h6, h7⟩
      · left
        refine ⟨by rw [h1, h3], fun j hj1 hj2 hw => ?_⟩
        by_cases e : j ≤ m
        · exact h4 j hj1 e hw
        · obtain rfl : j = m + 1 := by omega
          obtain ⟨l, _, hll, hM, hw⟩ := hw
          apply h2
          refine ⟨h3, l, hll, hM, ?_⟩
          by_cases hm0 : m = 0
          · subst hm0; exact .inl ⟨rfl, hw⟩
          · right
            refine ⟨by omega, ?_⟩
            rcases ih.told l hll with ⟨_, h5⟩ | ⟨v, h5, h6, h7, h8, h9⟩
            · exact absurd hw (h5 m (by omega) (Nat.le_refl _))
            · by_cases e2 : v = m
              · rw [h5, e2]
              · exact absurd ⟨l, Nat.zero_le _, hll, hM, h8⟩ (h4 (v + 1) (by omega) (by omega))
      · exact .inr ⟨v, by rw [h1, h3], h4, by omega, h6, h7⟩
/-! the chosen next context -/
theorem sel_least {M : Nat → Nat → Bool} {d : List Int} {n a lo : Nat} {v : Int} (hv : v ≤ (n : Int)) (hmin : ∀ l, lo ≤ l → l < n → M a l = true → d.getD l 0 ≤ (n : Int) → v ≤ d.getD l 0) {k : Nat} (hk : lo ≤ k ∧ k < n) (hM : M a k = true) (hd : d.getD k 0 = v) (hfirst : ∀ j, lo ≤ j → j < k → M a j = true → d.getD j 0 ≠ v) : selTo M d n a lo (n - lo) = (k : Int) := by
  have key : ∀ m, lo + m ≤ n → (lo + m ≤ k → (selTo M d n a lo m = -1 ∨ ∃ q : Nat, lo ≤ q ∧ q < lo + m ∧ selTo M d n a lo m = (q : Int) ∧ M a q = true ∧ d.getD q 0 ≤ (n : Int) ∧ d.getD q 0 ≠ v)) ∧ (k < lo + m → selTo M d n a lo m = (k : Int)) := by
    intro m
    induction m with
    | zero => intro _; exact ⟨fun _ => .inl rfl, fun h => by omega⟩
    | succ m ih =>
      intro hm
      obtain ⟨ih1, ih2⟩ := ih (by omega)
      rw [selTo_succ]
      refine ⟨fun hle => ?_, fun hlt => ?_⟩
      · have h1 := ih1 (by omega)
        unfold selStep
        split
        · rename_i hc
          simp only [Bool.and_eq_true, decide_eq_true_eq] at hc
          exact .inr ⟨lo + m, by omega, by omega, rfl, hc.1.1, hc.1.2, hfirst _ (by omega) (by omega) hc.1.1⟩
        · rcases h1 with h1 | ⟨q, hq1, hq2, h1⟩
          · exact .inl h1
          · exact .inr ⟨q, hq1, by omega, h1⟩
      · by_cases e : k = lo + m
        · have h1 := ih1 (by omega)
          unfold selStep
          rw [if_pos, e]
          rw [← e]
          simp only [Bool.and_eq_true, Bool.or_eq_true, decide_eq_true_eq]
          refine ⟨⟨hM, by rw [hd]; exact hv⟩, ?_⟩
          rcases h1 with h1 | ⟨q, hq1, hq2, h1, hMq, hqn, hqv⟩
          · left; rw [h1]; omega
          · right
            rw [h1, Int.toNat_natCast, hd]
            have := hmin q hq1 (by omega) hMq hqn
            omega
        · have h1 := ih2 (by omega)
          rw [h1]
          unfold selStep
          rw [if_neg]
          simp only [Bool.and_eq_true, Bool.or_eq_true, decide_eq_true_eq]
          rintro ⟨⟨h2, h3⟩, h4 | h4⟩
          · omega
          · rw [Int.toNat_natCast, hd] at h4
            have := hmin _ (by omega) (by omega) h2 h3
            omega
  exact (key (n - lo) (by omega)).2 (by omega)
theorem sel_none {M : Nat → Nat → Bool} {d : List Int} {n a lo : Nat} (hno : ∀ l, lo ≤ l → l < n → M a l = true → ¬ d.getD l 0 ≤ (n : Int)) : selTo M d n a lo (n - lo) = -1 := by
  have key : ∀ m, lo + m ≤ n ∨ m = 0 → selTo M d n a lo m = -1 := by
    intro m
    induction m with
    | zero => intro _; rfl
    | succ m ih =>
      intro hm
      rw [selTo_succ, ih (by omega)]
      unfold selStep
      rw [if_neg]
      simp only [Bool.and_eq_true, decide_eq_true_eq]
      rintro ⟨⟨h1, h2⟩, _⟩
      exact hno _ (by omega) (by omega) h1 h2
  exact key (n - lo) (by omega)
/-- The least index that a test holds of. -/
theorem least_of {P : Nat → Prop} : ∀ (k : Nat), P k → ∃ m, P m ∧ ∀ j, j < m → ¬ P j := by
  intro k
  induction k using Nat.strongRecOn with
  | _ k ih =>
    intro hk
    by_cases h : ∃ j, j < k ∧ P j
    · obtain ⟨j, hj, hp⟩ := h
      exact ih j hj hp
    · exact ⟨k, hk, fun j hj hp => h ⟨j, hj, hp⟩⟩
theorem spSel_least {cs : List S86} {rs : List S95} (hg : goodB cs rs = true) (st : List Int) (b a v : Nat) (ha : a < cs.length) {k : Nat} (hk : abv cs rs a k = true) (hc : (v = 1 ∧ k = b) ∨ (1 < v ∧ st.getD k 0 = (v : Int) - 1)) (hfirst : ∀ j, j < k → abv cs rs a j = true → ¬ ((v = 1 ∧ j = b) ∨ (1 < v ∧ st.getD j 0 = (v : Int) - 1))) : spSel cs rs st (b : Int) a (v : Int) rs.length = (k : Int) := by
  obtain ⟨_, _, hin⟩ := goodB_parts hg
  obtain ⟨hsc, hsr⟩ := goodB_sorted hg
  have hB : ∀ x ∈ rs, ∀ l : Nat, find cs x.f1 = (l : Int) → (spB cs st (b : Int) a (v : Int) x = true ↔ abv cs rs a l = true ∧ x.f0 = (cs.getD a z86).f0 ∧ ((v = 1 ∧ l = b) ∨ (1 < v ∧ st.getD l 0 = (v : Int) - 1))) := by
    intro x hx l hl
    unfold spB
    rw [hl, Int.toNat_natCast]
    simp only [Bool.and_eq_true, Bool.or_eq_true, beq_iff_eq, decide_eq_true_eq]
    constructor
    · rintro ⟨h1, h2⟩
      refine ⟨?_, h1, ?_⟩
      · obtain ⟨i, hi, hil⟩ := find_nat cs x.f0 (hin x hx).1
        have h3 := (find_at cs x.f0 i hi).2
        have : i = a := by
          rcases Nat.lt_trichotomy i a with e | e | e
          · have h4 := List.pairwise_iff_getElem.1 hsc i a hil ha e
            rw [← getDC cs i hil, ← getDC cs a ha] at h4; omega
          · exact e
          · have h4 := List.pairwise_iff_getElem.1 hsc a i ha hil e
            rw [← getDC cs i hil, ← getDC cs a ha] at h4; omega
        subst this
        exact (abv_iff cs rs i l).2 ⟨x, hx, hi, hl⟩
      · rcases h2 with ⟨h2, h3⟩ | ⟨h2, h3⟩
        · exact .inl ⟨by omega, by omega⟩
        · exact .inr ⟨by omega, h3⟩
    · rintro ⟨_, h1, h2⟩
      refine ⟨h1, ?_⟩
      rcases h2 with ⟨h2, h3⟩ | ⟨h2, h3⟩
      · exact .inl ⟨by omega, by omega⟩
      · exact .inr ⟨by omega, h3⟩
  obtain ⟨y, hy, hy0, hy1⟩ := (abv_iff cs rs a k).1 hk
  have hyB : spB cs st (b : Int) a (v : Int) y = true := (hB y hy k hy1).2 ⟨hk, (find_at cs y.f0 a hy0).2.symm, hc⟩
  have key : ∀ m, m ≤ rs.length → (∀ x ∈ rs.take m, spB cs st (b : Int) a (v : Int) x = true → spSel cs rs st (b : Int) a (v : Int) m ≠ -1 ∧ spSel cs rs st (b : Int) a (v : Int) m ≤ find cs x.f1) ∧ (spSel cs rs st (b : Int) a (v : Int) m = -1 ∨ ∃ x ∈ rs, spB cs st (b : Int) a (v : Int) x = true ∧ spSel cs rs st (b : Int) a (v : Int) m = find cs x.f1) := by
    intro m
    induction m with
    | zero => intro _; exact ⟨fun x hx => by simp at hx, .inl (by simp [spSel])⟩
    | succ m ih =>
      intro hm
      obtain ⟨ih1, ih2⟩ := ih (by omega)
      have hlt : m < rs.length := by omega
      rw [spSel_succ cs rs st _ a _ m hlt, getDR rs m hlt]
      have hmem := List.getElem_mem hlt
      generalize spSel cs rs st (b : Int) a (v : Int) m = s at ih1 ih2 ⊢
      have hs0 : s = -1 ∨ 0 ≤ s := by
        rcases ih2 with h | ⟨x, hx, _, h⟩
        · exact .inl h
        · have := (hin x hx).2; omega
      rw [List.take_succ_eq_append_getElem hlt]
      by_cases hbm : spB cs st (b : Int) a (v : Int) rs[m] = true
      · have hf := (hin rs[m] hmem).2
        by_cases hcond : s < 0 ∨ find cs rs[m].f1 < s
        · rw [if_pos (by simp only [Bool.and_eq_true, Bool.or_eq_true, decide_eq_true_eq]; exact ⟨hbm, hcond⟩)]
          refine ⟨fun x hx hxb => ⟨by omega, ?_⟩, .inr ⟨_, hmem, hbm, rfl⟩⟩
          rcases List.mem_append.1 hx with hx | hx
          · have := ih1 x hx hxb; omega
          · rw [List.mem_singleton.1 hx]; exact Int.le_refl _
        · rw [if_neg (by simp only [Bool.and_eq_true, Bool.or_eq_true, decide_eq_true_eq]; exact fun h => hcond h.2)]
          refine ⟨fun x hx hxb => ?_, ih2⟩
          rcases List.mem_append.1 hx with hx | hx
          · exact ih1 x hx hxb
          · rw [List.mem_singleton.1 hx]; exact ⟨by omega, by omega⟩
      · rw [if_neg (by simp only [Bool.and_eq_true]; exact fun h => hbm h.1)]
        refine ⟨fun x hx hxb => ?_, ih2⟩
        rcases List.mem_append.1 hx with hx | hx
        · exact ih1 x hx hxb
        · rw [List.mem_singleton.1 hx] at hxb; exact absurd hxb hbm
  obtain ⟨k1, k2⟩ := key rs.length (Nat.le_refl _)
  rw [List.take_length] at k1
  obtain ⟨h1, h2⟩ := k1 y hy hyB
  rcases k2 with h | ⟨x, hx, hxb, h⟩
  · exact absurd h h1
  · obtain ⟨l, hl, hll⟩ := find_nat cs x.f1 (hin x hx).2
    obtain ⟨h3, h4, h5⟩ := (hB x hx l hl).1 hxb
    rw [hy1] at h2
    by_cases e : l < k
    · exact absurd h5 (hfirst l e h3)
    · omega
/-- Both ways choose the same shortest chain. -/
theorem chain_same {cs : List S86} {rs : List S95} (hg : goodB cs rs = true) (b : Nat) (hb : b < cs.length) : ∀ (v a F : Nat), a < cs.length → v ≤ F → (stA cs rs (b : Int) cs.length).getD a 0 = (v : Int) → 1 ≤ v → ∃ t, chainGo (abv cs rs) (fAll (abv cs rs) b 0 cs.length cs.length) cs.length b 0 F a = some (some t) ∧ spGo cs rs (stA cs rs (b : Int) cs.length) (b : Int) v a = some (numI cs t) ∧ t.length = v := by
  obtain ⟨hn, hm, hin⟩ := goodB_parts hg
  have hD := dist_all (M := abv cs rs) (lo := 0) hb (Nat.zero_le _)
  have hS := steps_all hin b hb cs.length
  generalize fAll (abv cs rs) b 0 cs.length cs.length = d at hD ⊢
  generalize stA cs rs (b : Int) cs.length = st at hS ⊢
  intro v
  induction v with
  | zero => intro a F _ _ _ h; omega
  | succ v ih =>
    intro a F ha hF hst _
    obtain ⟨F, rfl⟩ : ∃ q, F = q + 1 := ⟨F - 1, by omega⟩
    have hSa : (v + 1 ≤ cs.length ∧ wl (abv cs rs) cs.length 0 b (v + 1) a) ∧ ∀ j, 1 ≤ j → j < v + 1 → ¬ wl (abv cs rs) cs.length 0 b j a := by
      rcases hS.told a ha with ⟨h, _⟩ | ⟨q, h, _, h2, h3, h4⟩
      · omega
      · obtain rfl : q = v + 1 := by omega
        exact ⟨⟨h2, h3⟩, h4⟩
    obtain ⟨⟨hvn, x, _, hx, hMx, hwx⟩, hno⟩ := hSa
    have hmin : ∀ l, 0 ≤ l → l < cs.length → abv cs rs a l = true → d.getD l 0 ≤ (cs.length : Int) → (v : Int) ≤ d.getD l 0 := by
      intro l _ hl hMl hdl
      rcases hD.told l hl with e | ⟨j, e, _, hw⟩
      · omega
      · by_cases h : j < v
        · exact absurd ⟨l, Nat.zero_le _, hl, hMl, hw⟩ (hno (j + 1) (by omega) (by omega))
        · omega
    have hdx : d.getD x 0 = (v : Int) := by
      have h1 := hD.le v x (by omega) (Nat.zero_le _) hx hwx
      have h2 := hmin x (Nat.zero_le _) hx hMx (by omega)
      omega
    obtain ⟨k, ⟨hk, hMk, hdk⟩, hfirst⟩ := least_of (P := fun k => k < cs.length ∧ abv cs rs a k = true ∧ d.getD k 0 = (v : Int)) x ⟨hx, hMx, hdx⟩
    have hsel := sel_least (lo := 0) (by omega) hmin ⟨Nat.zero_le _, hk⟩ hMk hdk (fun j _ hj hMj e => hfirst j hj ⟨by omega, hMj, e⟩)
    have hcond : ∀ l, l < cs.length → abv cs rs a l = true → (d.getD l 0 = (v : Int) ↔ ((v + 1 = 1 ∧ l = b) ∨ (1 < v + 1 ∧ st.getD l 0 = ((v + 1 : Nat) : Int) - 1))) := by
      intro l hl hMl
      by_cases hv0 : v = 0
      · subst hv0
        constructor
        · intro e
          left
          rcases hD.told l hl with e2 | ⟨j, e2, _, hw⟩
          · omega
          · obtain rfl : j = 0 := by omega
            exact ⟨rfl, hw⟩
        · rintro (⟨_, h⟩ | ⟨h, _⟩)
          · rw [h, hD.at_b]; rfl
          · omega
      · have hlb : l ≠ b := by
          intro e
          exact hno 1 (by omega) (by omega) ⟨l, Nat.zero_le _, hl, hMl, e⟩
        constructor
        · intro e
          right
          refine ⟨by omega, ?_⟩
          rcases hD.told l hl with e2 | ⟨j, e2, hj, hw⟩
          · omega
          · obtain rfl : j = v := by omega
            rcases hS.told l hl with ⟨_, h⟩ | ⟨q, h, hq1, hq2, hwq, h4⟩
            · exact absurd hw (h j (by omega) hj)
            · have h5 := hD.le q l hq2 (Nat.zero_le _) hl hwq
              by_cases e3 : j < q
              · exact absurd hw (h4 j (by omega) e3)
              · rw [h]; omega
        · rintro (⟨h, _⟩ | ⟨_, h⟩)
          · omega
          · rcases hS.told l hl with ⟨h2, _⟩ | ⟨q, h2, hq1, hq2, hwq, h4⟩
            · omega
            · obtain rfl : q = v := by omega
              have h5 := hD.le q l hq2 (Nat.zero_le _) hl hwq
              have h6 := hmin l (Nat.zero_le _) hl hMl (by omega)
              omega
    have hsp := spSel_least hg st b a (v + 1) ha hMk ((hcond k hk hMk).1 hdk) (fun j hj hMj hc => hfirst j hj ⟨by omega, hMj, (hcond j (by omega) hMj).2 hc⟩)
    have e1 : chainGo (abv cs rs) d cs.length b 0 (F + 1) a = if (k : Int) = (b : Int) then some (some [(k : Int)]) else (chainGo (abv cs rs) d cs.length b 0 F k).map (fun o => o.map ((k : Int) :: ·)) := by
      simp only [chainGo, Nat.sub_zero] at hsel ⊢
      rw [hsel, if_neg (by omega), Int.toNat_natCast]
    have e2 : spGo cs rs st (b : Int) (v + 1) a = (spGo cs rs st (b : Int) v k).map ((cs.getD k z86).f0 :: ·) := by
      simp only [spGo]
      rw [hsp, if_neg (by omega), Int.toNat_natCast]
    by_cases hkb : k = b
    · have hv0 : v = 0 := by
        by_cases h : v = 0
        · exact h
        · rw [hkb, hD.at_b] at hdk; omega
      subst hv0
      refine ⟨[(k : Int)], ?_, ?_, rfl⟩
      · rw [e1, if_pos (by omega)]
      · rw [e2]; simp [spGo, numI]
    · have hv0 : 1 ≤ v := by
        by_cases h : v = 0
        · subst h
          rcases (hcond k hk hMk).1 hdk with ⟨_, h⟩ | ⟨h, _⟩
          · exact absurd h hkb
          · omega
        · omega
      have hstk : st.getD k 0 = (v : Int) := by
        rcases (hcond k hk hMk).1 hdk with ⟨h, _⟩ | ⟨_, h⟩
        · omega
        · omega
      obtain ⟨t, ht1, ht2, ht3⟩ := ih k F hk (by omega) hstk hv0
      refine ⟨(k : Int) :: t, ?_, ?_, by rw [List.length_cons, ht3]⟩
      · rw [e1, if_neg (by omega), ht1]; rfl
      · rw [e2, ht2]; simp [numI]
section
variable {M : Nat → Nat → Bool} {n lo b : Nat}
theorem wl_zero : ∀ (j u : Nat), wl M n lo b j u → wl M n 0 b j u
  | 0, _, h => h
  | j + 1, _, ⟨x, _, h2, h3, h4⟩ => ⟨x, Nat.zero_le _, h2, h3, wl_zero j x h4⟩
theorem wl_app {c x : Nat} : ∀ (p q a : Nat), wl M n 0 x p a → wl M n 0 c q x → wl M n 0 c (p + q) a
  | 0, q, a, h, k => by
    obtain rfl : a = x := h
    rw [Nat.zero_add]; exact k
  | p + 1, q, a, ⟨y, h1, h2, h3, h4⟩, k => by
    rw [show p + 1 + q = (p + q) + 1 by omega]
    exact ⟨y, h1, h2, h3, wl_app p q y h4 k⟩
theorem wl_split : ∀ (j a : Nat), wl M n 0 b j a → wl M n lo b j a ∨ ∃ i p q, i < lo ∧ i < n ∧ p + q = j ∧ wl M n 0 i p a ∧ wl M n 0 b q i
  | 0, _, h => .inl h
  | j + 1, a, ⟨x, h1, h2, h3, h4⟩ => by
    by_cases hx : lo ≤ x
    · rcases wl_split j x h4 with h | ⟨i, p, q, e1, e2, e3, e4, e5⟩
      · exact .inl ⟨x, hx, h2, h3, h⟩
      · exact .inr ⟨i, p + 1, q, e1, e2, by omega, ⟨x, h1, h2, h3, e4⟩, e5⟩
    · exact .inr ⟨x, 1, j, by omega, h2, by omega, ⟨x, h1, h2, h3, rfl⟩, h4⟩
/-- A closed walk, begun at its least context, stays from that one on. -/
theorem cyc_down (L : Nat) : ∀ (i : Nat), wl M n 0 i L i → ∃ i0, i0 ≤ i ∧ wl M n i0 i0 L i0 := by
  intro i
  induction i using Nat.strongRecOn with
  | _ i ih =>
    intro h
    rcases wl_split (lo := i) L i h with h | ⟨i', p, q, e1, e2, e3, e4, e5⟩
    · exact ⟨i, Nat.le_refl _, h⟩
    · have h2 := wl_app q p i' e5 e4
      rw [show q + p = L by omega] at h2
      obtain ⟨i0, h3, h4⟩ := ih i' e1 h2
      exact ⟨i0, by omega, h4⟩
/-- The first of the walks of v steps. -/
def Can (M : Nat → Nat → Bool) (n lo b : Nat) : Nat → Nat → List Int → Prop
  | 0, a, t => a = b ∧ t = []
  | v + 1, a, t => ∃ (k : Nat) (t' : List Int), t = (k : Int) :: t' ∧ (lo ≤ k ∧ k < n ∧ M a k = true ∧ wl M n lo b v k) ∧ (∀ j, lo ≤ j → j < k → M a j = true → ¬ wl M n lo b v j) ∧ Can M n lo b v k t'
theorem can_uniq : ∀ (v a : Nat) (t t' : List Int), Can M n lo b v a t → Can M n lo b v a t' → t = t'
  | 0, _, _, _, h, h' => h.2.trans h'.2.symm
  | v + 1, a, _, _, ⟨k, t, rfl, hk, hf, hc⟩, ⟨k', t', rfl, hk', hf', hc'⟩ => by
    have e : k = k' := by
      rcases Nat.lt_trichotomy k k' with h | h | h
      · exact absurd hk.2.2.2 (hf' k hk.1 h hk.2.2.1)
      · exact h
      · exact absurd hk'.2.2.2 (hf k' hk'.1 h hk'.2.2.1)
    subst e
    rw [can_uniq v k t t' hc hc']
theorem can_in : ∀ (v a : Nat) (t : List Int), Can M n lo b v a t → ∀ x ∈ t, (lo : Int) ≤ x ∧ x < (n : Int)
  | 0, _, _, ⟨_, h⟩, x, hx => by subst h; simp at hx
  | v + 1, a, _, ⟨k, t, rfl, hk, _, hc⟩, x, hx => by
    rcases List.mem_cons.1 hx with rfl | hx
    · omega
    · exact can_in v k t hc x hx
theorem can_lo {R : Nat} (hC : ∀ i p q, i < lo → wl M n 0 i p b → wl M n 0 b q i → R < p + q) : ∀ (v s a : Nat) (t : List Int), wl M n 0 a s b → s + v ≤ R → Can M n 0 b v a t → Can M n lo b v a t
  | 0, _, _, _, _, _, h => h
  | v + 1, s, a, _, hs, hle, ⟨k, t, rfl, ⟨_, hk, hM, hw⟩, hf, hc⟩ => by
    have hs1 : wl M n 0 k (s + 1) b := wl_app s 1 b hs ⟨k, Nat.zero_le _, hk, hM, rfl⟩
    have hlo : lo ≤ k := by
      by_cases h : lo ≤ k
      · exact h
      · have := hC k (s + 1) v (by omega) hs1 hw; omega
    have hwl : wl M n lo b v k := by
      rcases wl_split (lo := lo) v k hw with h | ⟨i, p, q, e1, e2, e3, e4, e5⟩
      · exact h
      · have := hC i (s + 1 + p) q e1 (wl_app (s + 1) p b hs1 e4) e5; omega
    exact ⟨k, t, rfl, ⟨hlo, hk, hM, hwl⟩, fun j _ hj hMj hwj => hf j (Nat.zero_le _) hj hMj (wl_zero v j hwj), can_lo hC v (s + 1) k t hs1 (by omega) hc⟩
theorem can_ge (hlb : lo ≤ b) : ∀ (v a : Nat) (t : List Int), Can M n 0 b v a t → (∀ x ∈ t.take (v - 1), (lo : Int) ≤ x) → wl M n lo b v a
  | 0, _, _, ⟨h, _⟩, _ => h
  | v + 1, a, _, ⟨k, t, rfl, ⟨_, hk, hM, hw⟩, _, hc⟩, hx => by
    have hx' : ∀ x ∈ ((k : Int) :: t).take v, (lo : Int) ≤ x := hx
    cases v with
    | zero =>
      obtain rfl : k = b := hw
      exact ⟨k, hlb, hk, hM, rfl⟩
    | succ v =>
      rw [List.take_succ_cons] at hx'
      have h1 := hx' (k : Int) List.mem_cons_self
      exact ⟨k, by omega, hk, hM, can_ge hlb (v + 1) k t hc (fun x h => hx' x (List.mem_cons_of_mem _ h))⟩
theorem chain_can {d : List Int} (hD : Dist M n lo b d) : ∀ (v a F : Nat), v ≤ F → 1 ≤ v → v ≤ n → wl M n lo b v a → (∀ j, 1 ≤ j → j < v → ¬ wl M n lo b j a) → ∃ t, chainGo M d n b lo F a = some (some t) ∧ Can M n lo b v a t ∧ t.length = v := by
  intro v
  induction v with
  | zero => intro a F _ h; omega
  | succ v ih =>
    intro a F hF _ hvn hw hno
    obtain ⟨F, rfl⟩ : ∃ q, F = q + 1 := ⟨F - 1, by omega⟩
    obtain ⟨x, hx1, hx2, hMx, hwx⟩ := hw
    have hmin : ∀ l, lo ≤ l → l < n → M a l = true → d.getD l 0 ≤ (n : Int) → (v : Int) ≤ d.getD l 0 := by
      intro l hl1 hl hMl hdl
      rcases hD.told l hl with e | ⟨j, e, _, hw⟩
      · omega
      · by_cases h : j < v
        · exact absurd ⟨l, hl1, hl, hMl, hw⟩ (hno (j + 1) (by omega) (by omega))
        · omega
    have hdx : d.getD x 0 = (v : Int) := by
      have h1 := hD.le v x (by omega) hx1 hx2 hwx
      have h2 := hmin x hx1 hx2 hMx (by omega)
      omega
    obtain ⟨k, ⟨hk1, hk2, hMk, hdk⟩, hfirst⟩ := least_of (P := fun k => lo ≤ k ∧ k < n ∧ M a k = true ∧ d.getD k 0 = (v : Int)) x ⟨hx1, hx2, hMx, hdx⟩
    have hsel := sel_least (lo := lo) (v := (v : Int)) (by omega) hmin ⟨hk1, hk2⟩ hMk hdk (fun j hj1 hj2 hMj e => hfirst j hj2 ⟨hj1, by omega, hMj, e⟩)
    have hwk : wl M n lo b v k := by
      rcases hD.told k hk2 with e | ⟨j, e, _, hw⟩
      · omega
      · obtain rfl : j = v := by omega
        exact hw
    have hcan : ∀ j, lo ≤ j → j < k → M a j = true → ¬ wl M n lo b v j := by
      intro j hj1 hj2 hMj hw
      have h1 := hD.le v j (by omega) hj1 (by omega) hw
      have h2 := hmin j hj1 (by omega) hMj (by omega)
      exact hfirst j hj2 ⟨hj1, by omega, hMj, by omega⟩
    have e1 : chainGo M d n b lo (F + 1) a = if (k : Int) = (b : Int) then some (some [(k : Int)]) else (chainGo M d n b lo F k).map (fun o => o.map ((k : Int) :: ·)) := by
      simp only [chainGo]
      rw [hsel, if_neg (by omega), Int.toNat_natCast]
    by_cases hkb : k = b
    · have hv0 : v = 0 := by
        by_cases h : v = 0
        · exact h
        · rw [hkb, hD.at_b] at hdk; omega
      subst hv0
      exact ⟨[(k : Int)], by rw [e1, if_pos (by omega)], ⟨k, [], rfl, ⟨hk1, hk2, hMk, hwk⟩, hcan, hkb, rfl⟩, rfl⟩
    · have hv0 : 1 ≤ v := by
        by_cases h : v = 0
        · subst h; exact absurd hwk hkb
        · omega
      obtain ⟨t, h1, h2, h3⟩ := ih k F (by omega) hv0 (by omega) hwk (fun j hj1 hj2 hw => by
        have := hD.le j k (by omega) hk1 hk2 hw
        omega)
      exact ⟨(k : Int) :: t, by rw [e1, if_neg (by omega), h1]; rfl, ⟨k, t, rfl, ⟨hk1, hk2, hMk, hwk⟩, hcan, h2⟩, by rw [List.length_cons, h3]⟩
theorem chain_no {d : List Int} (hD : Dist M n lo b d) (a F : Nat) (h : ∀ j, 1 ≤ j → j ≤ n → ¬ wl M n lo b j a) : chainGo M d n b lo (F + 1) a = some none := by
  have hsel := sel_none (M := M) (d := d) (n := n) (a := a) (lo := lo) (fun l hl1 hl hMl hdl => by
    have h1 := dist_lt hD hl1 hl hdl
    rcases hD.told l hl with e | ⟨j, e, _, hw⟩
    · omega
    · exact h (j + 1) (by omega) (by omega) ⟨l, hl1, hl, hMl, hw⟩)
  simp only [chainGo]
  rw [hsel, if_pos (by decide)]
theorem chain_cases {d : List Int} (hD : Dist M n lo b d) (a F : Nat) (hF : n < F) : (chainGo M d n b lo F a = some none ∧ ∀ j, 1 ≤ j → j ≤ n → ¬ wl M n lo b j a) ∨ ∃ v t, 1 ≤ v ∧ v ≤ n ∧ wl M n lo b v a ∧ (∀ j, 1 ≤ j → j < v → ¬ wl M n lo b j a) ∧ chainGo M d n b lo F a = some (some t) ∧ Can M n lo b v a t ∧ t.length = v := by
  by_cases h : ∃ j, 1 ≤ j ∧ j ≤ n ∧ wl M n lo b j a
  · obtain ⟨j, h1, h2, h3⟩ := h
    obtain ⟨v, ⟨g1, g2, g3⟩, hf⟩ := least_of (P := fun j => 1 ≤ j ∧ j ≤ n ∧ wl M n lo b j a) j ⟨h1, h2, h3⟩
    have hno : ∀ j, 1 ≤ j → j < v → ¬ wl M n lo b j a := fun j a1 a2 a3 => hf j a2 ⟨a1, by omega, a3⟩
    obtain ⟨t, e1, e2, e3⟩ := chain_can hD v a F (by omega) g1 g2 g3 hno
    exact .inr ⟨v, t, g1, g2, g3, hno, e1, e2, e3⟩
  · have hno : ∀ j, 1 ≤ j → j ≤ n → ¬ wl M n lo b j a := fun j a1 a2 a3 => h ⟨j, a1, a2, a3⟩
    obtain ⟨F, rfl⟩ : ∃ q, F = q + 1 := ⟨F - 1, by omega⟩
    exact .inl ⟨chain_no hD a F hno, hno⟩
end
theorem full_cases {cs : List S86} {rs : List S95} (hg : goodB cs rs = true) (m : Nat) (hm : m < cs.length) : (spec_l4Chain.f cs rs (m : Int) (m : Int) = some [] ∧ ∀ j, 1 ≤ j → j ≤ cs.length → ¬ wl (abv cs rs) cs.length 0 m j m) ∨ ∃ v t, 1 ≤ v ∧ v ≤ cs.length ∧ wl (abv cs rs) cs.length 0 m v m ∧ (∀ j, 1 ≤ j → j < v → ¬ wl (abv cs rs) cs.length 0 m j m) ∧ spec_l4Chain.f cs rs (m : Int) (m : Int) = some (numI cs ((m : Int) :: t)) ∧ Can (abv cs rs) cs.length 0 m v m t ∧ t.length = v := by
  obtain ⟨hn, _, hin⟩ := goodB_parts hg
  have hS := steps_all hin m hm cs.length
  unfold spec_l4Chain.f
  rw [if_pos ⟨hg, by omega, by omega⟩, Int.toNat_natCast]
  rcases hS.told m hm with ⟨h, hno⟩ | ⟨v, h, h1, h2, h3, h4⟩
  · left
    rw [if_pos h]
    exact ⟨rfl, hno⟩
  · right
    obtain ⟨t, c1, c2, c3⟩ := chain_same hg m hm v m 30 hm (by omega) h h1
    obtain ⟨t', d1, d2, d3⟩ := chain_can (dist_all (M := abv cs rs) (lo := 0) hm (Nat.zero_le _)) v m 30 (by omega) h1 h2 h3 h4
    rw [c1] at d1
    obtain rfl := Option.some.inj (Option.some.inj d1)
    refine ⟨v, t, h1, h2, h3, h4, ?_, d2, d3⟩
    rw [if_neg (by omega), h, Int.toNat_natCast, c2]
    simp [numI]
theorem num_le {cs : List S86} (hs : cs.Pairwise (fun a b => a.f0 < b.f0)) {i k : Nat} (hi : i < cs.length) (hk : k < cs.length) : (cs.getD i z86).f0 ≤ (cs.getD k z86).f0 ↔ i ≤ k := by
  rw [getDC cs i hi, getDC cs k hk]
  rw [List.pairwise_iff_getElem] at hs
  rcases Nat.lt_trichotomy i k with h | h | h
  · have := hs i k hi hk h; omega
  · subst h; omega
  · have := hs k i hk hi h; omega
theorem ok_iff {cs : List S86} (hs : cs.Pairwise (fun a b => a.f0 < b.f0)) (m : Nat) (hm : m < cs.length) (ls : List Int) (hin : ∀ x ∈ ls, 0 ≤ x ∧ x < (cs.length : Int)) (k : Nat) (hk : ls.length ≤ k) : cyOk (cs.getD m z86).f0 (numI cs ls) k = true ↔ ∀ x ∈ ls, (m : Int) ≤ x := by
  unfold cyOk
  rw [List.take_of_length_le (by rw [numI_len]; exact hk)]
  unfold numI
  rw [List.all_map, List.all_eq_true]
  constructor
  · intro h x hx
    have h1 := h x hx
    obtain ⟨h2, h3⟩ := hin x hx
    simp only [Function.comp_apply, decide_eq_true_eq] at h1
    have := (num_le hs hm (show x.toNat < cs.length by omega)).1 h1
    omega
  · intro h x hx
    have h1 := h x hx
    obtain ⟨h2, h3⟩ := hin x hx
    simp only [Function.comp_apply, decide_eq_true_eq]
    exact (num_le hs hm (show x.toNat < cs.length by omega)).2 (by omega)
theorem numI_take (cs : List S86) (ls : List Int) (k : Nat) : (numI cs ls).take k = numI cs (ls.take k) := by simp [numI, List.map_take]
theorem cyc_inv {cs : List S86} {rs : List S95} (hg : goodB cs rs = true) : ∀ m, m ≤ cs.length → ∃ bi bs L, icTo cs rs m = some bi ∧ cyTo cs rs m = some bs ∧ (∀ i, i < m → ∀ j, 1 ≤ j → j < L → ¬ wl (abv cs rs) cs.length i i j i) ∧ ((bi = none ∧ bs = [] ∧ L = cs.length + 1) ∨ ∃ l, bi = some l ∧ l.length = L + 1 ∧ 1 ≤ L ∧ L ≤ cs.length ∧ bs = numI cs (l.take L)) := by
  obtain ⟨hn, _, hin⟩ := goodB_parts hg
  have hs := (goodB_sorted hg).1
  intro m
  induction m with
  | zero => exact fun _ => ⟨none, [], cs.length + 1, rfl, rfl, fun i hi => absurd hi (Nat.not_lt_zero _), .inl ⟨rfl, rfl, rfl⟩⟩
  | succ m ih =>
    intro hm
    obtain ⟨bi, bs, L, hi, hb, hno, hc⟩ := ih (by omega)
    have hml : m < cs.length := by omega
    have eI : ∀ res, chnG cs rs m m m = some res → icTo cs rs (m + 1) = some (icStep bi (res.map fun t => (m : Int) :: t)) := by
      intro res h; simp only [icTo]; rw [hi, Option.bind_some, h]; rfl
    have eS : ∀ ch, spec_l4Chain.f cs rs (m : Int) (m : Int) = some ch → cyTo cs rs (m + 1) = some (cyStep (cs.getD m z86).f0 ch bs) := by
      intro ch h; simp only [cyTo]; rw [hb, Option.bind_some, h]; rfl
    have hLn : L ≤ cs.length + 1 := by rcases hc with ⟨_, _, h⟩ | ⟨_, _, _, _, h, _⟩ <;> omega
    have hbl : (bs.length = 0 ∧ bi = none ∧ L = cs.length + 1) ∨ (bs.length = L ∧ 1 ≤ L ∧ L ≤ cs.length ∧ ∃ l, bi = some l ∧ l.length = L + 1) := by
      rcases hc with ⟨h1, h2, h3⟩ | ⟨l, h1, h2, h3, h4, h5⟩
      · exact .inl ⟨by rw [h2]; rfl, h1, h3⟩
      · exact .inr ⟨by rw [h5, numI_len, List.length_take]; omega, h3, h4, l, h1, h2⟩
    have hF := full_cases hg m hml
    have hR := chain_cases (dist_all (M := abv cs rs) (lo := m) hml (by omega)) m 30 (by omega)
    -- what the reference takes is a walk of the program's
    have spOk : ∀ v t, 1 ≤ v → Can (abv cs rs) cs.length 0 m v m t → t.length = v → cyOk (cs.getD m z86).f0 ((numI cs ((m : Int) :: t)).take ((numI cs ((m : Int) :: t)).length - 1)) ((numI cs ((m : Int) :: t)).length - 1) = true → wl (abv cs rs) cs.length m m v m := by
      intro v t hv ht hl hok
      rw [numI_len, List.length_cons, Nat.add_sub_cancel, numI_take] at hok
      have hin2 : ∀ x ∈ ((m : Int) :: t), 0 ≤ x ∧ x < (cs.length : Int) := by
        intro x hx
        rcases List.mem_cons.1 hx with rfl | hx
        · omega
        · have := can_in v m t ht x hx; omega
      have h2 := (ok_iff hs m hml (((m : Int) :: t).take t.length) (fun x hx => hin2 x (List.mem_of_mem_take hx)) t.length (by rw [List.length_take]; omega)).1 hok
      refine can_ge (Nat.le_refl _) v m t ht (fun x hx => h2 x ?_)
      obtain ⟨w, hw⟩ : ∃ w, t.length = w + 1 := ⟨t.length - 1, by omega⟩
      rw [hw, List.take_succ_cons]
      rw [show v - 1 = w by omega] at hx
      exact List.mem_cons_of_mem _ hx
    have keepS : (∀ j, 1 ≤ j → j < L → ¬ wl (abv cs rs) cs.length m m j m) → cyTo cs rs (m + 1) = some bs := by
      intro hmno
      rcases hF with ⟨h1, _⟩ | ⟨v, t, h1, h2, h3, h4, h5, h6, h7⟩
      · rw [eS _ h1]; simp [cyStep]
      · rw [eS _ h5]
        unfold cyStep
        rw [if_neg (by simp [numI]), if_neg]
        simp only [Bool.and_eq_true, Bool.or_eq_true, decide_eq_true_eq]
        rintro ⟨hok, hlen⟩
        have hw := spOk v t h1 h6 h7 hok
        rw [numI_len, List.length_cons, h7] at hlen
        refine hmno v h1 ?_ hw
        rcases hbl with ⟨_, _, e⟩ | ⟨e, _, _, _⟩
        · omega
        · omega
    rcases hR with ⟨h1, h2⟩ | ⟨r, t, h1, h2, h3, h4, h5, h6, h7⟩
    · refine ⟨bi, bs, L, by rw [eI none h1]; cases bi <;> rfl, keepS (fun j a1 a2 => h2 j a1 (by omega)), fun i hi2 j a1 a2 => ?_, hc⟩
      by_cases e : i = m
      · subst e; exact h2 j a1 (by omega)
      · exact hno i (by omega) j a1 a2
    · by_cases hrL : r < L
      · -- both take it
        have hC : ∀ i p q, i < m → wl (abv cs rs) cs.length 0 i p m → wl (abv cs rs) cs.length 0 m q i → r < p + q := by
          intro i p q hi2 hp hq
          by_cases h : r < p + q
          · exact h
          · exfalso
            have hpq : 1 ≤ p := by
              cases p with
              | zero => have : m = i := hp; omega
              | succ p => omega
            obtain ⟨i0, g1, g2⟩ := cyc_down (q + p) i (wl_app q p i hq hp)
            exact hno i0 (by omega) (q + p) (by omega) (by omega) g2
        have heI : icTo cs rs (m + 1) = some (some ((m : Int) :: t)) := by
          rw [eI (some t) h5]
          rcases hbl with ⟨_, e, _⟩ | ⟨_, _, _, l, e, e2⟩
          · rw [e]; rfl
          · rw [e]
            show some (if ((m : Int) :: t).length < l.length then some ((m : Int) :: t) else some l) = _
            rw [if_pos (by rw [List.length_cons, h7]; omega)]
        have hfull : spec_l4Chain.f cs rs (m : Int) (m : Int) = some (numI cs ((m : Int) :: t)) := by
          rcases hF with ⟨_, g2⟩ | ⟨v, t0, g1, g2, g3, g4, g5, g6, g7⟩
          · exact absurd (wl_zero r m h3) (g2 r h1 h2)
          · have hvr : v = r := by
              rcases Nat.lt_trichotomy v r with h | h | h
              · rcases wl_split (lo := m) v m g3 with h8 | ⟨i, p, q, e1, e2, e3, e4, e5⟩
                · exact absurd h8 (h4 v g1 h)
                · have := hC i p q e1 e4 e5; omega
              · exact h
              · exact absurd (wl_zero r m h3) (g4 r h1 h)
            subst hvr
            have := can_lo hC v 0 m t0 rfl (by omega) g6
            rw [can_uniq v m t t0 h6 this]; exact g5
        refine ⟨some ((m : Int) :: t), numI cs (((m : Int) :: t).take r), r, heI, ?_, fun i hi2 j a1 a2 => ?_, .inr ⟨(m : Int) :: t, rfl, by rw [List.length_cons, h7], h1, h2, rfl⟩⟩
        · rw [eS _ hfull]
          unfold cyStep
          rw [if_neg (by simp [numI]), if_pos]
          · rw [numI_len, List.length_cons, Nat.add_sub_cancel, numI_take, h7]
          · simp only [Bool.and_eq_true, Bool.or_eq_true, decide_eq_true_eq]
            rw [numI_len, List.length_cons, Nat.add_sub_cancel, numI_take, h7]
            have hge : ∀ x ∈ (((m : Int) :: t).take r), (m : Int) ≤ x ∧ x < (cs.length : Int) := by
              intro x hx
              rcases List.mem_cons.1 (List.mem_of_mem_take hx) with rfl | hx
              · omega
              · exact can_in r m t h6 x hx
            refine ⟨(ok_iff hs m hml _ (fun x hx => by have := hge x hx; omega) r (by rw [List.length_take]; omega)).2 (fun x hx => (hge x hx).1), ?_⟩
            rcases hbl with ⟨e, _, _⟩ | ⟨e, _, _, _⟩
            · exact .inl e
            · exact .inr (by omega)
        · by_cases e : i = m
          · subst e; exact h4 j a1 a2
          · exact hno i (by omega) j a1 (by omega)
      · -- neither
        refine ⟨bi, bs, L, ?_, keepS (fun j a1 a2 => h4 j a1 (by omega)), fun i hi2 j a1 a2 => ?_, hc⟩
        · rw [eI (some t) h5]
          rcases hbl with ⟨_, _, e⟩ | ⟨_, _, _, l, e, e2⟩
          · omega
          · rw [e]
            show some (if ((m : Int) :: t).length < l.length then some ((m : Int) :: t) else some l) = _
            rw [if_neg (by rw [List.length_cons, h7]; omega)]
        · by_cases e : i = m
          · subst e; exact h4 j a1 (by omega)
          · exact hno i (by omega) j a1 a2
theorem rdI (l : List Int) (i : Nat) (h : i < l.length) : rd l (i : Int) = l[i] := by simp [rd, List.getD_eq_getElem?_getD, List.getElem?_eq_getElem h]
theorem eqIntS_ev (a : List Int) (ha : a.length ≤ 1048576) : Ev (fun k => laws_eqIntS.f k a a) true := by
  unfold laws_eqIntS.f
  simp only [if_true]
  exact Ev.down a.length (fun k i => laws_eqIntS.l0 k a a (i : Int)) (fun _ => true)
    (by
      refine Ev.step (fun k => by rw [laws_eqIntS.l0]) ?_
      simp only [Int.lt_irrefl, if_false]
      exact Ev.now _)
    (fun i hi ih => by
      refine Ev.step (fun k => by rw [laws_eqIntS.l0]) ?_
      have a3 : (i : Int) < (a.length : Int) := by omega
      have a4 : (0 : Int) ≤ (i : Int) := by omega
      simp only [a3, a4, if_true, w64 i (by omega)]
      exact ih) 0 (Nat.zero_le _)
def ints (k : Int) (n : Nat) : List Int := (List.range n).map fun (i : Nat) => k + (i : Int)
theorem ints_length (k : Int) (n : Nat) : (ints k n).length = n := by simp [ints]
theorem markIntS_ev (l : List Int) (k : Int) (hl : l.length ≤ 1048576) (h0 : 0 ≤ k) (h1 : k ≤ 1048576) : Ev (fun q => laws_markIntS.f q l k) (k + (l.length : Int), ints k l.length) := by
  unfold laws_markIntS.f
  have key := Ev.down l.length (fun q i => laws_markIntS.l0 q (ints k i ++ l.drop i) (k + (i : Int)) (i : Int)) (fun _ => (k + (l.length : Int), ints k l.length))
    (by
      refine Ev.step (fun k => by rw [laws_markIntS.l0]) ?_
      simp only [List.drop_length, List.append_nil, ints_length, Int.lt_irrefl, if_false]
      exact Ev.now _)
    (fun i hi ih => by
      refine Ev.step (fun k => by rw [laws_markIntS.l0]) ?_
      have a2 : (ints k i ++ l.drop i).length = l.length := by rw [List.length_append, ints_length, List.length_drop]; omega
      have a3 : (i : Int) < (l.length : Int) := by omega
      have a4 : (0 : Int) ≤ (i : Int) := by omega
      have a5 : wrap64 (k + (i : Int) + 1) = k + ((i + 1 : Nat) : Int) := by unfold wrap64; omega
      have a6 : (ints k i ++ l.drop i).set i (k + (i : Int)) = ints k (i + 1) ++ l.drop (i + 1) := by
        rw [List.set_append_right _ _ (by rw [ints_length]; omega), ints_length, Nat.sub_self, List.drop_eq_getElem_cons hi, List.set_cons_zero]
        simp [ints, List.range_succ]
      simp only [a2, a3, a4, if_true, w64 i (by omega), a5, Int.toNat_natCast, a6]
      exact ih) 0 (Nat.zero_le _)
  simpa [ints] using key
theorem heldIntS_ev (n : Nat) (k : Int) (hl : n ≤ 1048576) (h0 : 0 ≤ k) (h1 : k ≤ 1048576) : Ev (fun q => laws_heldIntS.f q (ints k n) k) (k + (n : Int)) := by
  unfold laws_heldIntS.f
  have key := Ev.down n (fun q i => laws_heldIntS.l0 q (ints k n) (k + (i : Int)) (i : Int)) (fun _ => k + (n : Int))
    (by
      refine Ev.step (fun k => by rw [laws_heldIntS.l0]) ?_
      simp only [ints_length, Int.lt_irrefl, if_false]
      exact Ev.now _)
    (fun i hi ih => by
      refine Ev.step (fun k => by rw [laws_heldIntS.l0]) ?_
      have a3 : (i : Int) < (n : Int) := by omega
      have a4 : (0 : Int) ≤ (i : Int) := by omega
      have a5 : wrap64 (k + (i : Int) + 1) = k + ((i + 1 : Nat) : Int) := by unfold wrap64; omega
      have a6 : rd (ints k n) (i : Int) = k + (i : Int) := by rw [rdI _ _ (by rw [ints_length]; exact hi)]; simp [ints]
      simp only [ints_length, a3, a4, a6, if_true, w64 i (by omega), a5]
      exact ih) 0 (Nat.zero_le _)
  simpa using key
def answer (cs : List S86) (rs : List S95) : List Int × Bool × Bool :=
  if goodB cs rs = true then
    (match icTo cs rs cs.length with
     | some (some b) => (numI cs (b.take (b.length - 1)), true, true)
     | _ => ([], false, true))
  else ([], false, false)
theorem answer_len (cs : List S86) (rs : List S95) (_ : cs.length ≤ 1048576) (_ : rs.length ≤ 1048576) : (answer cs rs).1.length ≤ 1048576 := by
  unfold answer
  by_cases hg : goodB cs rs = true
  · rw [if_pos hg]
    cases h : icTo cs rs cs.length with
    | none => simp
    | some o =>
      cases o with
      | none => simp
      | some b =>
        have := (icTo_in cs.length (Nat.le_refl _) h).2.1
        simp only [numI_len, List.length_take]
        omega
  · rw [if_neg hg]; simp
theorem impl_eq (cs : List S86) (rs : List S95) : impl_ShortestCycle.f cs rs = some (answer cs rs) := by
  unfold impl_ShortestCycle.f answer
  by_cases hg : goodB cs rs = true
  · rw [if_pos hg, if_pos hg]
    obtain ⟨bi, bs, L, h1, h2, h3, h4⟩ := cyc_inv hg cs.length (Nat.le_refl _)
    rw [h1]
    cases bi <;> rfl
  · rw [if_neg hg, if_neg hg]
theorem spec_eq (cs : List S86) (rs : List S95) : spec_ShortestCycle.f cs rs = some (answer cs rs) := by
  unfold spec_ShortestCycle.f answer
  simp only [Option.bind_some, spec_l2Good.f]
  by_cases hg : goodB cs rs = true
  · simp only [hg, if_true]
    obtain ⟨bi, bs, L, h1, h2, h3, h4⟩ := cyc_inv hg cs.length (Nat.le_refl _)
    have hn := (goodB_parts hg).1
    unfold spec_l4Cycle.f
    rw [if_pos (show cs.length ≤ 1000 by omega), h1, h2]
    simp only [Option.bind_some]
    rcases h4 with ⟨rfl, rfl, _⟩ | ⟨l, rfl, h5, h6, h7, rfl⟩
    · rfl
    · simp only [h5, Nat.add_sub_cancel]
      have : (((numI cs (l.take L)).length : Nat) : Int) > 0 := by rw [numI_len, List.length_take]; omega
      simp only [this, decide_true]
  · simp only [hg, if_false, Bool.false_eq_true]
theorem FnExactShortestCycle : ∀ (l0_0 : List (S127)) (l0_1 : List (S129)), ((l0_0.length ≤ 9223372036854775807) ∧ ∀ y4 ∈ l0_0, ((Lit.int .i64 y4.f0).wf = true) ∧ ((Lit.int .i64 y4.f1).wf = true)) → ((l0_1.length ≤ 9223372036854775807) ∧ ∀ y4 ∈ l0_1, ((Lit.int .i64 y4.f0).wf = true) ∧ ((Lit.int .i64 y4.f1).wf = true)) → ∃ k, laws_FnExactShortestCycle.f k l0_0 l0_1 = some true := by
  intro l0 l1 g0 g1
  obtain ⟨t, ht, hc⟩ := szRecord_eq l0 l1 g0.1 g1.1
  refine Ev.rounds ?_
  unfold laws_FnExactShortestCycle.f
  rw [ht]
  simp only [Option.bind_some]
  rcases hc with hc | ⟨h0, _, hl0, hl1⟩
  · simp only [hc, if_true]
    exact Ev.now _
  · have hn : ¬ t < 0 := by omega
    have hC : (l0.map cvC).length ≤ 1048576 := by rw [List.length_map]; exact hl0
    have hR : (l1.map cvR).length ≤ 1048576 := by rw [List.length_map]; exact hl1
    have himpl : impl_ShortestCycle.f (l0.map cvC) (l1.map cvR) = some (answer (l0.map cvC) (l1.map cvR)) := impl_eq _ _
    have hAl := answer_len (l0.map cvC) (l1.map cvR) hC hR
    simp only [hn, if_false]
    refine Ev.bind (toRecord_ev l0 l1 hl0 hl1) ?_
    simp only [spec_eq _ _, Option.bind_some]
    refine Ev.bind (toRecord_ev l0 l1 hl0 hl1) ?_
    simp only [himpl, Option.bind_some]
    generalize answer (l0.map cvC) (l1.map cvR) = A at hAl himpl ⊢
    refine Ev.bind (eqIntS_ev A.1 hAl) ?_
    simp only [bne_self_eq_false, Bool.false_eq_true, if_false, if_true]
    refine Ev.step (fun k => by rw [laws_FnExactShortestCycle.j0]) ?_
    simp only [Bool.false_eq_true, if_false]
    refine Ev.bind (toRecord_ev l0 l1 hl0 hl1) ?_
    refine Ev.bind (eqRecord_ev _ _ hC hR) ?_
    simp only [if_true]
    obtain ⟨m, x, y, hm, _, hmk⟩ := markRecord_ev (l0.map cvC) (l1.map cvR) 1 hC hR (by omega) (by omega)
    refine Ev.bind hmk ?_
    have hm2 : ¬ m < 0 := by omega
    simp only [hm2, if_false]
    refine Ev.bind (eqIntS_ev A.1 hAl) ?_
    simp only [bne_self_eq_false, Bool.false_eq_true, if_false, if_true]
    refine Ev.step (fun k => by rw [laws_FnExactShortestCycle.j1]) ?_
    simp only [Bool.false_eq_true, if_false]
    refine Ev.bind (markIntS_ev A.1 1 hAl (by omega) (by omega)) ?_
    refine Ev.bind (heldIntS_ev A.1.length 1 hAl (by omega) (by omega)) ?_
    have h2 : ¬ (1 + (A.1.length : Int)) < 0 := by omega
    simp only [h2, if_false, if_true]
    refine Ev.bind (toRecord_ev l0 l1 hl0 hl1) ?_
    simp only [himpl, Option.bind_some]
    refine Ev.bind (eqIntS_ev A.1 hAl) ?_
    simp only [bne_self_eq_false, Bool.false_eq_true, if_false, if_true]
    refine Ev.step (fun k => by rw [laws_FnExactShortestCycle.j2]) ?_
    simp only [Bool.false_eq_true, if_false]
    refine Ev.bind (heldIntS_ev A.1.length 1 hAl (by omega) (by omega)) ?_
    simp only [h2, if_false, if_true]
    exact Ev.now _
end Go.Proofs.Ytdiejmhphhdcfaa.Pure
