-- Written by a program of this session (wip/xprint.py over the kit's printer).
import Derived.Test.YtdiejmhphhdcfaaQ0
import Derived.Test.YtdiejmhphhdcfaaQB0
import Derived.Test.YtdiejmhphhdcfaaQB1
import Derived.Test.YtdiejmhphhdcfaaQF19
import Derived.Test.YtdiejmhphhdcfaaQF22
import Derived.Test.YtdiejmhphhdcfaaQF23
import Derived.Test.YtdiejmhphhdcfaaQF26
import Derived.Test.YtdiejmhphhdcfaaQF28
import Derived.Test.YtdiejmhphhdcfaaQM0
namespace Go.Proofs.Ytdiejmhphhdcfaa.Q
open Go.RowKit Go.Proofs.YtdiejmhphhdcfaaW.PrintWords Go.Proofs.YtdiejmhphhdcfaaW.PrintLast
set_option linter.unusedVariables false
set_option linter.unusedSimpArgs false

/-! ### laws_markIntSS: function 27 -/
namespace LB
/-- Going down from the end of a loop. -/
theorem Ev.down {α : Type} (n : Nat) (F : Nat → Nat → Option α) (R : Nat → α) (hend : Ev (fun k => F k n) (R n)) (hstep : ∀ i, i < n → Ev (fun k => F k (i + 1)) (R (i + 1)) → Ev (fun k => F k i) (R i)) : ∀ i, i ≤ n → Ev (fun k => F k i) (R i) := by
  have key : ∀ d i, n - i = d → i ≤ n → Ev (fun k => F k i) (R i) := by
    intro d
    induction d with
    | zero =>
      intro i hd hi
      obtain rfl : i = n := by omega
      exact hend
    | succ d ih => intro i hd hi; exact hstep i (by omega) (ih (i + 1) (by omega) (by omega))
  intro i hi
  exact key (n - i) i rfl hi
theorem Ev.some {α : Type} (r : α) : Ev (fun _ => Option.some r) r := Ev.now r
theorem w64 (i : Nat) (h : i ≤ 4611686018427387904) : wrap64 ((i : Int) + 1) = ((i + 1 : Nat) : Int) := by unfold wrap64; omega
theorem w64p (i : Nat) (h : i ≤ 4611686018427387904) : wrap64 (((i + 1 : Nat) : Int) - 1) = (i : Int) := by unfold wrap64; omega
theorem rdC (l : List S86) (i : Nat) (h : i < l.length) : rd_T86 l (i : Int) = l[i] := by simp [rd_T86, List.getD_eq_getElem?_getD, List.getElem?_eq_getElem h]
theorem rdR (l : List S95) (i : Nat) (h : i < l.length) : rd_T95 l (i : Int) = l[i] := by simp [rd_T95, List.getD_eq_getElem?_getD, List.getElem?_eq_getElem h]
theorem rdCl (l : List S127) (i : Nat) (h : i < l.length) : rd_T127 l (i : Int) = l[i] := by simp [rd_T127, List.getD_eq_getElem?_getD, List.getElem?_eq_getElem h]
theorem rdRl (l : List S129) (i : Nat) (h : i < l.length) : rd_T129 l (i : Int) = l[i] := by simp [rd_T129, List.getD_eq_getElem?_getD, List.getElem?_eq_getElem h]
theorem getDR (rs : List S95) (i : Nat) (h : i < rs.length) : rs.getD i z95 = rs[i] := by simp [List.getD_eq_getElem?_getD, List.getElem?_eq_getElem h]
theorem getDC (cs : List S86) (i : Nat) (h : i < cs.length) : cs.getD i z86 = cs[i] := by simp [List.getD_eq_getElem?_getD, List.getElem?_eq_getElem h]
def cvC (x : S127) : S86 := ⟨x.f0, x.f1⟩
def cvR (x : S129) : S95 := ⟨x.f0, x.f1⟩
theorem acc_step {α β : Type} (f : α → β) (z : β) (l : List α) (i : Nat) (hi : i < l.length) : ((l.take i).map f ++ List.replicate (l.length - i) z).set i (f l[i]) = (l.take (i + 1)).map f ++ List.replicate (l.length - (i + 1)) z := by
  have h1 : ((l.take i).map f).length = i := by rw [List.length_map, List.length_take]; omega
  rw [List.set_append_right _ _ (by omega), h1, Nat.sub_self]
  obtain ⟨m, hm⟩ : ∃ m, l.length - i = m + 1 := ⟨l.length - i - 1, by omega⟩
  rw [hm, List.replicate_succ, List.set_cons_zero, List.take_succ_eq_append_getElem hi, List.map_append, show l.length - (i + 1) = m by omega]
  simp
theorem toContextS_ev (l : List S127) (hl : l.length ≤ 1048576) : Ev (fun k => laws_toContextS.f k l) (l.map cvC) := by
  unfold laws_toContextS.f
  have h1 : (0 : Int) ≤ (l.length : Int) := by omega
  have h2 : l.length ≤ 17592186044416 := by omega
  simp only [h1, if_true, Int.toNat_natCast, h2]
  have key := Ev.down l.length (fun k i => laws_toContextS.l0 k l ((l.take i).map cvC ++ List.replicate (l.length - i) z86) (i : Int)) (fun _ => l.map cvC)
    (by
      refine Ev.step (fun k => by rw [laws_toContextS.l0]) ?_
      simp only [Int.lt_irrefl, if_false, List.take_length, Nat.sub_self, List.replicate_zero, List.append_nil]
      exact Ev.now _)
    (fun i hi ih => by
      refine Ev.step (fun k => by rw [laws_toContextS.l0]) ?_
      have h1 : (i : Int) < (l.length : Int) := by omega
      have h2 : (0 : Int) ≤ (i : Int) := by omega
      have h3 : (i : Int) < ((((l.take i).map cvC ++ List.replicate (l.length - i) z86).length : Nat) : Int) := by
        rw [List.length_append, List.length_map, List.length_take, List.length_replicate]
        omega
      simp only [h1, h2, h3, if_true, rdCl l i hi, laws_toContext.f, Option.bind_some, w64 i (by omega), Int.toNat_natCast]
      have e := acc_step cvC z86 l i hi
      unfold cvC at e ih ⊢
      rw [e]
      exact ih)
  have h0 := key 0 (Nat.zero_le _)
  simpa using h0
theorem toRelationS_ev (l : List S129) (hl : l.length ≤ 1048576) : Ev (fun k => laws_toRelationS.f k l) (l.map cvR) := by
  unfold laws_toRelationS.f
  have h1 : (0 : Int) ≤ (l.length : Int) := by omega
  have h2 : l.length ≤ 17592186044416 := by omega
  simp only [h1, if_true, Int.toNat_natCast, h2]
  have key := Ev.down l.length (fun k i => laws_toRelationS.l0 k l ((l.take i).map cvR ++ List.replicate (l.length - i) z95) (i : Int)) (fun _ => l.map cvR)
    (by
      refine Ev.step (fun k => by rw [laws_toRelationS.l0]) ?_
      simp only [Int.lt_irrefl, if_false, List.take_length, Nat.sub_self, List.replicate_zero, List.append_nil]
      exact Ev.now _)
    (fun i hi ih => by
      refine Ev.step (fun k => by rw [laws_toRelationS.l0]) ?_
      have h1 : (i : Int) < (l.length : Int) := by omega
      have h2 : (0 : Int) ≤ (i : Int) := by omega
      have h3 : (i : Int) < ((((l.take i).map cvR ++ List.replicate (l.length - i) z95).length : Nat) : Int) := by
        rw [List.length_append, List.length_map, List.length_take, List.length_replicate]
        omega
      simp only [h1, h2, h3, if_true, rdRl l i hi, laws_toRelation.f, Option.bind_some, w64 i (by omega), Int.toNat_natCast]
      have e := acc_step cvR z95 l i hi
      unfold cvR at e ih ⊢
      rw [e]
      exact ih)
  have h0 := key 0 (Nat.zero_le _)
  simpa using h0
theorem toRecord_ev (l0 : List S127) (l1 : List S129) (h0 : l0.length ≤ 1048576) (h1 : l1.length ≤ 1048576) : Ev (fun k => laws_toRecord.f k l0 l1) (l0.map cvC, l1.map cvR) := by
  unfold laws_toRecord.f
  refine Ev.bind (toContextS_ev l0 h0) ?_
  refine Ev.bind (toRelationS_ev l1 h1) ?_
  exact Ev.now _
theorem eqContextS_ev (a : List S86) (ha : a.length ≤ 1048576) : Ev (fun k => laws_eqContextS.f k a a) true := by
  unfold laws_eqContextS.f
  simp only [if_true]
  have key := Ev.down a.length (fun k i => laws_eqContextS.l0 k a a (i : Int)) (fun _ => true)
    (by
      refine Ev.step (fun k => by rw [laws_eqContextS.l0]) ?_
      simp only [Int.lt_irrefl, if_false]
      exact Ev.now _)
    (fun i hi ih => by
      refine Ev.step (fun k => by rw [laws_eqContextS.l0]) ?_
      have h1 : (i : Int) < (a.length : Int) := by omega
      have h2 : (0 : Int) ≤ (i : Int) := by omega
      simp only [h1, h2, if_true, laws_eqContext.f, Option.bind_some, w64 i (by omega)]
      exact ih)
  exact key 0 (Nat.zero_le _)
theorem eqRelationS_ev (a : List S95) (ha : a.length ≤ 1048576) : Ev (fun k => laws_eqRelationS.f k a a) true := by
  unfold laws_eqRelationS.f
  simp only [if_true]
  have key := Ev.down a.length (fun k i => laws_eqRelationS.l0 k a a (i : Int)) (fun _ => true)
    (by
      refine Ev.step (fun k => by rw [laws_eqRelationS.l0]) ?_
      simp only [Int.lt_irrefl, if_false]
      exact Ev.now _)
    (fun i hi ih => by
      refine Ev.step (fun k => by rw [laws_eqRelationS.l0]) ?_
      have h1 : (i : Int) < (a.length : Int) := by omega
      have h2 : (0 : Int) ≤ (i : Int) := by omega
      simp only [h1, h2, if_true, laws_eqRelation.f, Option.bind_some, w64 i (by omega)]
      exact ih)
  exact key 0 (Nat.zero_le _)
theorem eqRecord_ev (a : List S86) (b : List S95) (ha : a.length ≤ 1048576) (hb : b.length ≤ 1048576) : Ev (fun k => laws_eqRecord.f k a b a b) true := by
  unfold laws_eqRecord.f
  refine Ev.bind (eqContextS_ev a ha) ?_
  simp only [if_true]
  refine Ev.bind (eqRelationS_ev b hb) ?_
  simp only [if_true]
  exact Ev.now _
/-- What the law's first test lets by: at most 2^20 contexts and relations. -/
theorem szRecord_eq (l0 : List S127) (l1 : List S129) (g0 : l0.length ≤ 9223372036854775807) (g1 : l1.length ≤ 9223372036854775807) :
    ∃ t, laws_szRecord.f l0 l1 1048576 = some t ∧ (t < 0 ∨ (0 ≤ t ∧ t ≤ 1048576 ∧ l0.length ≤ 1048576 ∧ l1.length ≤ 1048576)) := by
  unfold laws_szRecord.f laws_szContextS.f laws_szRelationS.f
  have e0 : wrap64 (1048576 - (l0.length : Int)) = 1048576 - (l0.length : Int) := by unfold wrap64; omega
  rw [e0]
  by_cases h0 : (1048576 - (l0.length : Int)) < 0
  · exact ⟨-1, by simp [h0], .inl (by omega)⟩
  · have e1 : wrap64 (1048576 - (l0.length : Int) - (l1.length : Int)) = 1048576 - (l0.length : Int) - (l1.length : Int) := by unfold wrap64; omega
    simp only [h0, if_false, Option.bind_some, e1]
    by_cases h1 : (1048576 - (l0.length : Int) - (l1.length : Int)) < 0
    · exact ⟨-1, by simp [h1], .inl (by omega)⟩
    · exact ⟨1048576 - (l0.length : Int) - (l1.length : Int), by simp [h1], .inr (by omega)⟩
theorem markC_l0 : ∀ (d : Nat) (st : List S86) (k : Int) (i : Nat), st.length - i = d → i ≤ st.length → st.length ≤ 1048576 → 0 ≤ k → k + 2 * d ≤ 4611686018427387904 → ∃ st', Ev (fun q => laws_markContextS.l0 q st k (i : Int)) (k + 2 * d, st') := by
  intro d
  induction d with
  | zero =>
    intro st k i hd hi hl h0 h1
    obtain rfl : i = st.length := by omega
    refine ⟨st, Ev.step (fun q => by rw [laws_markContextS.l0]) ?_⟩
    simp only [Int.lt_irrefl, if_false]
    rw [show k + 2 * ((0 : Nat) : Int) = k by omega]
    exact Ev.now _
  | succ d ih =>
    intro st k i hd hi hl h0 h1
    have a1 : wrap64 (k + 1) = k + 1 := by unfold wrap64; omega
    have a2 : wrap64 (k + 1 + 1) = k + 2 := by unfold wrap64; omega
    have a3 : (i : Int) < (st.length : Int) := by omega
    have a4 : (0 : Int) ≤ (i : Int) := by omega
    obtain ⟨st', h⟩ := ih (((st.set i ⟨k, (rd_T86 st (i : Int)).f1⟩).set i ⟨(rd_T86 (st.set i ⟨k, (rd_T86 st (i : Int)).f1⟩) (i : Int)).f0, k + 1⟩)) (k + 2) (i + 1) (by simp only [List.length_set]; omega) (by simp only [List.length_set]; omega) (by simp only [List.length_set]; omega) (by omega) (by omega)
    refine ⟨st', Ev.step (fun q => by rw [laws_markContextS.l0]) ?_⟩
    simp only [a1, a2, a3, a4, if_true, Option.bind_some, Int.toNat_natCast, w64 i (by omega)]
    rw [show k + 2 * ((d + 1 : Nat) : Int) = k + 2 + 2 * (d : Int) by omega]
    exact h
theorem markC_ev (st : List S86) (k : Int) (hl : st.length ≤ 1048576) (h0 : 0 ≤ k) (h1 : k ≤ 1099511627776) : ∃ m st', 0 ≤ m ∧ m ≤ k + 2097152 ∧ Ev (fun q => laws_markContextS.f q st k) (m, st') := by
  obtain ⟨st', h⟩ := markC_l0 st.length st k 0 (by omega) (by omega) hl h0 (by omega)
  exact ⟨k + 2 * (st.length : Int), st', by omega, by omega, h⟩
theorem markR_l0 : ∀ (d : Nat) (st : List S95) (k : Int) (i : Nat), st.length - i = d → i ≤ st.length → st.length ≤ 1048576 → 0 ≤ k → k + 2 * d ≤ 4611686018427387904 → ∃ st', Ev (fun q => laws_markRelationS.l0 q st k (i : Int)) (k + 2 * d, st') := by
  intro d
  induction d with
  | zero =>
    intro st k i hd hi hl h0 h1
    obtain rfl : i = st.length := by omega
    refine ⟨st, Ev.step (fun q => by rw [laws_markRelationS.l0]) ?_⟩
    simp only [Int.lt_irrefl, if_false]
    rw [show k + 2 * ((0 : Nat) : Int) = k by omega]
    exact Ev.now _
  | succ d ih =>
    intro st k i hd hi hl h0 h1
    have a1 : wrap64 (k + 1) = k + 1 := by unfold wrap64; omega
    have a2 : wrap64 (k + 1 + 1) = k + 2 := by unfold wrap64; omega
    have a3 : (i : Int) < (st.length : Int) := by omega
    have a4 : (0 : Int) ≤ (i : Int) := by omega
    obtain ⟨st', h⟩ := ih (((st.set i ⟨k, (rd_T95 st (i : Int)).f1⟩).set i ⟨(rd_T95 (st.set i ⟨k, (rd_T95 st (i : Int)).f1⟩) (i : Int)).f0, k + 1⟩)) (k + 2) (i + 1) (by simp only [List.length_set]; omega) (by simp only [List.length_set]; omega) (by simp only [List.length_set]; omega) (by omega) (by omega)
    refine ⟨st', Ev.step (fun q => by rw [laws_markRelationS.l0]) ?_⟩
    simp only [a1, a2, a3, a4, if_true, Option.bind_some, Int.toNat_natCast, w64 i (by omega)]
    rw [show k + 2 * ((d + 1 : Nat) : Int) = k + 2 + 2 * (d : Int) by omega]
    exact h
theorem markR_ev (st : List S95) (k : Int) (hl : st.length ≤ 1048576) (h0 : 0 ≤ k) (h1 : k ≤ 1099511627776) : ∃ m st', 0 ≤ m ∧ m ≤ k + 2097152 ∧ Ev (fun q => laws_markRelationS.f q st k) (m, st') := by
  obtain ⟨st', h⟩ := markR_l0 st.length st k 0 (by omega) (by omega) hl h0 (by omega)
  exact ⟨k + 2 * (st.length : Int), st', by omega, by omega, h⟩
/-- Marking a record: what it answers is not below 0. -/
theorem markRecord_ev (cs : List S86) (rs : List S95) (k : Int) (hc : cs.length ≤ 1048576) (hr : rs.length ≤ 1048576) (h0 : 0 ≤ k) (h1 : k ≤ 1048576) : ∃ m x y, 0 ≤ m ∧ m ≤ 8388608 ∧ Ev (fun q => laws_markRecord.f q cs rs k) (m, x, y) := by
  obtain ⟨m, x, a, b, hm⟩ := markC_ev cs k hc h0 (by omega)
  obtain ⟨n, y, c, d, hn⟩ := markR_ev rs m hr a (by omega)
  refine ⟨n, x, y, c, by omega, ?_⟩
  unfold laws_markRecord.f
  exact Ev.bind hm (Ev.bind hn (Ev.now _))
theorem rdI (l : List Int) (i : Nat) (h : i < l.length) : rd l (i : Int) = l[i] := by simp [rd, List.getD_eq_getElem?_getD, List.getElem?_eq_getElem h]
theorem eqIntS_ev (a : List Int) (ha : a.length ≤ 1048576) : Ev (fun k => laws_eqIntS.f k a a) true := by
  unfold laws_eqIntS.f
  simp only [if_true]
  exact Ev.down a.length (fun k i => laws_eqIntS.l0 k a a (i : Int)) (fun _ => true)
    (by
      refine Ev.step (fun k => by rw [laws_eqIntS.l0]) ?_
      simp only [Int.lt_irrefl, if_false]
      exact Ev.now _)
    (fun i hi ih => by
      refine Ev.step (fun k => by rw [laws_eqIntS.l0]) ?_
      have a3 : (i : Int) < (a.length : Int) := by omega
      have a4 : (0 : Int) ≤ (i : Int) := by omega
      simp only [a3, a4, if_true, w64 i (by omega)]
      exact ih) 0 (Nat.zero_le _)
def ints (k : Int) (n : Nat) : List Int := (List.range n).map fun (i : Nat) => k + (i : Int)
theorem ints_length (k : Int) (n : Nat) : (ints k n).length = n := by simp [ints]
theorem markIntS_ev (l : List Int) (k : Int) (hl : l.length ≤ 1048576) (h0 : 0 ≤ k) (h1 : k ≤ 1048576) : Ev (fun q => laws_markIntS.f q l k) (k + (l.length : Int), ints k l.length) := by
  unfold laws_markIntS.f
  have key := Ev.down l.length (fun q i => laws_markIntS.l0 q (ints k i ++ l.drop i) (k + (i : Int)) (i : Int)) (fun _ => (k + (l.length : Int), ints k l.length))
    (by
      refine Ev.step (fun k => by rw [laws_markIntS.l0]) ?_
      simp only [List.drop_length, List.append_nil, ints_length, Int.lt_irrefl, if_false]
      exact Ev.now _)
    (fun i hi ih => by
      refine Ev.step (fun k => by rw [laws_markIntS.l0]) ?_
      have a2 : (ints k i ++ l.drop i).length = l.length := by rw [List.length_append, ints_length, List.length_drop]; omega
      have a3 : (i : Int) < (l.length : Int) := by omega
      have a4 : (0 : Int) ≤ (i : Int) := by omega
      have a5 : wrap64 (k + (i : Int) + 1) = k + ((i + 1 : Nat) : Int) := by unfold wrap64; omega
      have a6 : (ints k i ++ l.drop i).set i (k + (i : Int)) = ints k (i + 1) ++ l.drop (i + 1) := by
        rw [List.set_append_right _ _ (by rw [ints_length]; omega), ints_length, Nat.sub_self, List.drop_eq_getElem_cons hi, List.set_cons_zero]
        simp [ints, List.range_succ]
      simp only [a2, a3, a4, if_true, w64 i (by omega), a5, Int.toNat_natCast, a6]
      exact ih) 0 (Nat.zero_le _)
  simpa [ints] using key
theorem heldIntS_ev (n : Nat) (k : Int) (hl : n ≤ 1048576) (h0 : 0 ≤ k) (h1 : k ≤ 1048576) : Ev (fun q => laws_heldIntS.f q (ints k n) k) (k + (n : Int)) := by
  unfold laws_heldIntS.f
  have key := Ev.down n (fun q i => laws_heldIntS.l0 q (ints k n) (k + (i : Int)) (i : Int)) (fun _ => k + (n : Int))
    (by
      refine Ev.step (fun k => by rw [laws_heldIntS.l0]) ?_
      simp only [ints_length, Int.lt_irrefl, if_false]
      exact Ev.now _)
    (fun i hi ih => by
      refine Ev.step (fun k => by rw [laws_heldIntS.l0]) ?_
      have a3 : (i : Int) < (n : Int) := by omega
      have a4 : (0 : Int) ≤ (i : Int) := by omega
      have a5 : wrap64 (k + (i : Int) + 1) = k + ((i + 1 : Nat) : Int) := by unfold wrap64; omega
      have a6 : rd (ints k n) (i : Int) = k + (i : Int) := by rw [rdI _ _ (by rw [ints_length]; exact hi)]; simp [ints]
      simp only [ints_length, a3, a4, a6, if_true, w64 i (by omega), a5]
      exact ih) 0 (Nat.zero_le _)
  simpa using key
end LB
namespace LB
def mkSS : Int → List (List Int) → List (List Int)
  | _, [] => []
  | k, r :: t => ints k r.length :: mkSS (k + r.length) t
def totSS : List (List Int) → Nat
  | [] => 0
  | r :: t => r.length + totSS t
theorem mkSS_len : ∀ (k : Int) (l : List (List Int)), (mkSS k l).length = l.length
  | _, [] => rfl
  | k, r :: t => by simp [mkSS, mkSS_len _ t]
theorem totSS_le (B : Nat) : ∀ (l : List (List Int)), (∀ r ∈ l, r.length ≤ B) → totSS l ≤ l.length * B
  | [], _ => Nat.zero_le _
  | r :: t, h => by
    have h1 := totSS_le B t (fun x hx => h x (List.mem_cons_of_mem _ hx))
    have h2 := h r List.mem_cons_self
    simp only [totSS, List.length_cons, Nat.succ_mul]
    omega
theorem eqIntSS_ev (a : List (List Int)) (ha : a.length ≤ 1048576) (hr : ∀ r ∈ a, r.length ≤ 1048576) : Ev (fun k => laws_eqIntSS.f k a a) true := by
  unfold laws_eqIntSS.f
  simp only [if_true]
  exact Ev.down a.length (fun k i => laws_eqIntSS.l0 k a a (i : Int)) (fun _ => true)
    (by
      refine Ev.step (fun k => by rw [laws_eqIntSS.l0]) ?_
      simp only [Int.lt_irrefl, if_false]
      exact Ev.now _)
    (fun i hi ih => by
      refine Ev.step (fun k => by rw [laws_eqIntSS.l0]) ?_
      have a3 : (i : Int) < (a.length : Int) := by omega
      have a4 : (0 : Int) ≤ (i : Int) := by omega
      simp only [a3, a4, if_true, w64 i (by omega)]
      have e : a.getD i [] = a[i] := by simp [List.getD_eq_getElem?_getD, List.getElem?_eq_getElem hi]
      have h1 := eqIntS_ev (a.getD i []) (by rw [e]; exact hr _ (List.getElem_mem hi))
      refine Ev.bind h1 ?_
      simp only [if_true]
      exact ih) 0 (Nat.zero_le _)
theorem held_l0 (B : Nat) : ∀ (post pre : List (List Int)) (k : Int), 0 ≤ k → (∀ r ∈ post, r.length ≤ B) → k + (totSS post : Int) ≤ 1048576 → (pre ++ post).length ≤ 1048576 → Ev (fun q => laws_heldIntSS.l0 q (pre ++ mkSS k post) k (pre.length : Int)) (k + (totSS post : Int))
  | [], pre, k, h0, _, hk, hl => by
    refine Ev.step (fun q => by rw [laws_heldIntSS.l0]) ?_
    simp only [mkSS, List.append_nil, Int.lt_irrefl, if_false, totSS, Int.natCast_zero, Int.add_zero]
    exact Ev.now _
  | r :: t, pre, k, h0, hr, hk, hl => by
    refine Ev.step (fun q => by rw [laws_heldIntSS.l0]) ?_
    have hlen : (pre ++ mkSS k (r :: t)).length = pre.length + (t.length + 1) := by simp [mkSS, mkSS_len]
    have a3 : (pre.length : Int) < ((pre ++ mkSS k (r :: t)).length : Int) := by rw [hlen]; omega
    have a4 : (0 : Int) ≤ (pre.length : Int) := by omega
    have hl2 : pre.length + (t.length + 1) ≤ 1048576 := by simpa using hl
    simp only [totSS] at hk ⊢
    have hkr : k + (r.length : Int) ≤ 1048576 := by omega
    simp only [a3, a4, if_true, w64 pre.length (by omega)]
    have e : (pre ++ mkSS k (r :: t)).getD pre.length [] = ints k r.length := by simp [mkSS, List.getD_eq_getElem?_getD]
    have h1 := heldIntS_ev r.length k (by omega) h0 (by omega)
    have h2 : Ev (fun q => laws_heldIntS.f q ((pre ++ mkSS k (r :: t)).getD pre.length []) k) (k + (r.length : Int)) := by rw [e]; exact h1
    refine Ev.bind h2 ?_
    have h3 : ¬ (k + (r.length : Int)) < 0 := by omega
    simp only [h3, if_false]
    have ih := held_l0 B t (pre ++ [ints k r.length]) (k + (r.length : Int)) (by omega) (fun x hx => hr x (List.mem_cons_of_mem _ hx)) (by omega) (by simp; omega)
    have e2 : pre ++ [ints k r.length] ++ mkSS (k + (r.length : Int)) t = pre ++ mkSS k (r :: t) := by simp [mkSS]
    rw [e2] at ih
    have e3 : ((pre ++ [ints k r.length]).length : Int) = ((pre.length + 1 : Nat) : Int) := by simp
    rw [e3] at ih
    have e4 : k + ((r.length + totSS t : Nat) : Int) = k + (r.length : Int) + (totSS t : Int) := by omega
    rw [e4]
    exact ih
theorem heldIntSS_ev (a : List (List Int)) (hl : a.length ≤ 1000) (hr : ∀ r ∈ a, r.length ≤ 1000) : Ev (fun q => laws_heldIntSS.f q (mkSS 1 a) 1) (1 + (totSS a : Int)) := by
  unfold laws_heldIntSS.f
  have h1 := totSS_le 1000 a hr
  have h2 : a.length * 1000 ≤ 1000 * 1000 := Nat.mul_le_mul_right _ hl
  have h := held_l0 1000 a [] 1 (by omega) hr (by omega) (by simp; omega)
  simpa using h
theorem mkSS_snoc : ∀ (k : Int) (l : List (List Int)) (r : List Int), mkSS k (l ++ [r]) = mkSS k l ++ [ints (k + (totSS l : Int)) r.length]
  | k, [], r => by simp [mkSS, totSS]
  | k, q :: t, r => by
    simp only [List.cons_append, mkSS, totSS, mkSS_snoc _ t r]
    rw [show k + (q.length : Int) + (totSS t : Int) = k + ((q.length + totSS t : Nat) : Int) by omega]
theorem totSS_snoc : ∀ (l : List (List Int)) (r : List Int), totSS (l ++ [r]) = totSS l + r.length
  | [], r => by simp [totSS]
  | q :: t, r => by simp only [List.cons_append, totSS, totSS_snoc t r]; omega
end LB
set_option maxHeartbeats 8000000 in
set_option maxRecDepth 100000 in
theorem laws_markIntSS.calls (ok : Nat → Prop) (v : Value) (l : List (List Int)) (w0 w : World) (hB : Below w0.heap.size w0 w) (hS : Kd.S (Kd.slice 3 (Kd.int .i64)) 27 w w0.heap.size ok v l) (hl : l.length ≤ 1000) (hr : ∀ r ∈ l, r.length ≤ 1000) :
    Calls Try.prog 27 #[v, .int .i64 1] w fun e w' => e = .returned (.int .i64 (1 + (LB.totSS l : Int))) ∧ Kd.S (Kd.slice 3 (Kd.int .i64)) 27 w' w0.heap.size (fun _ => True) v (LB.mkSS 1 l) ∧ Below w0.heap.size w0 w' := by
  obtain ⟨A, c, rfl, hc, hC⟩ := Kd.S_reads hS
  have HB := Aside0.mk hB
  have HS := Aside0.mk (Kd.S_mono hS (fun _ _ => trivial) : Kd.S (Kd.slice 3 (Kd.int .i64)) 27 w w0.heap.size (fun _ => True) (.slice A l.length c) l)
  have HR := Aside0.mk hr
  have HL := Aside0.mk hl
  clear hC hB hS hr hl hc
  obtain ⟨n, hn⟩ : ∃ n, l.length = n := ⟨_, rfl⟩
  have HN := Aside0.mk hn
  rw [hn] at HS HL ⊢
  clear hn
  have HS := Aside0.mk (show Kd.S (Kd.slice 3 (Kd.int .i64)) 27 w w0.heap.size (fun _ => True) (.slice A n c) (LB.mkSS 1 (l.take 0) ++ l.drop 0) from HS.out)
  go_enter Try.func27, Try.ntmps27
  go_wp2
  go_loopg [1, 5] n (fun gg s1 s5 wr => ∃ i : Nat, i ≤ n ∧ n - i ≤ gg ∧ s5 = .int .i64 i ∧ s1 = .int .i64 (1 + (LB.totSS (l.take i) : Int)) ∧ Aside0 (Below w0.heap.size w0 wr) ∧ Aside0 (Kd.S (Kd.slice 3 (Kd.int .i64)) 27 wr w0.heap.size (fun _ => True) (.slice A n c) (LB.mkSS 1 (l.take i) ++ l.drop i)))
  case atStart => exact ⟨0, Nat.zero_le _, by omega, rfl, rfl, HB, HS⟩
  case round =>
    clear HB HS
    obtain ⟨i, hi, hgg, rfl, rfl, HB, HS⟩ := hrel
    by_cases hlt : i < n
    · have hltz : (i : Int) < (n : Int) := by omega
      have hil : i < l.length := by have := HN.out; omega
      obtain ⟨g, cap, hv, _, _, _⟩ := Kd.S_form HS.out (by rw [List.length_append, LB.mkSS_len, List.length_take, List.length_drop]; omega)
      injection hv with hv1 hv2 hv3
      subst hv1
      clear hv2 hv3
      obtain ⟨oki, cc, hcl, hM, hcells, hoki, hH⟩ := Kd.S_lend HS.out ([] : List Int) (i : Int) (by omega) hltz
      have hget : (LB.mkSS 1 (l.take i) ++ l.drop i).getD i [] = l[i] := by
        rw [List.getD_eq_getElem?_getD, List.getElem?_append_right (by rw [LB.mkSS_len, List.length_take]; omega), LB.mkSS_len, List.length_take, show i - min i l.length = 0 by omega, List.getElem?_drop, Nat.add_zero, List.getElem?_eq_getElem hil]
        rfl
      rw [Int.toNat_natCast, hget] at hM
      obtain ⟨vi, rfl, hRi⟩ := hM
      have hx : wr.cell? ⟨g, i, none⟩ = some vi := by
        have := hcells 0 vi rfl
        simpa [Kd.slice] using this
      have hlen := HR.out _ (List.getElem_mem hil)
      have htk : l.take (i + 1) = l.take i ++ [l[i]] := List.take_succ_eq_append_getElem hil
      have htot := LB.totSS_le 1000 (l.take i) (fun r hr => HR.out r (List.mem_of_mem_take hr))
      have htl : (l.take i).length * 1000 ≤ 1000 * 1000 := Nat.mul_le_mul_right _ (by rw [List.length_take]; have := HL.out; omega)
      obtain ⟨kk, hkk⟩ := Ev.rounds (LB.markIntS_ev l[i] (1 + (LB.totSS (l.take i) : Int)) (by omega) (by omega) (by omega))
      have HKK := Aside0.mk hkk
      have HH := Aside0.mk hH
      have HRI := Aside0.mk hRi
      have HTOT := Aside0.mk (show 1 + (LB.totSS (l.take (i + 1)) : Int) = 1 + (LB.totSS (l.take i) : Int) + (l[i].length : Int) from by rw [htk, LB.totSS_snoc]; omega)
      have HMK := Aside0.mk (show (LB.mkSS 1 (l.take i) ++ l.drop i).set i (LB.ints (1 + (LB.totSS (l.take i) : Int)) l[i].length) = LB.mkSS 1 (l.take (i + 1)) ++ l.drop (i + 1) from by
        rw [htk, LB.mkSS_snoc, List.set_append_right _ _ (by rw [LB.mkSS_len, List.length_take]; omega), LB.mkSS_len, List.length_take, show i - min i l.length = 0 by omega, List.drop_eq_getElem_cons hil, List.set_cons_zero, List.append_assoc]
        rfl)
      clear hcells hget hRi hH hkk hlen htk htot htl hoki hcl
      generalize 1 + (LB.totSS (l.take i) : Int) = q at HKK HTOT HMK ⊢
      go_wp2_with (go_at_call 22; (refine (laws_markIntS.calls kk oki vi l[i] q _ _ w0 wr HB.out HRI.out HKK.out).mono ?_); rintro e w1 ⟨rfl, hy, hb, hkp⟩; have HY := Aside0.mk hy; have HB2 := Aside0.mk hb; have HKP := Aside0.mk hkp; clear hy hb hkp)
      have HS2 := Aside0.mk (Kd.H_back (Kd.H_step HH.out (fun k _ hn hlt => HKP.out.2 k hlt hn)) (okp := fun k => some k = vi.ownBlock) (x' := LB.ints q l[i].length) ⟨vi, rfl, Kd.R_tight rfl HY.out⟩ (fun k hk => HRI.out.1 k hk.symm))
      rw [Int.toNat_natCast, HMK.out] at HS2
      go_roundg (n - (i + 1))
      case measure => omega
      case rel => exact ⟨i + 1, by omega, by omega, by have := HL.out; first | go_num | exact congrArg (Value.int .i64) (by unfold wrap64; omega), by rw [HTOT.out], HB2, HS2⟩
    · obtain rfl : i = n := by omega
      have hltz : ¬ ((i : Int) < (i : Int)) := by omega
      have HE := Aside0.mk (show l.take i = l from by rw [← HN.out, List.take_length])
      have HD := Aside0.mk (show l.drop i = [] from by rw [← HN.out, List.drop_length])
      rw [HE.out, HD.out, List.append_nil] at HS
      rw [HE.out]
      go_wp2
      go_ret
      exact ⟨rfl, HS.out, HB.out⟩

end Go.Proofs.Ytdiejmhphhdcfaa.Q
