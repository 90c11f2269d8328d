/- The law FnExactMatrixLinks answers true at every record: MatrixLinks of the program and of the reference agree. No conditions. -/
import Derived.Test.YtdiejmhphhdcfaaQ0
import Derived.Test.YtdiejmhphhdcfaaQF61
import Derived.Test.YtdiejmhphhdcfaaQB0
import Derived.Test.YtdiejmhphhdcfaaQB1
import Derived.Test.YtdiejmhphhdcfaaQM0
import Derived.Test.YtdiejmhphhdcfaaQF73
import Derived.Test.YtdiejmhphhdcfaaQF74
import Derived.Test.YtdiejmhphhdcfaaQF67
import Derived.Test.YtdiejmhphhdcfaaQF127
import Derived.Test.YtdiejmhphhdcfaaQF128
import Derived.Test.YtdiejmhphhdcfaaQF78
import Derived.Test.YtdiejmhphhdcfaaQF130
import Derived.Test.YtdiejmhphhdcfaaQF133
import Derived.Test.YtdiejmhphhdcfaaQF157
import Derived.Test.YtdiejmhphhdcfaaQF129
import Derived.Test.YtdiejmhphhdcfaaQF135
import Derived.Test.YtdiejmhphhdcfaaQF131
import Derived.Test.YtdiejmhphhdcfaaQM1
import Derived.Test.YtdiejmhphhdcfaaQF7
import Derived.Test.YtdiejmhphhdcfaaQF34
import Derived.Test.YtdiejmhphhdcfaaQF35
import Derived.Test.YtdiejmhphhdcfaaQF84
namespace Go.Proofs.Ytdiejmhphhdcfaa.Pure
open Go.RowKit Go.Proofs.Ytdiejmhphhdcfaa.Q Go.Proofs.YtdiejmhphhdcfaaW.PrintWords
/-- Going down from the end of a loop. -/
theorem Ev.down {α : Type} (n : Nat) (F : Nat → Nat → Option α) (R : Nat → α) (hend : Ev (fun k => F k n) (R n)) (hstep : ∀ i, i < n → Ev (fun k => F k (i + 1)) (R (i + 1)) → Ev (fun k => F k i) (R i)) : ∀ i, i ≤ n → Ev (fun k => F k i) (R i) := by
  have key : ∀ d i, n - i = d → i ≤ n → Ev (fun k => F k i) (R i) := by
    intro d
    induction d with
    | zero =>
      intro i hd hi
      obtain rfl : i = n := by omega
      exact hend
    | succ d ih => intro i hd hi; exact hstep i (by omega) (ih (i + 1) (by omega) (by omega))
  intro i hi
  exact key (n - i) i rfl hi
theorem Ev.some {α : Type} (r : α) : Ev (fun _ => Option.some r) r := Ev.now r
theorem w64 (i : Nat) (h : i ≤ 4611686018427387904) : wrap64 ((i : Int) + 1) = ((i + 1 : Nat) : Int) := by unfold wrap64; omega
theorem w64p (i : Nat) (h : i ≤ 4611686018427387904) : wrap64 (((i + 1 : Nat) : Int) - 1) = (i : Int) := by unfold wrap64; omega
theorem rdC (l : List S86) (i : Nat) (h : i < l.length) : rd_T86 l (i : Int) = l[i] := by simp [rd_T86, List.getD_eq_getElem?_getD, List.getElem?_eq_getElem h]
theorem rdR (l : List S95) (i : Nat) (h : i < l.length) : rd_T95 l (i : Int) = l[i] := by simp [rd_T95, List.getD_eq_getElem?_getD, List.getElem?_eq_getElem h]
theorem rdCl (l : List S127) (i : Nat) (h : i < l.length) : rd_T127 l (i : Int) = l[i] := by simp [rd_T127, List.getD_eq_getElem?_getD, List.getElem?_eq_getElem h]
theorem rdRl (l : List S129) (i : Nat) (h : i < l.length) : rd_T129 l (i : Int) = l[i] := by simp [rd_T129, List.getD_eq_getElem?_getD, List.getElem?_eq_getElem h]
theorem getDR (rs : List S95) (i : Nat) (h : i < rs.length) : rs.getD i z95 = rs[i] := by simp [List.getD_eq_getElem?_getD, List.getElem?_eq_getElem h]
theorem getDC (cs : List S86) (i : Nat) (h : i < cs.length) : cs.getD i z86 = cs[i] := by simp [List.getD_eq_getElem?_getD, List.getElem?_eq_getElem h]
def cvC (x : S127) : S86 := ⟨x.f0, x.f1⟩
def cvR (x : S129) : S95 := ⟨x.f0, x.f1⟩
theorem acc_step {α β : Type} (f : α → β) (z : β) (l : List α) (i : Nat) (hi : i < l.length) : ((l.take i).map f ++ List.replicate (l.length - i) z).set i (f l[i]) = (l.take (i + 1)).map f ++ List.replicate (l.length - (i + 1)) z := by
  have h1 : ((l.take i).map f).length = i := by rw [List.length_map, List.length_take]; omega
  rw [List.set_append_right _ _ (by omega), h1, Nat.sub_self]
  obtain ⟨m, hm⟩ : ∃ m, l.length - i = m + 1 := ⟨l.length - i - 1, by omega⟩
  rw [hm, List.replicate_succ, List.set_cons_zero, List.take_succ_eq_append_getElem hi, List.map_append, show l.length - (i + 1) = m by omega]
  simp
theorem toContextS_ev (l : List S127) (hl : l.length ≤ 1048576) : Ev (fun k => laws_toContextS.f k l) (l.map cvC) := by
  unfold laws_toContextS.f
  have h1 : (0 : Int) ≤ (l.length : Int) := by omega
  have h2 : l.length ≤ 17592186044416 := by omega
  simp only [h1, if_true, Int.toNat_natCast, h2]
  have key := Ev.down l.length (fun k i => laws_toContextS.l0 k l ((l.take i).map cvC ++ List.replicate (l.length - i) z86) (i : Int)) (fun _ => l.map cvC)
    (by
      refine Ev.step (fun k => by rw [laws_toContextS.l0]) ?_
      simp only [Int.lt_irrefl, if_false, List.take_length, Nat.sub_self, List.replicate_zero, List.append_nil]
      exact Ev.now _)
    (fun i hi ih => by
      refine Ev.step (fun k => by rw [laws_toContextS.l0]) ?_
      have h1 : (i : Int) < (l.length : Int) := by omega
      have h2 : (0 : Int) ≤ (i : Int) := by omega
      have h3 : (i : Int) < ((((l.take i).map cvC ++ List.replicate (l.length - i) z86).length : Nat) : Int) := by
        rw [List.length_append, List.length_map, List.length_take, List.length_replicate]
        omega
      simp only [h1, h2, h3, if_true, rdCl l i hi, laws_toContext.f, Option.bind_some, w64 i (by omega), Int.toNat_natCast]
      have e := acc_step cvC z86 l i hi
      unfold cvC at e ih ⊢
      rw [e]
      exact ih)
  have h0 := key 0 (Nat.zero_le _)
  simpa using h0
theorem toRelationS_ev (l : List S129) (hl : l.length ≤ 1048576) : Ev (fun k => laws_toRelationS.f k l) (l.map cvR) := by
  unfold laws_toRelationS.f
  have h1 : (0 : Int) ≤ (l.length : Int) := by omega
  have h2 : l.length ≤ 17592186044416 := by omega
  simp only [h1, if_true, Int.toNat_natCast, h2]
  have key := Ev.down l.length (fun k i => laws_toRelationS.l0 k l ((l.take i).map cvR ++ List.replicate (l.length - i) z95) (i : Int)) (fun _ => l.map cvR)
    (by
      refine Ev.step (fun k => by rw [laws_toRelationS.l0]) ?_
      simp only [Int.lt_irrefl, if_false, List.take_length, Nat.sub_self, List.replicate_zero, List.append_nil]
      exact Ev.now _)
    (fun i hi ih => by
      refine Ev.step (fun k => by rw [laws_toRelationS.l0]) ?_
      have h1 : (i : Int) < (l.length : Int) := by omega
      have h2 : (0 : Int) ≤ (i : Int) := by omega
      have h3 : (i : Int) < ((((l.take i).map cvR ++ List.replicate (l.length - i) z95).length : Nat) : Int) := by
        rw [List.length_append, List.length_map, List.length_take, List.length_replicate]
        omega
      simp only [h1, h2, h3, if_true, rdRl l i hi, laws_toRelation.f, Option.bind_some, w64 i (by omega), Int.toNat_natCast]
      have e := acc_step cvR z95 l i hi
      unfold cvR at e ih ⊢
      rw [e]
      exact ih)
  have h0 := key 0 (Nat.zero_le _)
  simpa using h0
theorem toRecord_ev (l0 : List S127) (l1 : List S129) (h0 : l0.length ≤ 1048576) (h1 : l1.length ≤ 1048576) : Ev (fun k => laws_toRecord.f k l0 l1) (l0.map cvC, l1.map cvR) := by
  unfold laws_toRecord.f
  refine Ev.bind (toContextS_ev l0 h0) ?_
  refine Ev.bind (toRelationS_ev l1 h1) ?_
  exact Ev.now _
theorem eqContextS_ev (a : List S86) (ha : a.length ≤ 1048576) : Ev (fun k => laws_eqContextS.f k a a) true := by
  unfold laws_eqContextS.f
  simp only [if_true]
  have key := Ev.down a.length (fun k i => laws_eqContextS.l0 k a a (i : Int)) (fun _ => true)
    (by
      refine Ev.step (fun k => by rw [laws_eqContextS.l0]) ?_
      simp only [Int.lt_irrefl, if_false]
      exact Ev.now _)
    (fun i hi ih => by
      refine Ev.step (fun k => by rw [laws_eqContextS.l0]) ?_
      have h1 : (i : Int) < (a.length : Int) := by omega
      have h2 : (0 : Int) ≤ (i : Int) := by omega
      simp only [h1, h2, if_true, laws_eqContext.f, Option.bind_some, w64 i (by omega)]
      exact ih)
  exact key 0 (Nat.zero_le _)
theorem eqRelationS_ev (a : List S95) (ha : a.length ≤ 1048576) : Ev (fun k => laws_eqRelationS.f k a a) true := by
  unfold laws_eqRelationS.f
  simp only [if_true]
  have key := Ev.down a.length (fun k i => laws_eqRelationS.l0 k a a (i : Int)) (fun _ => true)
    (by
      refine Ev.step (fun k => by rw [laws_eqRelationS.l0]) ?_
      simp only [Int.lt_irrefl, if_false]
      exact Ev.now _)
    (fun i hi ih => by
      refine Ev.step (fun k => by rw [laws_eqRelationS.l0]) ?_
      have h1 : (i : Int) < (a.length : Int) := by omega
      have h2 : (0 : Int) ≤ (i : Int) := by omega
      simp only [h1, h2, if_true, laws_eqRelation.f, Option.bind_some, w64 i (by omega)]
      exact ih)
  exact key 0 (Nat.zero_le _)
theorem eqRecord_ev (a : List S86) (b : List S95) (ha : a.length ≤ 1048576) (hb : b.length ≤ 1048576) : Ev (fun k => laws_eqRecord.f k a b a b) true := by
  unfold laws_eqRecord.f
  refine Ev.bind (eqContextS_ev a ha) ?_
  simp only [if_true]
  refine Ev.bind (eqRelationS_ev b hb) ?_
  simp only [if_true]
  exact Ev.now _
/-- What the law's first test lets by: at most 2^20 contexts and relations. -/
theorem szRecord_eq (l0 : List S127) (l1 : List S129) (g0 : l0.length ≤ 9223372036854775807) (g1 : l1.length ≤ 9223372036854775807) :
    ∃ t, laws_szRecord.f l0 l1 1048576 = some t ∧ (t < 0 ∨ (0 ≤ t ∧ t ≤ 1048576 ∧ l0.length ≤ 1048576 ∧ l1.length ≤ 1048576)) := by
  unfold laws_szRecord.f laws_szContextS.f laws_szRelationS.f
  have e0 : wrap64 (1048576 - (l0.length : Int)) = 1048576 - (l0.length : Int) := by unfold wrap64; omega
  rw [e0]
  by_cases h0 : (1048576 - (l0.length : Int)) < 0
  · exact ⟨-1, by simp [h0], .inl (by omega)⟩
  · have e1 : wrap64 (1048576 - (l0.length : Int) - (l1.length : Int)) = 1048576 - (l0.length : Int) - (l1.length : Int) := by unfold wrap64; omega
    simp only [h0, if_false, Option.bind_some, e1]
    by_cases h1 : (1048576 - (l0.length : Int) - (l1.length : Int)) < 0
    · exact ⟨-1, by simp [h1], .inl (by omega)⟩
    · exact ⟨1048576 - (l0.length : Int) - (l1.length : Int), by simp [h1], .inr (by omega)⟩
theorem markC_l0 : ∀ (d : Nat) (st : List S86) (k : Int) (i : Nat), st.length - i = d → i ≤ st.length → st.length ≤ 1048576 → 0 ≤ k → k + 2 * d ≤ 4611686018427387904 → ∃ st', Ev (fun q => laws_markContextS.l0 q st k (i : Int)) (k + 2 * d, st') := by
  intro d
  induction d with
  | zero =>
    intro st k i hd hi hl h0 h1
    obtain rfl : i = st.length := by omega
    refine ⟨st, Ev.step (fun q => by rw [laws_markContextS.l0]) ?_⟩
    simp only [Int.lt_irrefl, if_false]
    rw [show k + 2 * ((0 : Nat) : Int) = k by omega]
    exact Ev.now _
  | succ d ih =>
    intro st k i hd hi hl h0 h1
    have a1 : wrap64 (k + 1) = k + 1 := by unfold wrap64; omega
    have a2 : wrap64 (k + 1 + 1) = k + 2 := by unfold wrap64; omega
    have a3 : (i : Int) < (st.length : Int) := by omega
    have a4 : (0 : Int) ≤ (i : Int) := by omega
    obtain ⟨st', h⟩ := ih (((st.set i ⟨k, (rd_T86 st (i : Int)).f1⟩).set i ⟨(rd_T86 (st.set i ⟨k, (rd_T86 st (i : Int)).f1⟩) (i : Int)).f0, k + 1⟩)) (k + 2) (i + 1) (by simp only [List.length_set]; omega) (by simp only [List.length_set]; omega) (by simp only [List.length_set]; omega) (by omega) (by omega)
    refine ⟨st', Ev.step (fun q => by rw [laws_markContextS.l0]) ?_⟩
    simp only [a1, a2, a3, a4, if_true, Option.bind_some, Int.toNat_natCast, w64 i (by omega)]
    rw [show k + 2 * ((d + 1 : Nat) : Int) = k + 2 + 2 * (d : Int) by omega]
    exact h
theorem markC_ev (st : List S86) (k : Int) (hl : st.length ≤ 1048576) (h0 : 0 ≤ k) (h1 : k ≤ 1099511627776) : ∃ m st', 0 ≤ m ∧ m ≤ k + 2097152 ∧ Ev (fun q => laws_markContextS.f q st k) (m, st') := by
  obtain ⟨st', h⟩ := markC_l0 st.length st k 0 (by omega) (by omega) hl h0 (by omega)
  exact ⟨k + 2 * (st.length : Int), st', by omega, by omega, h⟩
theorem markR_l0 : ∀ (d : Nat) (st : List S95) (k : Int) (i : Nat), st.length - i = d → i ≤ st.length → st.length ≤ 1048576 → 0 ≤ k → k + 2 * d ≤ 4611686018427387904 → ∃ st', Ev (fun q => laws_markRelationS.l0 q st k (i : Int)) (k + 2 * d, st') := by
  intro d
  induction d with
  | zero =>
    intro st k i hd hi hl h0 h1
    obtain rfl : i = st.length := by omega
    refine ⟨st, Ev.step (fun q => by rw [laws_markRelationS.l0]) ?_⟩
    simp only [Int.lt_irrefl, if_false]
    rw [show k + 2 * ((0 : Nat) : Int) = k by omega]
    exact Ev.now _
  | succ d ih =>
    intro st k i hd hi hl h0 h1
    have a1 : wrap64 (k + 1) = k + 1 := by unfold wrap64; omega
    have a2 : wrap64 (k + 1 + 1) = k + 2 := by unfold wrap64; omega
    have a3 : (i : Int) < (st.length : Int) := by omega
    have a4 : (0 : Int) ≤ (i : Int) := by omega
    obtain ⟨st', h⟩ := ih (((st.set i ⟨k, (rd_T95 st (i : Int)).f1⟩).set i ⟨(rd_T95 (st.set i ⟨k, (rd_T95 st (i : Int)).f1⟩) (i : Int)).f0, k + 1⟩)) (k + 2) (i + 1) (by simp only [List.length_set]; omega) (by simp only [List.length_set]; omega) (by simp only [List.length_set]; omega) (by omega) (by omega)
    refine ⟨st', Ev.step (fun q => by rw [laws_markRelationS.l0]) ?_⟩
    simp only [a1, a2, a3, a4, if_true, Option.bind_some, Int.toNat_natCast, w64 i (by omega)]
    rw [show k + 2 * ((d + 1 : Nat) : Int) = k + 2 + 2 * (d : Int) by omega]
    exact h
theorem markR_ev (st : List S95) (k : Int) (hl : st.length ≤ 1048576) (h0 : 0 ≤ k) (h1 : k ≤ 1099511627776) : ∃ m st', 0 ≤ m ∧ m ≤ k + 2097152 ∧ Ev (fun q => laws_markRelationS.f q st k) (m, st') := by
  obtain ⟨st', h⟩ := markR_l0 st.length st k 0 (by omega) (by omega) hl h0 (by omega)
  exact ⟨k + 2 * (st.length : Int), st', by omega, by omega, h⟩
/-- Marking a record: what it answers is not below 0. -/
theorem markRecord_ev (cs : List S86) (rs : List S95) (k : Int) (hc : cs.length ≤ 1048576) (hr : rs.length ≤ 1048576) (h0 : 0 ≤ k) (h1 : k ≤ 1048576) : ∃ m x y, 0 ≤ m ∧ m ≤ 8388608 ∧ Ev (fun q => laws_markRecord.f q cs rs k) (m, x, y) := by
  obtain ⟨m, x, a, b, hm⟩ := markC_ev cs k hc h0 (by omega)
  obtain ⟨n, y, c, d, hn⟩ := markR_ev rs m hr a (by omega)
  refine ⟨n, x, y, c, by omega, ?_⟩
  unfold laws_markRecord.f
  exact Ev.bind hm (Ev.bind hn (Ev.now _))
/-- A matrix as a list of sets, each as bits. -/
def masks (n : Nat) (M : Nat → Nat → Bool) : List Int := (List.range n).map fun i => ((mask n (M i) : Nat) : Int)
theorem masks_length (n : Nat) (M : Nat → Nat → Bool) : (masks n M).length = n := by simp [masks]
theorem masks_ext {n : Nat} {M M' : Nat → Nat → Bool} (h : ∀ a b, a < n → b < n → M a b = M' a b) : masks n M = masks n M' := by
  unfold masks
  apply List.map_congr_left
  intro a ha
  rw [mask_ext (fun b hb => h a b (List.mem_range.1 ha) hb)]
theorem masks_rd {n : Nat} {M : Nat → Nat → Bool} {a : Nat} (ha : a < n) : rd (masks n M) (a : Int) = ((mask n (M a) : Nat) : Int) := by
  simp [rd, masks, List.getD_eq_getElem?_getD, ha]
theorem masks_set {n : Nat} {M : Nat → Nat → Bool} {a : Nat} (p : Nat → Bool) : (masks n M).set a ((mask n p : Nat) : Int) = masks n (fun x => if x = a then p else M x) := by
  apply List.ext_getElem (by simp [masks])
  intro i h1 h2
  simp only [masks, List.length_map, List.length_range, List.length_set] at h1 h2
  simp only [masks, List.getElem_set, List.getElem_map, List.getElem_range]
  by_cases e : a = i
  · subst e; simp
  · have e2 : ¬ i = a := fun h => e h.symm
    simp [e, e2]
theorem masks_none (n : Nat) : masks n (fun _ _ => false) = List.replicate n 0 := by
  apply List.ext_getElem (by simp [masks])
  intro i h1 h2
  simp [masks, mask_zero]
theorem wrap_i64_small (n : Int) (h0 : 0 ≤ n) (h1 : n < 2 ^ 62) : IntKind.i64.wrap n = n := by
  have h2 : n < 4611686018427387904 := h1
  rw [IntKind.wrap_i64]; omega
theorem mask_lt62 (n : Nat) (p : Nat → Bool) (hn : n ≤ 62) : mask n p < 2 ^ 62 := Nat.lt_of_lt_of_le (mask_lt n p) (Nat.pow_le_pow_right (by decide) hn)
theorem or_masks (n : Nat) (p q : Nat → Bool) (hn : n ≤ 62) : Go.bits .or .i64 ((mask n p : Nat) : Int) ((mask n q : Nat) : Int) = ((mask n (fun i => p i || q i) : Nat) : Int) := by
  rw [(bits_nat .i64 62 (by decide) wrap_i64_small _ _ (mask_lt62 n p hn) (mask_lt62 n q hn)).2, mask_or]
theorem u64_small (i : Nat) (hi : i < 64) : IntKind.u64.wrap (i : Int) = (i : Int) := by
  simp only [IntKind.wrap, IntKind.bits, IntKind.signed]
  simp
  omega
theorem shl_mask (n b : Nat) (hb : b < n) (hn : n ≤ 62) : shl .i64 1 (b : Int) = ((mask n (fun i => decide (i = b)) : Nat) : Int) := by
  rw [← mask_one hb]
  unfold shl
  have h1 : min (b : Int).toNat IntKind.i64.bits = b := by
    have : IntKind.i64.bits = 64 := rfl
    rw [this, Int.toNat_natCast]; omega
  rw [h1, Int.one_mul, Nat.one_shiftLeft]
  have h2 : (2 : Int) ^ b = ((2 ^ b : Nat) : Int) := by simp
  rw [h2]
  apply wrap_i64_small _ (Int.natCast_nonneg _)
  have h3 : 2 ^ b < 2 ^ 62 := Nat.pow_lt_pow_right (by decide) (by omega)
  exact_mod_cast h3
theorem bit_mask (n i : Nat) (p : Nat → Bool) (hn : n ≤ 62) (hi : i < 64) : Go.bits .and .i64 (shr .i64 ((mask n p : Nat) : Int) (i : Int)) 1 = if decide (i < n) && p i then 1 else 0 := by
  unfold shr
  have h1 : min (i : Int).toNat IntKind.i64.bits = i := by
    have : IntKind.i64.bits = 64 := rfl
    rw [this, Int.toNat_natCast]; omega
  rw [h1]
  have h2 : (2 : Int) ^ i = ((2 ^ i : Nat) : Int) := by simp
  rw [h2, ← Int.natCast_ediv]
  have h3 : mask n p / 2 ^ i < 2 ^ 62 := Nat.lt_of_le_of_lt (Nat.div_le_self _ _) (mask_lt62 n p hn)
  have h4 := (bits_nat .i64 62 (by decide) wrap_i64_small (mask n p / 2 ^ i) 1 h3 (by decide)).1
  rw [show ((1 : Nat) : Int) = 1 from rfl] at h4
  rw [h4, Nat.and_one_is_mod]
  have h5 := mask_bit p n i
  rw [Nat.testBit_eq_decide_div_mod_eq] at h5
  rw [← h5]
  by_cases h6 : mask n p / 2 ^ i % 2 = 1
  · simp [h6]
  · have : mask n p / 2 ^ i % 2 = 0 := by omega
    simp [this]
theorem l4Bit_mask (n i : Nat) (p : Nat → Bool) (hn : n ≤ 62) (hi : i < 64) : spec_l4Bit.f ((mask n p : Nat) : Int) (i : Int) = some (decide (i < n) && p i) := by
  unfold spec_l4Bit.f
  rw [u64_small i hi, if_pos (by omega), bit_mask n i p hn hi]
  cases (decide (i < n) && p i) <;> rfl
theorem l4Bit_masks (n i k : Nat) (M : Nat → Nat → Bool) (hn : n ≤ 62) (hi : i < n) (hk : k < n) : spec_l4Bit.f (rd (masks n M) (i : Int)) (k : Int) = some (M i k) := by
  rw [masks_rd hi, l4Bit_mask n k (M i) hn (by omega)]
  simp [hk]
theorem later_l1 (A : Nat → Nat → Bool) (n : Nat) (hn : n ≤ 10) : ∀ (d j : Nat), n - j = d → j ≤ n → Ev (fun k => spec_l4Later.l1 k (masks n (rch A j)) (j : Int)) (masks n (rch A n)) := by
  intro d
  induction d with
  | zero =>
    intro j hd hj
    obtain rfl : j = n := by omega
    refine Ev.step (fun q => by rw [spec_l4Later.l1]) ?_
    simp only [masks_length, Int.lt_irrefl, if_false]
    exact Ev.now _
  | succ d ih =>
    intro j hd hj
    have h1 : (j : Int) < (n : Int) := by omega
    refine Ev.step (fun q => by rw [spec_l4Later.l1]) ?_
    simp only [masks_length, h1, if_true]
    have inner : ∀ (e i : Nat), n - i = e → i ≤ n → Ev (fun k => spec_l4Later.l2 k (masks n (fun x => if x < i then rch A (j + 1) x else rch A j x)) (j : Int) (i : Int)) (masks n (rch A n)) := by
      intro e
      induction e with
      | zero =>
        intro i he hi
        obtain rfl : i = n := by omega
        refine Ev.step (fun q => by rw [spec_l4Later.l2]) ?_
        simp only [masks_length, Int.lt_irrefl, if_false, w64 j (by omega)]
        rw [masks_ext (M' := rch A (j + 1)) (fun a b ha _ => by simp [ha])]
        exact ih (j + 1) (by omega) (by omega)
      | succ e ih2 =>
        intro i he hi
        have hil : i < n := by omega
        have h2 : (i : Int) < (n : Int) := by omega
        have h3 : (0 : Int) ≤ (i : Int) := by omega
        have h4 : (0 : Int) ≤ (j : Int) := by omega
        refine Ev.step (fun q => by rw [spec_l4Later.l2]) ?_
        simp only [masks_length, h1, h2, h3, h4, if_true, u64_small j (by omega), masks_rd hil, masks_rd (show j < n by omega), w64 i (by omega), Int.toNat_natCast]
        rw [if_neg (show ¬ i < i by omega), bit_mask n j _ (by omega) (by omega)]
        have hjn : decide (j < n) = true := decide_eq_true (by omega)
        rw [hjn, Bool.true_and]
        have next := ih2 (i + 1) (by omega) (by omega)
        by_cases hb : rch A j i j = true
        · simp only [hb, if_true, or_masks n _ _ (show n ≤ 62 by omega), masks_set]
          rw [masks_ext (M' := fun x => if x < i + 1 then rch A (j + 1) x else rch A j x) (fun a b _ _ => ?_)]
          · exact next
          · by_cases e1 : a = i
            · subst e1
              have e2 : (if j < a then rch A (j + 1) j else rch A j j) b = rch A j j b := by
                split
                · exact rch_row A j b
                · rfl
              simp only [eq_self, if_true]
              rw [e2, if_pos (show a < a + 1 by omega)]
              simp only [rch, hb, Bool.true_and]
            · by_cases e2 : a < i
              · simp [e1, e2, show a < i + 1 by omega]
              · simp [e1, e2, show ¬ a < i + 1 by omega]
        · have hb' : rch A j i j = false := by simpa using hb
          simp only [hb', Bool.false_eq_true, if_false, show ¬ (0 : Int) = 1 by decide]
          rw [masks_ext (M' := fun x => if x < i + 1 then rch A (j + 1) x else rch A j x) (fun a b _ _ => ?_)]
          · exact next
          · by_cases e1 : a = i
            · subst e1
              simp [rch, hb']
            · by_cases e2 : a < i
              · simp [e2, show a < i + 1 by omega]
              · simp [e2, show ¬ a < i + 1 by omega]
    have h0 := inner n 0 (by omega) (by omega)
    simpa using h0
theorem l4Later_ev (cs : List S86) (rs : List S95) (hn : cs.length ≤ 10) (hm : rs.length ≤ 24) (hin : relsIn cs rs) : Ev (fun k => spec_l4Later.f k cs rs) (masks cs.length (lat cs rs)) := by
  unfold spec_l4Later.f
  simp only [show (0 : Int) ≤ (cs.length : Int) by omega, if_true, Int.toNat_natCast, show cs.length ≤ 35184372088832 by omega]
  have key := Ev.down rs.length (fun k i => spec_l4Later.l0 k (masks cs.length (abv cs (rs.take i))) (i : Int) cs rs) (fun _ => masks cs.length (lat cs rs))
    (by
      refine Ev.step (fun k => by rw [spec_l4Later.l0]) ?_
      simp only [Int.lt_irrefl, if_false, List.take_length]
      exact later_l1 (abv cs rs) cs.length hn cs.length 0 (by omega) (by omega))
    (fun i hi ih => by
      refine Ev.step (fun k => by rw [spec_l4Later.l0]) ?_
      have h1 : (i : Int) < (rs.length : Int) := by omega
      have h2 : (0 : Int) ≤ (i : Int) := by omega
      obtain ⟨a, ha, hal⟩ := find_nat cs rs[i].f0 (hin _ (List.getElem_mem hi)).1
      obtain ⟨b, hb, hbl⟩ := find_nat cs rs[i].f1 (hin _ (List.getElem_mem hi)).2
      have h3 : (0 : Int) ≤ (a : Int) := by omega
      have h4 : (a : Int) < (cs.length : Int) := by omega
      have h5 : (0 : Int) ≤ (b : Int) := by omega
      simp only [h1, h2, if_true, rdR rs i hi, find_f, ha, hb, Option.bind_some, h3, masks_length, h4, u64_small b (by omega), h5, w64 i (by omega), Int.toNat_natCast, masks_rd hal, shl_mask cs.length b hbl (by omega), or_masks cs.length _ _ (show cs.length ≤ 62 by omega), masks_set]
      have hs := abv_snoc cs (rs.take i) rs[i] a b ha hb
      rw [← List.take_succ_eq_append_getElem hi] at hs
      rw [masks_ext (M' := abv cs (rs.take (i + 1))) (fun x y _ _ => ?_)]
      · exact ih
      · rw [← hs]
        by_cases e1 : x = a
        · subst e1
          by_cases e2 : y = b
          · subst e2; simp
          · simp [e2]
        · simp [e1])
  have h0 := key 0 (Nat.zero_le _)
  have e0 : abv cs (rs.take 0) = fun _ _ => false := by
    funext a b; simp [abv]
  simp only [e0, masks_none] at h0
  exact h0
theorem find_at (cs : List S86) (a : Int) (i : Nat) (h : find cs a = (i : Int)) : i < cs.length ∧ (cs.getD i z86).f0 = a := by
  obtain ⟨k, hk, e, hp, _⟩ := idxI_found (fun c : S86 => c.f0 == a) z86 cs (by unfold find at h; omega)
  have : i = k := by unfold find at h; omega
  subst this
  exact ⟨hk, by simpa using hp⟩
theorem find_inj (cs : List S86) (a b : Int) (i : Nat) (h : find cs a = (i : Int)) (h' : find cs b = (i : Int)) : a = b := (find_at cs a i h).2.symm.trans (find_at cs b i h').2
theorem l4Consistent_ev (cs : List S86) (rs : List S95) (hn : cs.length ≤ 10) (hm : rs.length ≤ 24) (hin : relsIn cs rs) : Ev (fun k => spec_l4Consistent.f k cs rs) (consB cs.length (lat cs rs)) := by
  unfold spec_l4Consistent.f
  refine Ev.bind (l4Later_ev cs rs hn hm hin) ?_
  generalize lat cs rs = M
  have key : ∀ (d i : Nat), cs.length - i = d → i ≤ cs.length → (∀ j, j < i → M j j = false) → Ev (fun k => spec_l4Consistent.l0 k (masks cs.length M) (i : Int)) (consB cs.length M) := by
    intro d
    induction d with
    | zero =>
      intro i hd hi hA
      obtain rfl : i = cs.length := by omega
      refine Ev.step (fun q => by rw [spec_l4Consistent.l0]) ?_
      simp only [masks_length, Int.lt_irrefl, if_false]
      rw [consB_good hA]
      exact Ev.now _
    | succ d ih =>
      intro i hd hi hA
      have hlt : i < cs.length := by omega
      have a3 : (i : Int) < (cs.length : Int) := by omega
      have a4 : (0 : Int) ≤ (i : Int) := by omega
      refine Ev.step (fun q => by rw [spec_l4Consistent.l0]) ?_
      simp only [masks_length, a3, a4, if_true, w64 i (by omega)]
      rw [l4Bit_masks cs.length i i M (by omega) hlt hlt]
      simp only [Option.bind_some]
      cases hb : M i i with
      | true =>
        simp only [if_true]
        rw [consB_bad hlt hb]
        exact Ev.now _
      | false =>
        simp only [Bool.false_eq_true, if_false]
        exact ih (i + 1) (by omega) (by omega) (fun j hj => by
          by_cases e : j = i
          · subst e; exact hb
          · exact hA j (by omega))
  exact key cs.length 0 (by omega) (by omega) (fun j hj => absurd hj (Nat.not_lt_zero _))
theorem l5Good_ev (cs : List S86) (rs : List S95) : Ev (fun k => spec_l5Good.f k cs rs) (goodB cs rs && consB cs.length (lat cs rs)) := by
  unfold spec_l5Good.f
  simp only [spec_l2Good.f, Option.bind_some]
  cases hg : goodB cs rs with
  | false =>
    simp only [Bool.false_eq_true, if_false, Bool.false_and]
    exact Ev.now _
  | true =>
    obtain ⟨hn, hm, hin⟩ := goodB_parts hg
    simp only [if_true, Bool.true_and]
    first
      | exact l4Consistent_ev cs rs hn hm hin
      | exact Ev.bind (l4Consistent_ev cs rs hn hm hin) (Ev.now _)
theorem abv_iff (cs : List S86) (rs : List S95) (i k : Nat) : abv cs rs i k = true ↔ ∃ y, y ∈ rs ∧ find cs y.f0 = (i : Int) ∧ find cs y.f1 = (k : Int) := by
  unfold abv
  rw [List.any_eq_true]
  constructor
  · rintro ⟨y, hy, h⟩
    simp only [Bool.and_eq_true, decide_eq_true_eq] at h
    exact ⟨y, hy, h.1, h.2⟩
  · rintro ⟨y, hy, h1, h2⟩
    exact ⟨y, hy, by simp [h1, h2]⟩
/-- What the reference looks for. -/
def redY (cs : List S86) (M : Nat → Nat → Bool) (x y : S95) : Bool := y.f0 == x.f0 && !(y.f1 == x.f1) && M (find cs y.f1).toNat (find cs x.f1).toNat
theorem redY_eq (cs : List S86) (rs : List S95) (hin : relsIn cs rs) (hc : consB cs.length (lat cs rs) = true) (x : S95) (hx : x ∈ rs) : rs.any (redY cs (lat cs rs) x) = redB cs.length (abv cs rs) (lat cs rs) (find cs x.f0).toNat (find cs x.f1).toNat := by
  obtain ⟨a, ha, hal⟩ := find_nat cs x.f0 (hin x hx).1
  obtain ⟨b, hb, hbl⟩ := find_nat cs x.f1 (hin x hx).2
  rw [ha, hb, Int.toNat_natCast, Int.toNat_natCast]
  rw [Bool.eq_iff_iff, List.any_eq_true]
  unfold redB
  rw [List.any_eq_true]
  constructor
  · rintro ⟨y, hy, h⟩
    simp only [redY, Bool.and_eq_true, beq_iff_eq, hb, Int.toNat_natCast] at h
    obtain ⟨j, hj, hjl⟩ := find_nat cs y.f1 (hin y hy).2
    rw [hj, Int.toNat_natCast] at h
    refine ⟨j, List.mem_range.2 hjl, ?_⟩
    rw [h.2, Bool.and_true, abv_iff]
    exact ⟨y, hy, by rw [h.1.1]; exact ha, hj⟩
  · rintro ⟨j, hj, h⟩
    simp only [Bool.and_eq_true] at h
    obtain ⟨y, hy, h1, h2⟩ := (abv_iff cs rs a j).1 h.1
    refine ⟨y, hy, ?_⟩
    have e0 : y.f0 = x.f0 := find_inj cs y.f0 x.f0 a h1 ha
    have e1 : ¬ y.f1 = x.f1 := by
      intro e
      have : j = b := by rw [e] at h2; omega
      subst this
      have := consB_at hc hbl
      rw [this] at h
      exact absurd h.2 (by simp)
    simp [redY, e0, e1, hb, h2, h.2]
theorem l5Redundant_ev (cs : List S86) (rs : List S95) (hn : cs.length ≤ 10) (hm : rs.length ≤ 24) (hin : relsIn cs rs) (hc : consB cs.length (lat cs rs) = true) (x : S95) (hx : x ∈ rs) : Ev (fun k => spec_l5Redundant.f k cs rs x.f0 x.f1) (redB cs.length (abv cs rs) (lat cs rs) (find cs x.f0).toNat (find cs x.f1).toNat) := by
  rw [← redY_eq cs rs hin hc x hx]
  unfold spec_l5Redundant.f
  refine Ev.bind (l4Later_ev cs rs hn hm hin) ?_
  obtain ⟨b, hb, hbl⟩ := find_nat cs x.f1 (hin x hx).2
  simp only [find_f, Option.bind_some, hb]
  generalize hM : lat cs rs = M
  have key := Ev.down rs.length (fun k i => spec_l5Redundant.l0 k (masks cs.length M) (b : Int) (i : Int) cs rs x.f0 x.f1) (fun i => (rs.drop i).any (redY cs M x))
    (by
      refine Ev.step (fun k => by rw [spec_l5Redundant.l0]) ?_
      simp only [Int.lt_irrefl, if_false, List.drop_length, List.any_nil]
      exact Ev.now _)
    (fun i hi ih => by
      have a3 : (i : Int) < (rs.length : Int) := by omega
      have a4 : (0 : Int) ≤ (i : Int) := by omega
      refine Ev.step (fun k => by rw [spec_l5Redundant.l0]) ?_
      obtain ⟨j, hj, hjl⟩ := find_nat cs rs[i].f1 (hin _ (List.getElem_mem hi)).2
      have b3 : (j : Int) < (cs.length : Int) := by omega
      have b4 : (0 : Int) ≤ (j : Int) := by omega
      simp only [a3, a4, if_true, rdR rs i hi, w64 i (by omega), find_f, hj, Option.bind_some, masks_length, b3, b4]
      rw [l4Bit_masks cs.length j b M (by omega) hjl hbl, List.drop_eq_getElem_cons hi, List.any_cons]
      simp only [Option.bind_some]
      by_cases h0 : rs[i].f0 = x.f0
      · by_cases h1 : rs[i].f1 = x.f1
        · have e : redY cs M x rs[i] = false := by simp [redY, h1]
          simp only [h0, h1, if_true, e, Bool.false_or]
          exact ih
        · have e : redY cs M x rs[i] = M j b := by simp [redY, h0, h1, hj, hb]
          simp only [h0, h1, if_true, if_false, e]
          cases M j b with
          | true =>
            simp only [if_true, Bool.true_or]
            exact Ev.now _
          | false =>
            simp only [Bool.false_eq_true, if_false, Bool.false_or]
            exact ih
      · have e : redY cs M x rs[i] = false := by simp [redY, h0]
        simp only [h0, if_false, e, Bool.false_or]
        exact ih)
  have h0 := key 0 (Nat.zero_le _)
  simpa using h0
theorem sorted_ext {α : Type} (lt : α → α → Prop) (irr : ∀ a, ¬ lt a a) (tr : ∀ a b c, lt a b → lt b c → lt a c) : ∀ (l1 l2 : List α), l1.Pairwise lt → l2.Pairwise lt → (∀ x, x ∈ l1 ↔ x ∈ l2) → l1 = l2
  | [], [], _, _, _ => rfl
  | [], b :: r2, _, _, h => absurd ((h b).2 (by simp)) (by simp)
  | a :: r1, [], _, _, h => absurd ((h a).1 (by simp)) (by simp)
  | a :: r1, b :: r2, h1, h2, h => by
    rw [List.pairwise_cons] at h1 h2
    have hab : a = b := by
      rcases List.mem_cons.1 ((h a).1 (by simp)) with e | e
      · exact e
      · rcases List.mem_cons.1 ((h b).2 (by simp)) with e2 | e2
        · exact e2.symm
        · exact absurd (tr _ _ _ (h1.1 b e2) (h2.1 a e)) (irr a)
    subst hab
    rw [sorted_ext lt irr tr r1 r2 h1.2 h2.2 (fun x => ?_)]
    constructor
    · intro hx
      rcases List.mem_cons.1 ((h x).1 (List.mem_cons_of_mem _ hx)) with e | e
      · subst e; exact absurd (h1.1 x hx) (irr x)
      · exact e
    · intro hx
      rcases List.mem_cons.1 ((h x).2 (List.mem_cons_of_mem _ hx)) with e | e
      · subst e; exact absurd (h2.1 x hx) (irr x)
      · exact e
theorem ctxOk_pair : ∀ (cs : List S86) (p : Option Int), ctxOk p cs = true → cs.Pairwise (fun a b => a.f0 < b.f0) ∧ (∀ q, p = some q → ∀ c, c ∈ cs → q < c.f0)
  | [], _, _ => ⟨List.Pairwise.nil, fun _ _ _ h => by simp at h⟩
  | c :: r, p, h => by
    simp only [ctxOk, Bool.and_eq_true] at h
    obtain ⟨h1, h2⟩ := ctxOk_pair r _ h.2
    refine ⟨List.pairwise_cons.2 ⟨fun d hd => h2 _ rfl d hd, h1⟩, fun q hq d hd => ?_⟩
    subst hq
    have hqc : q < c.f0 := by simpa using h.1.2
    rcases List.mem_cons.1 hd with rfl | hd
    · exact hqc
    · have := h2 _ rfl d hd; omega
theorem before_iff (a b : S95) : before a b = true ↔ a.f0 < b.f0 ∨ (a.f0 = b.f0 ∧ a.f1 < b.f1) := by simp [before]
theorem relOk_pair (cs : List S86) : ∀ (rs : List S95) (p : Option S95), relOk cs p rs = true → rs.Pairwise (fun a b => before a b = true) ∧ (∀ q, p = some q → ∀ c, c ∈ rs → before q c = true)
  | [], _, _ => ⟨List.Pairwise.nil, fun _ _ _ h => by simp at h⟩
  | c :: r, p, h => by
    simp only [relOk, Bool.and_eq_true] at h
    obtain ⟨h1, h2⟩ := relOk_pair cs r _ h.2
    refine ⟨List.pairwise_cons.2 ⟨fun d hd => h2 _ rfl d hd, h1⟩, fun q hq d hd => ?_⟩
    subst hq
    have hqc : before q c = true := by simpa using h.1.2
    rcases List.mem_cons.1 hd with rfl | hd
    · exact hqc
    · have h3 := h2 _ rfl d hd
      rw [before_iff] at hqc h3 ⊢
      omega
theorem goodB_sorted {cs : List S86} {rs : List S95} (h : goodB cs rs = true) : cs.Pairwise (fun a b => a.f0 < b.f0) ∧ rs.Pairwise (fun a b => before a b = true) := by
  simp only [goodB, Bool.and_eq_true] at h
  exact ⟨(ctxOk_pair cs _ h.1.2).1, (relOk_pair cs rs _ h.2).1⟩
theorem find_mono {cs : List S86} (hs : cs.Pairwise (fun a b => a.f0 < b.f0)) {a b : Int} {i k : Nat} (ha : find cs a = (i : Int)) (hb : find cs b = (k : Int)) (h : a < b) : i < k := by
  obtain ⟨hi, e1⟩ := find_at cs a i ha
  obtain ⟨hk, e2⟩ := find_at cs b k hb
  rw [getDC cs i hi] at e1
  rw [getDC cs k hk] at e2
  rcases Nat.lt_trichotomy i k with h1 | h1 | h1
  · exact h1
  · subst h1; omega
  · have := List.pairwise_iff_getElem.1 hs k i hk hi h1
    omega
def plt (a b : Nat × Nat) : Prop := a.1 < b.1 ∨ (a.1 = b.1 ∧ a.2 < b.2)
/-- All pairs below n, in order. -/
def allP (n : Nat) : List (Nat × Nat) := (List.range n).flatMap fun i => (List.range n).map fun k => (i, k)
theorem allP_sorted (n : Nat) : (allP n).Pairwise plt := by
  unfold allP
  rw [List.pairwise_flatMap]
  refine ⟨fun i _ => ?_, ?_⟩
  · rw [List.pairwise_map]
    exact List.pairwise_lt_range.imp (fun h => Or.inr ⟨rfl, h⟩)
  · refine List.pairwise_lt_range.imp (fun {i j} h => ?_)
    intro x hx y hy
    obtain ⟨a, _, rfl⟩ := List.mem_map.1 hx
    obtain ⟨b, _, rfl⟩ := List.mem_map.1 hy
    exact Or.inl h
theorem mem_allP {n : Nat} {x : Nat × Nat} : x ∈ allP n ↔ x.1 < n ∧ x.2 < n := by
  unfold allP
  rw [List.mem_flatMap]
  constructor
  · rintro ⟨i, hi, hx⟩
    obtain ⟨k, hk, rfl⟩ := List.mem_map.1 hx
    exact ⟨List.mem_range.1 hi, List.mem_range.1 hk⟩
  · intro h
    exact ⟨x.1, List.mem_range.2 h.1, List.mem_map.2 ⟨x.2, List.mem_range.2 h.2, rfl⟩⟩
def pairOf (cs : List S86) (x : S95) : Nat × Nat := ((find cs x.f0).toNat, (find cs x.f1).toNat)
theorem pairs_eq {cs : List S86} {rs : List S95} (h : goodB cs rs = true) : rs.map (pairOf cs) = (allP cs.length).filter fun x => abv cs rs x.1 x.2 := by
  obtain ⟨hn, hm, hin⟩ := goodB_parts h
  obtain ⟨hsc, hsr⟩ := goodB_sorted h
  refine sorted_ext plt (fun a h => by unfold plt at h; omega) (fun a b c h1 h2 => by unfold plt at *; omega) _ _ ?_ ((allP_sorted _).filter _) (fun x => ?_)
  · rw [List.pairwise_map]
    refine List.Pairwise.imp_of_mem (fun {a b} ha hb hab => ?_) hsr
    obtain ⟨i, hi, hil⟩ := find_nat cs a.f0 (hin a ha).1
    obtain ⟨k, hk, hkl⟩ := find_nat cs a.f1 (hin a ha).2
    obtain ⟨j, hj, hjl⟩ := find_nat cs b.f0 (hin b hb).1
    obtain ⟨m, hm', hml⟩ := find_nat cs b.f1 (hin b hb).2
    rw [before_iff] at hab
    unfold plt pairOf
    simp only [hi, hk, hj, hm', Int.toNat_natCast]
    rcases hab with h1 | ⟨h1, h2⟩
    · exact Or.inl (find_mono hsc hi hj h1)
    · rw [h1] at hi
      exact Or.inr ⟨by omega, find_mono hsc hk hm' h2⟩
  · rw [List.mem_map, List.mem_filter, mem_allP]
    constructor
    · rintro ⟨y, hy, rfl⟩
      obtain ⟨i, hi, hil⟩ := find_nat cs y.f0 (hin y hy).1
      obtain ⟨k, hk, hkl⟩ := find_nat cs y.f1 (hin y hy).2
      unfold pairOf
      simp only [hi, hk, Int.toNat_natCast]
      refine ⟨⟨hil, hkl⟩, ?_⟩
      unfold abv
      rw [List.any_eq_true]
      exact ⟨y, hy, by simp [hi, hk]⟩
    · rintro ⟨_, hx⟩
      unfold abv at hx
      obtain ⟨y, hy, h1⟩ := List.any_eq_true.1 hx
      simp only [Bool.and_eq_true, decide_eq_true_eq] at h1
      exact ⟨y, hy, by unfold pairOf; rw [h1.1, h1.2]; simp⟩
def updP (d : List Int) (x : Nat × Nat) : List Int := d.set x.2 (mx (d.getD x.2 0) (d.getD x.1 0 + 1))
theorem dRound_eq (M : Nat → Nat → Bool) (n : Nat) (d : List Int) : dRound M n d n = ((allP n).filter fun x => M x.1 x.2).foldl updP d := by
  unfold dRound allP
  rw [List.foldl_filter, List.foldl_flatMap]
  congr 1
  funext d i
  rw [List.foldl_map]
  rfl
def sRel (cs : List S86) (d : List Int) (rs : List S95) : List Int := rs.foldl (fun d x => updP d (pairOf cs x)) d
theorem sRel_round {cs : List S86} {rs : List S95} (h : goodB cs rs = true) (d : List Int) : sRel cs d rs = dRound (abv cs rs) cs.length d cs.length := by
  rw [dRound_eq, ← pairs_eq h, List.foldl_map]
  rfl
theorem updP_len (d : List Int) (x : Nat × Nat) : (updP d x).length = d.length := by simp [updP]
theorem sRel_len (cs : List S86) (rs : List S95) : ∀ d, (sRel cs d rs).length = d.length := by
  induction rs with
  | nil => intro d; rfl
  | cons x r ih => intro d; show (sRel cs (updP d (pairOf cs x)) r).length = _; rw [ih, updP_len]
theorem upB_upd {d : List Int} {B : Nat} (h : upB B d) (x : Nat × Nat) : upB (B + 1) (updP d x) := by
  have := upB_step (M := fun _ _ => true) h x.1 x.2
  simpa [dStep, updP] using this
theorem upB_sRel (cs : List S86) (rs : List S95) : ∀ (d : List Int) (B : Nat), upB B d → upB (B + rs.length) (sRel cs d rs) := by
  induction rs with
  | nil => intro d B h; exact h
  | cons x r ih =>
    intro d B h
    have := ih _ _ (upB_upd h (pairOf cs x))
    rw [show B + (x :: r).length = B + 1 + r.length by simp; omega]
    exact this
theorem l1Most_eq (a b : Int) : spec_l1Most.f a b = some (mx a b) := by
  unfold spec_l1Most.f mx
  by_cases h : a > b
  · have h' : ¬ a < b := by omega
    simp [h, h']
  · by_cases h2 : a < b
    · simp [h, h2]
    · have : a = b := by omega
      simp [this]
theorem rdN (d : List Int) (k : Nat) : rd d (k : Int) = d.getD k 0 := by simp [rd]
theorem depths_l1 (cs : List S86) (rs : List S95) (hn : cs.length ≤ 10) (hm : rs.length ≤ 24) (hin : relsIn cs rs) (x4 : Int) (out : List Int) : ∀ (m i : Nat), rs.length - i = m → i ≤ rs.length → ∀ d : List Int, d.length = cs.length → upB (1000 + i) d → Ev (fun k => spec_l5Depths.l0 k (sRel cs d (rs.drop i)) (wrap64 (x4 + 1)) cs rs) out → Ev (fun k => spec_l5Depths.l1 k d x4 (i : Int) cs rs) out := by
  intro m
  induction m with
  | zero =>
    intro i hd hi d hl hu hnext
    obtain rfl : i = rs.length := by omega
    refine Ev.step (fun q => by rw [spec_l5Depths.l1]) ?_
    simp only [Int.lt_irrefl, if_false]
    rw [List.drop_length] at hnext
    exact hnext
  | succ m ih =>
    intro i hd hi d hl hu hnext
    have hlt : i < rs.length := by omega
    have a3 : (i : Int) < (rs.length : Int) := by omega
    have a4 : (0 : Int) ≤ (i : Int) := by omega
    obtain ⟨a, ha, hal⟩ := find_nat cs rs[i].f0 (hin _ (List.getElem_mem hlt)).1
    obtain ⟨b, hb, hbl⟩ := find_nat cs rs[i].f1 (hin _ (List.getElem_mem hlt)).2
    have b1 : (0 : Int) ≤ (a : Int) := by omega
    have b2 : (a : Int) < (cs.length : Int) := by omega
    have b3 : (0 : Int) ≤ (b : Int) := by omega
    have b4 : (b : Int) < (cs.length : Int) := by omega
    have hua := hu a
    have e1 : wrap64 (d.getD a 0 + 1) = d.getD a 0 + 1 := by
      generalize d.getD a 0 = x at hua ⊢
      unfold wrap64; omega
    refine Ev.step (fun q => by rw [spec_l5Depths.l1]) ?_
    simp only [a3, a4, if_true, rdR rs i hlt, find_f, ha, hb, Option.bind_some, hl, b1, b2, b3, b4, rdN, e1, l1Most_eq, w64 i (by omega), Int.toNat_natCast]
    have hp : d.set b (mx (d.getD b 0) (d.getD a 0 + 1)) = updP d (pairOf cs rs[i]) := by
      unfold updP pairOf
      simp only [ha, hb, Int.toNat_natCast]
    rw [hp]
    refine ih (i + 1) (by omega) (by omega) _ (by rw [updP_len]; exact hl) (upB_upd hu _) ?_
    rw [List.drop_eq_getElem_cons hlt] at hnext
    exact hnext
theorem l5Depths_ev {cs : List S86} {rs : List S95} (h : goodB cs rs = true) : Ev (fun k => spec_l5Depths.f k cs rs) (dAll (abv cs rs) cs.length cs.length) := by
  obtain ⟨hn, hm, hin⟩ := goodB_parts h
  unfold spec_l5Depths.f
  simp only [show (0 : Int) ≤ (cs.length : Int) by omega, if_true, Int.toNat_natCast, show cs.length ≤ 35184372088832 by omega]
  have key := Ev.down cs.length (fun k r => spec_l5Depths.l0 k (dAll (abv cs rs) cs.length r) (r : Int) cs rs) (fun _ => dAll (abv cs rs) cs.length cs.length)
    (by
      refine Ev.step (fun k => by rw [spec_l5Depths.l0]) ?_
      simp only [dAll_len, Int.lt_irrefl, if_false]
      exact Ev.now _)
    (fun r hr ih => by
      refine Ev.step (fun k => by rw [spec_l5Depths.l0]) ?_
      have a3 : (r : Int) < (cs.length : Int) := by omega
      simp only [dAll_len, a3, if_true]
      refine depths_l1 cs rs hn hm hin (r : Int) _ rs.length 0 (by omega) (by omega) _ (dAll_len _ _ _) ?_ ?_
      · have h1 := upB_all (M := abv cs rs) cs.length r
        have h2 : r * (cs.length * cs.length) ≤ 10 * (10 * 10) := Nat.mul_le_mul (by omega) (Nat.mul_le_mul hn hn)
        intro j
        have := h1 j
        omega
      · rw [List.drop_zero, sRel_round h, ← dAll_succ, w64 r (by omega)]
        exact ih)
  exact key 0 (Nat.zero_le _)
def pairsR (k : Int) (n : Nat) : List S95 := (List.range n).map fun (i : Nat) => ⟨k + 2 * (i : Int), k + 2 * (i : Int) + 1⟩
theorem pairsR_length (k : Int) (n : Nat) : (pairsR k n).length = n := by simp [pairsR]
theorem markR_pairs (l : List S95) (k : Int) (hl : l.length ≤ 1048576) (h0 : 0 ≤ k) (h1 : k ≤ 8388608) : Ev (fun q => laws_markRelationS.f q l k) (k + 2 * (l.length : Int), pairsR k l.length) := by
  unfold laws_markRelationS.f
  have key := Ev.down l.length (fun q i => laws_markRelationS.l0 q (pairsR k i ++ l.drop i) (k + 2 * (i : Int)) (i : Int)) (fun _ => (k + 2 * (l.length : Int), pairsR k l.length))
    (by
      refine Ev.step (fun k => by rw [laws_markRelationS.l0]) ?_
      simp only [List.drop_length, List.append_nil, pairsR_length, Int.lt_irrefl, if_false]
      exact Ev.now _)
    (fun i hi ih => by
      refine Ev.step (fun k => by rw [laws_markRelationS.l0]) ?_
      have a2 : (pairsR k i ++ l.drop i).length = l.length := by rw [List.length_append, pairsR_length, List.length_drop]; omega
      have a3 : (i : Int) < (l.length : Int) := by omega
      have a4 : (0 : Int) ≤ (i : Int) := by omega
      have a5 : wrap64 (k + 2 * (i : Int) + 1) = k + 2 * (i : Int) + 1 := by unfold wrap64; omega
      have a6 : wrap64 (k + 2 * (i : Int) + 1 + 1) = k + 2 * ((i + 1 : Nat) : Int) := by unfold wrap64; omega
      have a7 : ∀ x : S95, (pairsR k i ++ l.drop i).set i x = pairsR k i ++ x :: l.drop (i + 1) := fun x => by
        rw [List.set_append_right _ _ (by rw [pairsR_length]; omega), pairsR_length, Nat.sub_self, List.drop_eq_getElem_cons hi, List.set_cons_zero]
      have a8 : ∀ x y : S95, (pairsR k i ++ x :: l.drop (i + 1)).set i y = pairsR k i ++ y :: l.drop (i + 1) := fun x y => by
        rw [List.set_append_right _ _ (by rw [pairsR_length]; omega), pairsR_length, Nat.sub_self, List.set_cons_zero]
      have a9 : ∀ x : S95, rd_T95 (pairsR k i ++ x :: l.drop (i + 1)) (i : Int) = x := fun x => by
        rw [rdR _ _ (by rw [List.length_append, pairsR_length, List.length_cons]; omega), List.getElem_append_right (by rw [pairsR_length]; omega)]
        simp [pairsR_length]
      have b1 : pairsR k i ++ (⟨k + 2 * (i : Int), k + 2 * (i : Int) + 1⟩ : S95) :: l.drop (i + 1) = pairsR k (i + 1) ++ l.drop (i + 1) := by simp [pairsR, List.range_succ]
      simp only [a2, a3, a4, if_true, Option.bind_some, Int.toNat_natCast, w64 i (by omega), a5, a6, a7, a8, a9, b1]
      exact ih) 0 (Nat.zero_le _)
  simpa [pairsR] using key
theorem heldR_pairs (n : Nat) (k : Int) (hl : n ≤ 1048576) (h0 : 0 ≤ k) (h1 : k ≤ 8388608) : Ev (fun q => laws_heldRelationS.f q (pairsR k n) k) (k + 2 * (n : Int)) := by
  unfold laws_heldRelationS.f
  have key := Ev.down n (fun q i => laws_heldRelationS.l0 q (pairsR k n) (k + 2 * (i : Int)) (i : Int)) (fun _ => k + 2 * (n : Int))
    (by
      refine Ev.step (fun k => by rw [laws_heldRelationS.l0]) ?_
      simp only [pairsR_length, Int.lt_irrefl, if_false]
      exact Ev.now _)
    (fun i hi ih => by
      refine Ev.step (fun k => by rw [laws_heldRelationS.l0]) ?_
      have a3 : (i : Int) < (n : Int) := by omega
      have a4 : (0 : Int) ≤ (i : Int) := by omega
      have a5 : wrap64 (k + 2 * (i : Int) + 1) = k + 2 * (i : Int) + 1 := by unfold wrap64; omega
      have a6 : wrap64 (k + 2 * (i : Int) + 1 + 1) = k + 2 * ((i + 1 : Nat) : Int) := by unfold wrap64; omega
      have a7 : rd_T95 (pairsR k n) (i : Int) = ⟨k + 2 * (i : Int), k + 2 * (i : Int) + 1⟩ := by rw [rdR _ _ (by rw [pairsR_length]; exact hi)]; simp [pairsR]
      simp only [pairsR_length, a3, a4, a5, a6, a7, if_true, w64 i (by omega)]
      exact ih) 0 (Nat.zero_le _)
  simpa using key
def answer (cs : List S86) (rs : List S95) : List S95 × Bool := if goodB cs rs && consB cs.length (lat cs rs) then (linkRels cs rs (abv cs rs) (lat cs rs), true) else ([], false)
theorem impl_eq (cs : List S86) (rs : List S95) : impl_MatrixLinks.f cs rs = some (answer cs rs) := rfl
theorem linkRels_le (cs : List S86) (rs : List S95) (M1 M2 : Nat → Nat → Bool) : (linkRels cs rs M1 M2).length ≤ rs.length :=
  Nat.le_trans (List.length_filter_le _ _) (List.length_filter_le _ _)
theorem answer_len (cs : List S86) (rs : List S95) (_ : cs.length ≤ 1048576) (hr : rs.length ≤ 1048576) : (answer cs rs).1.length ≤ 1048576 := by
  unfold answer
  split
  · exact Nat.le_trans (linkRels_le _ _ _ _) hr
  · simp
theorem linkRels_snoc (cs : List S86) (rs : List S95) (M1 M2 : Nat → Nat → Bool) (i : Nat) (hi : i < rs.length) : linkRels cs (rs.take (i + 1)) M1 M2 = if (!(redB cs.length M1 M2 (find cs rs[i].f0).toNat (find cs rs[i].f1).toNat) && deepB cs (dAll M1 cs.length cs.length) rs[i]) = true then linkRels cs (rs.take i) M1 M2 ++ [rs[i]] else linkRels cs (rs.take i) M1 M2 := by
  unfold linkRels redRels
  rw [List.take_succ_eq_append_getElem hi, List.filter_append, List.filter_append, List.filter_cons, List.filter_nil]
  cases h : redB cs.length M1 M2 (find cs rs[i].f0).toNat (find cs rs[i].f1).toNat <;> cases h2 : deepB cs (dAll M1 cs.length cs.length) rs[i] <;> simp [h2]
theorem spec_ev (cs : List S86) (rs : List S95) (_ : cs.length ≤ 1048576) (_ : rs.length ≤ 1048576) : Ev (fun k => spec_MatrixLinks.f k cs rs) (answer cs rs) := by
  unfold spec_MatrixLinks.f answer
  refine Ev.bind (l5Good_ev cs rs) ?_
  cases hg : goodB cs rs with
  | false =>
    simp only [Bool.false_eq_true, if_false, Bool.false_and]
    exact Ev.now _
  | true =>
    cases hc : consB cs.length (lat cs rs) with
    | false =>
      simp only [Bool.false_eq_true, if_false, Bool.and_false]
      exact Ev.now _
    | true =>
      obtain ⟨hn, hm, hin⟩ := goodB_parts hg
      simp only [Bool.and_self, if_true]
      have lk : Ev (fun k => spec_l5Links.f k cs rs) (linkRels cs rs (abv cs rs) (lat cs rs)) := by
        unfold spec_l5Links.f
        refine Ev.bind (l5Depths_ev hg) ?_
        have hup := dAt_up (M := abv cs rs) (n := cs.length) (r := cs.length) (i := 0) (k := 0) hn (Nat.le_refl _) (Nat.zero_le _) (Nat.zero_le _)
        rw [show dAt (abv cs rs) cs.length cs.length 0 0 = dAll (abv cs rs) cs.length cs.length from rfl] at hup
        have hdl := dAll_len (abv cs rs) cs.length cs.length
        have hsn := fun i hi => linkRels_snoc cs rs (abv cs rs) (lat cs rs) i hi
        generalize dAll (abv cs rs) cs.length cs.length = ds at hup hdl hsn
        have key := Ev.down rs.length (fun k i => spec_l5Links.l0 k ds (linkRels cs (rs.take i) (abv cs rs) (lat cs rs)) (i : Int) cs rs) (fun _ => linkRels cs rs (abv cs rs) (lat cs rs))
          (by
            refine Ev.step (fun k => by rw [spec_l5Links.l0]) ?_
            simp only [Int.lt_irrefl, if_false, List.take_length]
            exact Ev.now _)
          (fun i hi ih => by
            have a3 : (i : Int) < (rs.length : Int) := by omega
            have a4 : (0 : Int) ≤ (i : Int) := by omega
            have a5 : (linkRels cs (rs.take i) (abv cs rs) (lat cs rs)).length < 8796093022208 := by have := linkRels_le cs (rs.take i) (abv cs rs) (lat cs rs); rw [List.length_take] at this; omega
            obtain ⟨a, ha, hal⟩ := find_nat cs rs[i].f0 (hin _ (List.getElem_mem hi)).1
            obtain ⟨b, hb, hbl⟩ := find_nat cs rs[i].f1 (hin _ (List.getElem_mem hi)).2
            have b1 : (0 : Int) ≤ (a : Int) := by omega
            have b2 : (a : Int) < (cs.length : Int) := by omega
            have b3 : (0 : Int) ≤ (b : Int) := by omega
            have b4 : (b : Int) < (cs.length : Int) := by omega
            have hua := hup a
            have e1 : wrap64 (ds.getD a 0 + 1) = ds.getD a 0 + 1 := by
              generalize ds.getD a 0 = x at hua ⊢
              unfold wrap64; omega
            have hs := hsn i hi
            have hdp : deepB cs ds rs[i] = (ds.getD b 0 == ds.getD a 0 + 1) := by unfold deepB; rw [ha, hb, Int.toNat_natCast, Int.toNat_natCast]
            have hrd := l5Redundant_ev cs rs hn hm hin hc rs[i] (List.getElem_mem hi)
            rw [hdp] at hs
            refine Ev.step (fun k => by rw [spec_l5Links.l0]) ?_
            simp only [a3, a4, if_true, rdR rs i hi, find_f, ha, hb, Option.bind_some, hdl, b1, b2, b3, b4, rdN, e1, w64 i (by omega)]
            by_cases hd : ds.getD b 0 = ds.getD a 0 + 1
            · simp only [hd, if_true]
              refine Ev.bind hrd ?_
              rw [show (ds.getD b 0 == ds.getD a 0 + 1) = true from by rw [hd]; exact beq_self_eq_true _, Bool.and_true] at hs
              cases hb2 : redB cs.length (abv cs rs) (lat cs rs) (find cs rs[i].f0).toNat (find cs rs[i].f1).toNat with
              | true =>
                rw [hb2, if_neg (by decide)] at hs
                simp only [if_true]
                rw [← hs]
                exact ih
              | false =>
                rw [hb2, if_pos (by rfl)] at hs
                simp only [Bool.false_eq_true, if_false, a5, if_true]
                rw [← hs]
                exact ih
            · simp only [hd, if_false]
              rw [show (ds.getD b 0 == ds.getD a 0 + 1) = false from beq_eq_false_iff_ne.2 hd, Bool.and_false, if_neg (by decide)] at hs
              rw [← hs]
              exact ih)
        exact key 0 (Nat.zero_le _)
      exact Ev.bind lk (Ev.now _)
theorem FnExactMatrixLinks : ∀ (l0_0 : List (S127)) (l0_1 : List (S129)), ((l0_0.length ≤ 9223372036854775807) ∧ ∀ y4 ∈ l0_0, ((Lit.int .i64 y4.f0).wf = true) ∧ ((Lit.int .i64 y4.f1).wf = true)) → ((l0_1.length ≤ 9223372036854775807) ∧ ∀ y4 ∈ l0_1, ((Lit.int .i64 y4.f0).wf = true) ∧ ((Lit.int .i64 y4.f1).wf = true)) → ∃ k, laws_FnExactMatrixLinks.f k l0_0 l0_1 = some true := by
  intro l0 l1  g0 g1 
  obtain ⟨t, ht, hc⟩ := szRecord_eq l0 l1 g0.1 g1.1
  refine Ev.rounds ?_
  unfold laws_FnExactMatrixLinks.f
  rw [ht]
  simp only [Option.bind_some]
  rcases hc with hc | ⟨h0, _, hl0, hl1⟩
  · simp only [hc, if_true]
    exact Ev.now _
  · have hn : ¬ t < 0 := by omega
    have hC : (l0.map cvC).length ≤ 1048576 := by rw [List.length_map]; exact hl0
    have hR : (l1.map cvR).length ≤ 1048576 := by rw [List.length_map]; exact hl1
    have himpl : impl_MatrixLinks.f (l0.map cvC) (l1.map cvR)  = some (answer (l0.map cvC) (l1.map cvR)) := impl_eq _ _ 
    have hAl := answer_len (l0.map cvC) (l1.map cvR)  hC hR
    simp only [hn, if_false]
    refine Ev.bind (toRecord_ev l0 l1 hl0 hl1) ?_
    refine Ev.bind (spec_ev _ _  hC hR) ?_
    refine Ev.bind (toRecord_ev l0 l1 hl0 hl1) ?_
    simp only [himpl, Option.bind_some]
    generalize answer (l0.map cvC) (l1.map cvR) = A at hAl himpl ⊢
    refine Ev.bind (eqRelationS_ev A.1 hAl) ?_
    simp only [bne_self_eq_false, if_true]
    refine Ev.step (fun k => by rw [laws_FnExactMatrixLinks.j0]) ?_
    simp only [Bool.false_eq_true, if_false]
    refine Ev.bind (toRecord_ev l0 l1 hl0 hl1) ?_
    refine Ev.bind (eqRecord_ev _ _ hC hR) ?_
    simp only [if_true]
    obtain ⟨m, x, y, hm, _, hmk⟩ := markRecord_ev (l0.map cvC) (l1.map cvR) 1 hC hR (by omega) (by omega)
    refine Ev.bind hmk ?_
    have hm2 : ¬ m < 0 := by omega
    simp only [hm2, if_false]
    refine Ev.bind (eqRelationS_ev A.1 hAl) ?_
    simp only [if_true, bne_self_eq_false]
    refine Ev.step (fun k => by rw [laws_FnExactMatrixLinks.j1]) ?_
    simp only [Bool.false_eq_true, if_false]
    refine Ev.bind (markR_pairs A.1 1 hAl (by omega) (by omega)) ?_
    refine Ev.bind (heldR_pairs A.1.length 1 hAl (by omega) (by omega)) ?_
    have h2 : ¬ (1 + 2 * (A.1.length : Int)) < 0 := by omega
    simp only [h2, if_false, if_true]
    refine Ev.bind (toRecord_ev l0 l1 hl0 hl1) ?_
    simp only [himpl, Option.bind_some]
    refine Ev.bind (eqRelationS_ev A.1 hAl) ?_
    simp only [bne_self_eq_false, if_true]
    refine Ev.step (fun k => by rw [laws_FnExactMatrixLinks.j2]) ?_
    simp only [Bool.false_eq_true, if_false]
    refine Ev.bind (heldR_pairs A.1.length 1 hAl (by omega) (by omega)) ?_
    simp only [h2, if_false, if_true]
    exact Ev.now _
end Go.Proofs.Ytdiejmhphhdcfaa.Pure
