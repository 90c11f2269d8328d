/- The law FnExactShortestChain answers true at every record and every two numbers: ShortestChain of the program and of the reference agree. No conditions. -/
import Derived.Test.YtdiejmhphhdcfaaQ0
import Derived.Test.YtdiejmhphhdcfaaQF61
import Derived.Test.YtdiejmhphhdcfaaQB0
import Derived.Test.YtdiejmhphhdcfaaQB1
import Derived.Test.YtdiejmhphhdcfaaQM0
import Derived.Test.YtdiejmhphhdcfaaQF73
import Derived.Test.YtdiejmhphhdcfaaQF74
import Derived.Test.YtdiejmhphhdcfaaQF67
import Derived.Test.YtdiejmhphhdcfaaQF127
import Derived.Test.YtdiejmhphhdcfaaQF128
import Derived.Test.YtdiejmhphhdcfaaQF78
import Derived.Test.YtdiejmhphhdcfaaQF130
import Derived.Test.YtdiejmhphhdcfaaQF133
import Derived.Test.YtdiejmhphhdcfaaQF157
import Derived.Test.YtdiejmhphhdcfaaQF129
import Derived.Test.YtdiejmhphhdcfaaQF135
import Derived.Test.YtdiejmhphhdcfaaQF131
import Derived.Test.YtdiejmhphhdcfaaQF68
import Derived.Test.YtdiejmhphhdcfaaQF18
import Derived.Test.YtdiejmhphhdcfaaQF63
import Derived.Test.YtdiejmhphhdcfaaQF19
import Derived.Test.YtdiejmhphhdcfaaQF22
import Derived.Test.YtdiejmhphhdcfaaQF23
import Derived.Test.YtdiejmhphhdcfaaQF3
import Derived.Test.YtdiejmhphhdcfaaQF16
namespace Go.Proofs.Ytdiejmhphhdcfaa.Pure
open Go.RowKit Go.Proofs.Ytdiejmhphhdcfaa.Q Go.Proofs.YtdiejmhphhdcfaaW.PrintWords
/-- Going down from the end of a loop. -/
theorem Ev.down {α : Type} (n : Nat) (F : Nat → Nat → Option α) (R : Nat → α) (hend : Ev (fun k => F k n) (R n)) (hstep : ∀ i, i < n → Ev (fun k => F k (i + 1)) (R (i + 1)) → Ev (fun k => F k i) (R i)) : ∀ i, i ≤ n → Ev (fun k => F k i) (R i) := by
  have key : ∀ d i, n - i = d → i ≤ n → Ev (fun k => F k i) (R i) := by
    intro d
    induction d with
    | zero =>
      intro i hd hi
      obtain rfl : i = n := by omega
      exact hend
    | succ d ih => intro i hd hi; exact hstep i (by omega) (ih (i + 1) (by omega) (by omega))
  intro i hi
  exact key (n - i) i rfl hi
theorem Ev.some {α : Type} (r : α) : Ev (fun _ => Option.some r) r := Ev.now r
theorem w64 (i : Nat) (h : i ≤ 4611686018427387904) : wrap64 ((i : Int) + 1) = ((i + 1 : Nat) : Int) := by unfold wrap64; omega
theorem w64p (i : Nat) (h : i ≤ 4611686018427387904) : wrap64 (((i + 1 : Nat) : Int) - 1) = (i : Int) := by unfold wrap64; omega
theorem rdC (l : List S86) (i : Nat) (h : i < l.length) : rd_T86 l (i : Int) = l[i] := by simp [rd_T86, List.getD_eq_getElem?_getD, List.getElem?_eq_getElem h]
theorem rdR (l : List S95) (i : Nat) (h : i < l.length) : rd_T95 l (i : Int) = l[i] := by simp [rd_T95, List.getD_eq_getElem?_getD, List.getElem?_eq_getElem h]
theorem rdCl (l : List S127) (i : Nat) (h : i < l.length) : rd_T127 l (i : Int) = l[i] := by simp [rd_T127, List.getD_eq_getElem?_getD, List.getElem?_eq_getElem h]
theorem rdRl (l : List S129) (i : Nat) (h : i < l.length) : rd_T129 l (i : Int) = l[i] := by simp [rd_T129, List.getD_eq_getElem?_getD, List.getElem?_eq_getElem h]
theorem getDR (rs : List S95) (i : Nat) (h : i < rs.length) : rs.getD i z95 = rs[i] := by simp [List.getD_eq_getElem?_getD, List.getElem?_eq_getElem h]
theorem getDC (cs : List S86) (i : Nat) (h : i < cs.length) : cs.getD i z86 = cs[i] := by simp [List.getD_eq_getElem?_getD, List.getElem?_eq_getElem h]
def cvC (x : S127) : S86 := ⟨x.f0, x.f1⟩
def cvR (x : S129) : S95 := ⟨x.f0, x.f1⟩
theorem acc_step {α β : Type} (f : α → β) (z : β) (l : List α) (i : Nat) (hi : i < l.length) : ((l.take i).map f ++ List.replicate (l.length - i) z).set i (f l[i]) = (l.take (i + 1)).map f ++ List.replicate (l.length - (i + 1)) z := by
  have h1 : ((l.take i).map f).length = i := by rw [List.length_map, List.length_take]; omega
  rw [List.set_append_right _ _ (by omega), h1, Nat.sub_self]
  obtain ⟨m, hm⟩ : ∃ m, l.length - i = m + 1 := ⟨l.length - i - 1, by omega⟩
  rw [hm, List.replicate_succ, List.set_cons_zero, List.take_succ_eq_append_getElem hi, List.map_append, show l.length - (i + 1) = m by omega]
  simp
theorem toContextS_ev (l : List S127) (hl : l.length ≤ 1048576) : Ev (fun k => laws_toContextS.f k l) (l.map cvC) := by
  unfold laws_toContextS.f
  have h1 : (0 : Int) ≤ (l.length : Int) := by omega
  have h2 : l.length ≤ 17592186044416 := by omega
  simp only [h1, if_true, Int.toNat_natCast, h2]
  have key := Ev.down l.length (fun k i => laws_toContextS.l0 k l ((l.take i).map cvC ++ List.replicate (l.length - i) z86) (i : Int)) (fun _ => l.map cvC)
    (by
      refine Ev.step (fun k => by rw [laws_toContextS.l0]) ?_
      simp only [Int.lt_irrefl, if_false, List.take_length, Nat.sub_self, List.replicate_zero, List.append_nil]
      exact Ev.now _)
    (fun i hi ih => by
      refine Ev.step (fun k => by rw [laws_toContextS.l0]) ?_
      have h1 : (i : Int) < (l.length : Int) := by omega
      have h2 : (0 : Int) ≤ (i : Int) := by omega
      have h3 : (i : Int) < ((((l.take i).map cvC ++ List.replicate (l.length - i) z86).length : Nat) : Int) := by
        rw [List.length_append, List.length_map, List.length_take, List.length_replicate]
        omega
      simp only [h1, h2, h3, if_true, rdCl l i hi, laws_toContext.f, Option.bind_some, w64 i (by omega), Int.toNat_natCast]
      have e := acc_step cvC z86 l i hi
      unfold cvC at e ih ⊢
      rw [e]
      exact ih)
  have h0 := key 0 (Nat.zero_le _)
  simpa using h0
theorem toRelationS_ev (l : List S129) (hl : l.length ≤ 1048576) : Ev (fun k => laws_toRelationS.f k l) (l.map cvR) := by
  unfold laws_toRelationS.f
  have h1 : (0 : Int) ≤ (l.length : Int) := by omega
  have h2 : l.length ≤ 17592186044416 := by omega
  simp only [h1, if_true, Int.toNat_natCast, h2]
  have key := Ev.down l.length (fun k i => laws_toRelationS.l0 k l ((l.take i).map cvR ++ List.replicate (l.length - i) z95) (i : Int)) (fun _ => l.map cvR)
    (by
      refine Ev.step (fun k => by rw [laws_toRelationS.l0]) ?_
      simp only [Int.lt_irrefl, if_false, List.take_length, Nat.sub_self, List.replicate_zero, List.append_nil]
      exact Ev.now _)
    (fun i hi ih => by
      refine Ev.step (fun k => by rw [laws_toRelationS.l0]) ?_
      have h1 : (i : Int) < (l.length : Int) := by omega
      have h2 : (0 : Int) ≤ (i : Int) := by omega
      have h3 : (i : Int) < ((((l.take i).map cvR ++ List.replicate (l.length - i) z95).length : Nat) : Int) := by
        rw [List.length_append, List.length_map, List.length_take, List.length_replicate]
        omega
      simp only [h1, h2, h3, if_true, rdRl l i hi, laws_toRelation.f, Option.bind_some, w64 i (by omega), Int.toNat_natCast]
      have e := acc_step cvR z95 l i hi
      unfold cvR at e ih ⊢
      rw [e]
      exact ih)
  have h0 := key 0 (Nat.zero_le _)
  simpa using h0
theorem toRecord_ev (l0 : List S127) (l1 : List S129) (h0 : l0.length ≤ 1048576) (h1 : l1.length ≤ 1048576) : Ev (fun k => laws_toRecord.f k l0 l1) (l0.map cvC, l1.map cvR) := by
  unfold laws_toRecord.f
  refine Ev.bind (toContextS_ev l0 h0) ?_
  refine Ev.bind (toRelationS_ev l1 h1) ?_
  exact Ev.now _
theorem eqContextS_ev (a : List S86) (ha : a.length ≤ 1048576) : Ev (fun k => laws_eqContextS.f k a a) true := by
  unfold laws_eqContextS.f
  simp only [if_true]
  have key := Ev.down a.length (fun k i => laws_eqContextS.l0 k a a (i : Int)) (fun _ => true)
    (by
      refine Ev.step (fun k => by rw [laws_eqContextS.l0]) ?_
      simp only [Int.lt_irrefl, if_false]
      exact Ev.now _)
    (fun i hi ih => by
      refine Ev.step (fun k => by rw [laws_eqContextS.l0]) ?_
      have h1 : (i : Int) < (a.length : Int) := by omega
      have h2 : (0 : Int) ≤ (i : Int) := by omega
      simp only [h1, h2, if_true, laws_eqContext.f, Option.bind_some, w64 i (by omega)]
      exact ih)
  exact key 0 (Nat.zero_le _)
theorem eqRelationS_ev (a : List S95) (ha : a.length ≤ 1048576) : Ev (fun k => laws_eqRelationS.f k a a) true := by
  unfold laws_eqRelationS.f
  simp only [if_true]
  have key := Ev.down a.length (fun k i => laws_eqRelationS.l0 k a a (i : Int)) (fun _ => true)
    (by
      refine Ev.step (fun k => by rw [laws_eqRelationS.l0]) ?_
      simp only [Int.lt_irrefl, if_false]
      exact Ev.now _)
    (fun i hi ih => by
      refine Ev.step (fun k => by rw [laws_eqRelationS.l0]) ?_
      have h1 : (i : Int) < (a.length : Int) := by omega
      have h2 : (0 : Int) ≤ (i : Int) := by omega
      simp only [h1, h2, if_true, laws_eqRelation.f, Option.bind_some, w64 i (by omega)]
      exact ih)
  exact key 0 (Nat.zero_le _)
theorem eqRecord_ev (a : List S86) (b : List S95) (ha : a.length ≤ 1048576) (hb : b.length ≤ 1048576) : Ev (fun k => laws_eqRecord.f k a b a b) true := by
  unfold laws_eqRecord.f
  refine Ev.bind (eqContextS_ev a ha) ?_
  simp only [if_true]
  refine Ev.bind (eqRelationS_ev b hb) ?_
  simp only [if_true]
  exact Ev.now _
/-- What the law's first test lets by: at most 2^20 contexts and relations. -/
theorem szRecord_eq (l0 : List S127) (l1 : List S129) (g0 : l0.length ≤ 9223372036854775807) (g1 : l1.length ≤ 9223372036854775807) :
    ∃ t, laws_szRecord.f l0 l1 1048576 = some t ∧ (t < 0 ∨ (0 ≤ t ∧ t ≤ 1048576 ∧ l0.length ≤ 1048576 ∧ l1.length ≤ 1048576)) := by
  unfold laws_szRecord.f laws_szContextS.f laws_szRelationS.f
  have e0 : wrap64 (1048576 - (l0.length : Int)) = 1048576 - (l0.length : Int) := by unfold wrap64; omega
  rw [e0]
  by_cases h0 : (1048576 - (l0.length : Int)) < 0
  · exact ⟨-1, by simp [h0], .inl (by omega)⟩
  · have e1 : wrap64 (1048576 - (l0.length : Int) - (l1.length : Int)) = 1048576 - (l0.length : Int) - (l1.length : Int) := by unfold wrap64; omega
    simp only [h0, if_false, Option.bind_some, e1]
    by_cases h1 : (1048576 - (l0.length : Int) - (l1.length : Int)) < 0
    · exact ⟨-1, by simp [h1], .inl (by omega)⟩
    · exact ⟨1048576 - (l0.length : Int) - (l1.length : Int), by simp [h1], .inr (by omega)⟩
theorem markC_l0 : ∀ (d : Nat) (st : List S86) (k : Int) (i : Nat), st.length - i = d → i ≤ st.length → st.length ≤ 1048576 → 0 ≤ k → k + 2 * d ≤ 4611686018427387904 → ∃ st', Ev (fun q => laws_markContextS.l0 q st k (i : Int)) (k + 2 * d, st') := by
  intro d
  induction d with
  | zero =>
    intro st k i hd hi hl h0 h1
    obtain rfl : i = st.length := by omega
    refine ⟨st, Ev.step (fun q => by rw [laws_markContextS.l0]) ?_⟩
    simp only [Int.lt_irrefl, if_false]
    rw [show k + 2 * ((0 : Nat) : Int) = k by omega]
    exact Ev.now _
  | succ d ih =>
    intro st k i hd hi hl h0 h1
    have a1 : wrap64 (k + 1) = k + 1 := by unfold wrap64; omega
    have a2 : wrap64 (k + 1 + 1) = k + 2 := by unfold wrap64; omega
    have a3 : (i : Int) < (st.length : Int) := by omega
    have a4 : (0 : Int) ≤ (i : Int) := by omega
    obtain ⟨st', h⟩ := ih (((st.set i ⟨k, (rd_T86 st (i : Int)).f1⟩).set i ⟨(rd_T86 (st.set i ⟨k, (rd_T86 st (i : Int)).f1⟩) (i : Int)).f0, k + 1⟩)) (k + 2) (i + 1) (by simp only [List.length_set]; omega) (by simp only [List.length_set]; omega) (by simp only [List.length_set]; omega) (by omega) (by omega)
    refine ⟨st', Ev.step (fun q => by rw [laws_markContextS.l0]) ?_⟩
    simp only [a1, a2, a3, a4, if_true, Option.bind_some, Int.toNat_natCast, w64 i (by omega)]
    rw [show k + 2 * ((d + 1 : Nat) : Int) = k + 2 + 2 * (d : Int) by omega]
    exact h
theorem markC_ev (st : List S86) (k : Int) (hl : st.length ≤ 1048576) (h0 : 0 ≤ k) (h1 : k ≤ 1099511627776) : ∃ m st', 0 ≤ m ∧ m ≤ k + 2097152 ∧ Ev (fun q => laws_markContextS.f q st k) (m, st') := by
  obtain ⟨st', h⟩ := markC_l0 st.length st k 0 (by omega) (by omega) hl h0 (by omega)
  exact ⟨k + 2 * (st.length : Int), st', by omega, by omega, h⟩
theorem markR_l0 : ∀ (d : Nat) (st : List S95) (k : Int) (i : Nat), st.length - i = d → i ≤ st.length → st.length ≤ 1048576 → 0 ≤ k → k + 2 * d ≤ 4611686018427387904 → ∃ st', Ev (fun q => laws_markRelationS.l0 q st k (i : Int)) (k + 2 * d, st') := by
  intro d
  induction d with
  | zero =>
    intro st k i hd hi hl h0 h1
    obtain rfl : i = st.length := by omega
    refine ⟨st, Ev.step (fun q => by rw [laws_markRelationS.l0]) ?_⟩
    simp only [Int.lt_irrefl, if_false]
    rw [show k + 2 * ((0 : Nat) : Int) = k by omega]
    exact Ev.now _
  | succ d ih =>
    intro st k i hd hi hl h0 h1
    have a1 : wrap64 (k + 1) = k + 1 := by unfold wrap64; omega
    have a2 : wrap64 (k + 1 + 1) = k + 2 := by unfold wrap64; omega
    have a3 : (i : Int) < (st.length : Int) := by omega
    have a4 : (0 : Int) ≤ (i : Int) := by omega
    obtain ⟨st', h⟩ := ih (((st.set i ⟨k, (rd_T95 st (i : Int)).f1⟩).set i ⟨(rd_T95 (st.set i ⟨k, (rd_T95 st (i : Int)).f1⟩) (i : Int)).f0, k + 1⟩)) (k + 2) (i + 1) (by simp only [List.length_set]; omega) (by simp only [List.length_set]; omega) (by simp only [List.length_set]; omega) (by omega) (by omega)
    refine ⟨st', Ev.step (fun q => by rw [laws_markRelationS.l0]) ?_⟩
    simp only [a1, a2, a3, a4, if_true, Option.bind_some, Int.toNat_natCast, w64 i (by omega)]
    rw [show k + 2 * ((d + 1 : Nat) : Int) = k + 2 + 2 * (d : Int) by omega]
    exact h
theorem markR_ev (st : List S95) (k : Int) (hl : st.length ≤ 1048576) (h0 : 0 ≤ k) (h1 : k ≤ 1099511627776) : ∃ m st', 0 ≤ m ∧ m ≤ k + 2097152 ∧ Ev (fun q => laws_markRelationS.f q st k) (m, st') := by
  obtain ⟨st', h⟩ := markR_l0 st.length st k 0 (by omega) (by omega) hl h0 (by omega)
  exact ⟨k + 2 * (st.length : Int), st', by omega, by omega, h⟩
/-- Marking a record: what it answers is not below 0. -/
theorem markRecord_ev (cs : List S86) (rs : List S95) (k : Int) (hc : cs.length ≤ 1048576) (hr : rs.length ≤ 1048576) (h0 : 0 ≤ k) (h1 : k ≤ 1048576) : ∃ m x y, 0 ≤ m ∧ m ≤ 8388608 ∧ Ev (fun q => laws_markRecord.f q cs rs k) (m, x, y) := by
  obtain ⟨m, x, a, b, hm⟩ := markC_ev cs k hc h0 (by omega)
  obtain ⟨n, y, c, d, hn⟩ := markR_ev rs m hr a (by omega)
  refine ⟨n, x, y, c, by omega, ?_⟩
  unfold laws_markRecord.f
  exact Ev.bind hm (Ev.bind hn (Ev.now _))
/-- A matrix as a list of sets, each as bits. -/
def masks (n : Nat) (M : Nat → Nat → Bool) : List Int := (List.range n).map fun i => ((mask n (M i) : Nat) : Int)
theorem masks_length (n : Nat) (M : Nat → Nat → Bool) : (masks n M).length = n := by simp [masks]
theorem masks_ext {n : Nat} {M M' : Nat → Nat → Bool} (h : ∀ a b, a < n → b < n → M a b = M' a b) : masks n M = masks n M' := by
  unfold masks
  apply List.map_congr_left
  intro a ha
  rw [mask_ext (fun b hb => h a b (List.mem_range.1 ha) hb)]
theorem masks_rd {n : Nat} {M : Nat → Nat → Bool} {a : Nat} (ha : a < n) : rd (masks n M) (a : Int) = ((mask n (M a) : Nat) : Int) := by
  simp [rd, masks, List.getD_eq_getElem?_getD, ha]
theorem masks_set {n : Nat} {M : Nat → Nat → Bool} {a : Nat} (p : Nat → Bool) : (masks n M).set a ((mask n p : Nat) : Int) = masks n (fun x => if x = a then p else M x) := by
  apply List.ext_getElem (by simp [masks])
  intro i h1 h2
  simp only [masks, List.length_map, List.length_range, List.length_set] at h1 h2
  simp only [masks, List.getElem_set, List.getElem_map, List.getElem_range]
  by_cases e : a = i
  · subst e; simp
  · have e2 : ¬ i = a := fun h => e h.symm
    simp [e, e2]
theorem masks_none (n : Nat) : masks n (fun _ _ => false) = List.replicate n 0 := by
  apply List.ext_getElem (by simp [masks])
  intro i h1 h2
  simp [masks, mask_zero]
theorem wrap_i64_small (n : Int) (h0 : 0 ≤ n) (h1 : n < 2 ^ 62) : IntKind.i64.wrap n = n := by
  have h2 : n < 4611686018427387904 := h1
  rw [IntKind.wrap_i64]; omega
theorem mask_lt62 (n : Nat) (p : Nat → Bool) (hn : n ≤ 62) : mask n p < 2 ^ 62 := Nat.lt_of_lt_of_le (mask_lt n p) (Nat.pow_le_pow_right (by decide) hn)
theorem or_masks (n : Nat) (p q : Nat → Bool) (hn : n ≤ 62) : Go.bits .or .i64 ((mask n p : Nat) : Int) ((mask n q : Nat) : Int) = ((mask n (fun i => p i || q i) : Nat) : Int) := by
  rw [(bits_nat .i64 62 (by decide) wrap_i64_small _ _ (mask_lt62 n p hn) (mask_lt62 n q hn)).2, mask_or]
theorem u64_small (i : Nat) (hi : i < 64) : IntKind.u64.wrap (i : Int) = (i : Int) := by
  simp only [IntKind.wrap, IntKind.bits, IntKind.signed]
  simp
  omega
theorem shl_mask (n b : Nat) (hb : b < n) (hn : n ≤ 62) : shl .i64 1 (b : Int) = ((mask n (fun i => decide (i = b)) : Nat) : Int) := by
  rw [← mask_one hb]
  unfold shl
  have h1 : min (b : Int).toNat IntKind.i64.bits = b := by
    have : IntKind.i64.bits = 64 := rfl
    rw [this, Int.toNat_natCast]; omega
  rw [h1, Int.one_mul, Nat.one_shiftLeft]
  have h2 : (2 : Int) ^ b = ((2 ^ b : Nat) : Int) := by simp
  rw [h2]
  apply wrap_i64_small _ (Int.natCast_nonneg _)
  have h3 : 2 ^ b < 2 ^ 62 := Nat.pow_lt_pow_right (by decide) (by omega)
  exact_mod_cast h3
theorem bit_mask (n i : Nat) (p : Nat → Bool) (hn : n ≤ 62) (hi : i < 64) : Go.bits .and .i64 (shr .i64 ((mask n p : Nat) : Int) (i : Int)) 1 = if decide (i < n) && p i then 1 else 0 := by
  unfold shr
  have h1 : min (i : Int).toNat IntKind.i64.bits = i := by
    have : IntKind.i64.bits = 64 := rfl
    rw [this, Int.toNat_natCast]; omega
  rw [h1]
  have h2 : (2 : Int) ^ i = ((2 ^ i : Nat) : Int) := by simp
  rw [h2, ← Int.natCast_ediv]
  have h3 : mask n p / 2 ^ i < 2 ^ 62 := Nat.lt_of_le_of_lt (Nat.div_le_self _ _) (mask_lt62 n p hn)
  have h4 := (bits_nat .i64 62 (by decide) wrap_i64_small (mask n p / 2 ^ i) 1 h3 (by decide)).1
  rw [show ((1 : Nat) : Int) = 1 from rfl] at h4
  rw [h4, Nat.and_one_is_mod]
  have h5 := mask_bit p n i
  rw [Nat.testBit_eq_decide_div_mod_eq] at h5
  rw [← h5]
  by_cases h6 : mask n p / 2 ^ i % 2 = 1
  · simp [h6]
  · have : mask n p / 2 ^ i % 2 = 0 := by omega
    simp [this]
theorem l4Bit_mask (n i : Nat) (p : Nat → Bool) (hn : n ≤ 62) (hi : i < 64) : spec_l4Bit.f ((mask n p : Nat) : Int) (i : Int) = some (decide (i < n) && p i) := by
  unfold spec_l4Bit.f
  rw [u64_small i hi, if_pos (by omega), bit_mask n i p hn hi]
  cases (decide (i < n) && p i) <;> rfl
theorem l4Bit_masks (n i k : Nat) (M : Nat → Nat → Bool) (hn : n ≤ 62) (hi : i < n) (hk : k < n) : spec_l4Bit.f (rd (masks n M) (i : Int)) (k : Int) = some (M i k) := by
  rw [masks_rd hi, l4Bit_mask n k (M i) hn (by omega)]
  simp [hk]
theorem later_l1 (A : Nat → Nat → Bool) (n : Nat) (hn : n ≤ 10) : ∀ (d j : Nat), n - j = d → j ≤ n → Ev (fun k => spec_l4Later.l1 k (masks n (rch A j)) (j : Int)) (masks n (rch A n)) := by
  intro d
  induction d with
  | zero =>
    intro j hd hj
    obtain rfl : j = n := by omega
    refine Ev.step (fun q => by rw [spec_l4Later.l1]) ?_
    simp only [masks_length, Int.lt_irrefl, if_false]
    exact Ev.now _
  | succ d ih =>
    intro j hd hj
    have h1 : (j : Int) < (n : Int) := by omega
    refine Ev.step (fun q => by rw [spec_l4Later.l1]) ?_
    simp only [masks_length, h1, if_true]
    have inner : ∀ (e i : Nat), n - i = e → i ≤ n → Ev (fun k => spec_l4Later.l2 k (masks n (fun x => if x < i then rch A (j + 1) x else rch A j x)) (j : Int) (i : Int)) (masks n (rch A n)) := by
      intro e
      induction e with
      | zero =>
        intro i he hi
        obtain rfl : i = n := by omega
        refine Ev.step (fun q => by rw [spec_l4Later.l2]) ?_
        simp only [masks_length, Int.lt_irrefl, if_false, w64 j (by omega)]
        rw [masks_ext (M' := rch A (j + 1)) (fun a b ha _ => by simp [ha])]
        exact ih (j + 1) (by omega) (by omega)
      | succ e ih2 =>
        intro i he hi
        have hil : i < n := by omega
        have h2 : (i : Int) < (n : Int) := by omega
        have h3 : (0 : Int) ≤ (i : Int) := by omega
        have h4 : (0 : Int) ≤ (j : Int) := by omega
        refine Ev.step (fun q => by rw [spec_l4Later.l2]) ?_
        simp only [masks_length, h1, h2, h3, h4, if_true, u64_small j (by omega), masks_rd hil, masks_rd (show j < n by omega), w64 i (by omega), Int.toNat_natCast]
        rw [if_neg (show ¬ i < i by omega), bit_mask n j _ (by omega) (by omega)]
        have hjn : decide (j < n) = true := decide_eq_true (by omega)
        rw [hjn, Bool.true_and]
        have next := ih2 (i + 1) (by omega) (by omega)
        by_cases hb : rch A j i j = true
        · simp only [hb, if_true, or_masks n _ _ (show n ≤ 62 by omega), masks_set]
          rw [masks_ext (M' := fun x => if x < i + 1 then rch A (j + 1) x else rch A j x) (fun a b _ _ => ?_)]
          · exact next
          · by_cases e1 : a = i
            · subst e1
              have e2 : (if j < a then rch A (j + 1) j else rch A j j) b = rch A j j b := by
                split
                · exact rch_row A j b
                · rfl
              simp only [eq_self, if_true]
              rw [e2, if_pos (show a < a + 1 by omega)]
              simp only [rch, hb, Bool.true_and]
            · by_cases e2 : a < i
              · simp [e1, e2, show a < i + 1 by omega]
              · simp [e1, e2, show ¬ a < i + 1 by omega]
        · have hb' : rch A j i j = false := by simpa using hb
          simp only [hb', Bool.false_eq_true, if_false, show ¬ (0 : Int) = 1 by decide]
          rw [masks_ext (M' := fun x => if x < i + 1 then rch A (j + 1) x else rch A j x) (fun a b _ _ => ?_)]
          · exact next
          · by_cases e1 : a = i
            · subst e1
              simp [rch, hb']
            · by_cases e2 : a < i
              · simp [e2, show a < i + 1 by omega]
              · simp [e2, show ¬ a < i + 1 by omega]
    have h0 := inner n 0 (by omega) (by omega)
    simpa using h0
theorem l4Later_ev (cs : List S86) (rs : List S95) (hn : cs.length ≤ 10) (hm : rs.length ≤ 24) (hin : relsIn cs rs) : Ev (fun k => spec_l4Later.f k cs rs) (masks cs.length (lat cs rs)) := by
  unfold spec_l4Later.f
  simp only [show (0 : Int) ≤ (cs.length : Int) by omega, if_true, Int.toNat_natCast, show cs.length ≤ 35184372088832 by omega]
  have key := Ev.down rs.length (fun k i => spec_l4Later.l0 k (masks cs.length (abv cs (rs.take i))) (i : Int) cs rs) (fun _ => masks cs.length (lat cs rs))
    (by
      refine Ev.step (fun k => by rw [spec_l4Later.l0]) ?_
      simp only [Int.lt_irrefl, if_false, List.take_length]
      exact later_l1 (abv cs rs) cs.length hn cs.length 0 (by omega) (by omega))
    (fun i hi ih => by
      refine Ev.step (fun k => by rw [spec_l4Later.l0]) ?_
      have h1 : (i : Int) < (rs.length : Int) := by omega
      have h2 : (0 : Int) ≤ (i : Int) := by omega
      obtain ⟨a, ha, hal⟩ := find_nat cs rs[i].f0 (hin _ (List.getElem_mem hi)).1
      obtain ⟨b, hb, hbl⟩ := find_nat cs rs[i].f1 (hin _ (List.getElem_mem hi)).2
      have h3 : (0 : Int) ≤ (a : Int) := by omega
      have h4 : (a : Int) < (cs.length : Int) := by omega
      have h5 : (0 : Int) ≤ (b : Int) := by omega
      simp only [h1, h2, if_true, rdR rs i hi, find_f, ha, hb, Option.bind_some, h3, masks_length, h4, u64_small b (by omega), h5, w64 i (by omega), Int.toNat_natCast, masks_rd hal, shl_mask cs.length b hbl (by omega), or_masks cs.length _ _ (show cs.length ≤ 62 by omega), masks_set]
      have hs := abv_snoc cs (rs.take i) rs[i] a b ha hb
      rw [← List.take_succ_eq_append_getElem hi] at hs
      rw [masks_ext (M' := abv cs (rs.take (i + 1))) (fun x y _ _ => ?_)]
      · exact ih
      · rw [← hs]
        by_cases e1 : x = a
        · subst e1
          by_cases e2 : y = b
          · subst e2; simp
          · simp [e2]
        · simp [e1])
  have h0 := key 0 (Nat.zero_le _)
  have e0 : abv cs (rs.take 0) = fun _ _ => false := by
    funext a b; simp [abv]
  simp only [e0, masks_none] at h0
  exact h0
theorem find_at (cs : List S86) (a : Int) (i : Nat) (h : find cs a = (i : Int)) : i < cs.length ∧ (cs.getD i z86).f0 = a := by
  obtain ⟨k, hk, e, hp, _⟩ := idxI_found (fun c : S86 => c.f0 == a) z86 cs (by unfold find at h; omega)
  have : i = k := by unfold find at h; omega
  subst this
  exact ⟨hk, by simpa using hp⟩
theorem find_inj (cs : List S86) (a b : Int) (i : Nat) (h : find cs a = (i : Int)) (h' : find cs b = (i : Int)) : a = b := (find_at cs a i h).2.symm.trans (find_at cs b i h').2
theorem l4Consistent_ev (cs : List S86) (rs : List S95) (hn : cs.length ≤ 10) (hm : rs.length ≤ 24) (hin : relsIn cs rs) : Ev (fun k => spec_l4Consistent.f k cs rs) (consB cs.length (lat cs rs)) := by
  unfold spec_l4Consistent.f
  refine Ev.bind (l4Later_ev cs rs hn hm hin) ?_
  generalize lat cs rs = M
  have key : ∀ (d i : Nat), cs.length - i = d → i ≤ cs.length → (∀ j, j < i → M j j = false) → Ev (fun k => spec_l4Consistent.l0 k (masks cs.length M) (i : Int)) (consB cs.length M) := by
    intro d
    induction d with
    | zero =>
      intro i hd hi hA
      obtain rfl : i = cs.length := by omega
      refine Ev.step (fun q => by rw [spec_l4Consistent.l0]) ?_
      simp only [masks_length, Int.lt_irrefl, if_false]
      rw [consB_good hA]
      exact Ev.now _
    | succ d ih =>
      intro i hd hi hA
      have hlt : i < cs.length := by omega
      have a3 : (i : Int) < (cs.length : Int) := by omega
      have a4 : (0 : Int) ≤ (i : Int) := by omega
      refine Ev.step (fun q => by rw [spec_l4Consistent.l0]) ?_
      simp only [masks_length, a3, a4, if_true, w64 i (by omega)]
      rw [l4Bit_masks cs.length i i M (by omega) hlt hlt]
      simp only [Option.bind_some]
      cases hb : M i i with
      | true =>
        simp only [if_true]
        rw [consB_bad hlt hb]
        exact Ev.now _
      | false =>
        simp only [Bool.false_eq_true, if_false]
        exact ih (i + 1) (by omega) (by omega) (fun j hj => by
          by_cases e : j = i
          · subst e; exact hb
          · exact hA j (by omega))
  exact key cs.length 0 (by omega) (by omega) (fun j hj => absurd hj (Nat.not_lt_zero _))
theorem l5Good_ev (cs : List S86) (rs : List S95) : Ev (fun k => spec_l5Good.f k cs rs) (goodB cs rs && consB cs.length (lat cs rs)) := by
  unfold spec_l5Good.f
  simp only [spec_l2Good.f, Option.bind_some]
  cases hg : goodB cs rs with
  | false =>
    simp only [Bool.false_eq_true, if_false, Bool.false_and]
    exact Ev.now _
  | true =>
    obtain ⟨hn, hm, hin⟩ := goodB_parts hg
    simp only [if_true, Bool.true_and]
    first
      | exact l4Consistent_ev cs rs hn hm hin
      | exact Ev.bind (l4Consistent_ev cs rs hn hm hin) (Ev.now _)
theorem abv_iff (cs : List S86) (rs : List S95) (i k : Nat) : abv cs rs i k = true ↔ ∃ y, y ∈ rs ∧ find cs y.f0 = (i : Int) ∧ find cs y.f1 = (k : Int) := by
  unfold abv
  rw [List.any_eq_true]
  constructor
  · rintro ⟨y, hy, h⟩
    simp only [Bool.and_eq_true, decide_eq_true_eq] at h
    exact ⟨y, hy, h.1, h.2⟩
  · rintro ⟨y, hy, h1, h2⟩
    exact ⟨y, hy, by simp [h1, h2]⟩
/-- What the reference looks for. -/
def redY (cs : List S86) (M : Nat → Nat → Bool) (x y : S95) : Bool := y.f0 == x.f0 && !(y.f1 == x.f1) && M (find cs y.f1).toNat (find cs x.f1).toNat
theorem redY_eq (cs : List S86) (rs : List S95) (hin : relsIn cs rs) (hc : consB cs.length (lat cs rs) = true) (x : S95) (hx : x ∈ rs) : rs.any (redY cs (lat cs rs) x) = redB cs.length (abv cs rs) (lat cs rs) (find cs x.f0).toNat (find cs x.f1).toNat := by
  obtain ⟨a, ha, hal⟩ := find_nat cs x.f0 (hin x hx).1
  obtain ⟨b, hb, hbl⟩ := find_nat cs x.f1 (hin x hx).2
  rw [ha, hb, Int.toNat_natCast, Int.toNat_natCast]
  rw [Bool.eq_iff_iff, List.any_eq_true]
  unfold redB
  rw [List.any_eq_true]
  constructor
  · rintro ⟨y, hy, h⟩
    simp only [redY, Bool.and_eq_true, beq_iff_eq, hb, Int.toNat_natCast] at h
    obtain ⟨j, hj, hjl⟩ := find_nat cs y.f1 (hin y hy).2
    rw [hj, Int.toNat_natCast] at h
    refine ⟨j, List.mem_range.2 hjl, ?_⟩
    rw [h.2, Bool.and_true, abv_iff]
    exact ⟨y, hy, by rw [h.1.1]; exact ha, hj⟩
  · rintro ⟨j, hj, h⟩
    simp only [Bool.and_eq_true] at h
    obtain ⟨y, hy, h1, h2⟩ := (abv_iff cs rs a j).1 h.1
    refine ⟨y, hy, ?_⟩
    have e0 : y.f0 = x.f0 := find_inj cs y.f0 x.f0 a h1 ha
    have e1 : ¬ y.f1 = x.f1 := by
      intro e
      have : j = b := by rw [e] at h2; omega
      subst this
      have := consB_at hc hbl
      rw [this] at h
      exact absurd h.2 (by simp)
    simp [redY, e0, e1, hb, h2, h.2]
theorem l5Redundant_ev (cs : List S86) (rs : List S95) (hn : cs.length ≤ 10) (hm : rs.length ≤ 24) (hin : relsIn cs rs) (hc : consB cs.length (lat cs rs) = true) (x : S95) (hx : x ∈ rs) : Ev (fun k => spec_l5Redundant.f k cs rs x.f0 x.f1) (redB cs.length (abv cs rs) (lat cs rs) (find cs x.f0).toNat (find cs x.f1).toNat) := by
  rw [← redY_eq cs rs hin hc x hx]
  unfold spec_l5Redundant.f
  refine Ev.bind (l4Later_ev cs rs hn hm hin) ?_
  obtain ⟨b, hb, hbl⟩ := find_nat cs x.f1 (hin x hx).2
  simp only [find_f, Option.bind_some, hb]
  generalize hM : lat cs rs = M
  have key := Ev.down rs.length (fun k i => spec_l5Redundant.l0 k (masks cs.length M) (b : Int) (i : Int) cs rs x.f0 x.f1) (fun i => (rs.drop i).any (redY cs M x))
    (by
      refine Ev.step (fun k => by rw [spec_l5Redundant.l0]) ?_
      simp only [Int.lt_irrefl, if_false, List.drop_length, List.any_nil]
      exact Ev.now _)
    (fun i hi ih => by
      have a3 : (i : Int) < (rs.length : Int) := by omega
      have a4 : (0 : Int) ≤ (i : Int) := by omega
      refine Ev.step (fun k => by rw [spec_l5Redundant.l0]) ?_
      obtain ⟨j, hj, hjl⟩ := find_nat cs rs[i].f1 (hin _ (List.getElem_mem hi)).2
      have b3 : (j : Int) < (cs.length : Int) := by omega
      have b4 : (0 : Int) ≤ (j : Int) := by omega
      simp only [a3, a4, if_true, rdR rs i hi, w64 i (by omega), find_f, hj, Option.bind_some, masks_length, b3, b4]
      rw [l4Bit_masks cs.length j b M (by omega) hjl hbl, List.drop_eq_getElem_cons hi, List.any_cons]
      simp only [Option.bind_some]
      by_cases h0 : rs[i].f0 = x.f0
      · by_cases h1 : rs[i].f1 = x.f1
        · have e : redY cs M x rs[i] = false := by simp [redY, h1]
          simp only [h0, h1, if_true, e, Bool.false_or]
          exact ih
        · have e : redY cs M x rs[i] = M j b := by simp [redY, h0, h1, hj, hb]
          simp only [h0, h1, if_true, if_false, e]
          cases M j b with
          | true =>
            simp only [if_true, Bool.true_or]
            exact Ev.now _
          | false =>
            simp only [Bool.false_eq_true, if_false, Bool.false_or]
            exact ih
      · have e : redY cs M x rs[i] = false := by simp [redY, h0]
        simp only [h0, if_false, e, Bool.false_or]
        exact ih)
  have h0 := key 0 (Nat.zero_le _)
  simpa using h0
theorem sorted_ext {α : Type} (lt : α → α → Prop) (irr : ∀ a, ¬ lt a a) (tr : ∀ a b c, lt a b → lt b c → lt a c) : ∀ (l1 l2 : List α), l1.Pairwise lt → l2.Pairwise lt → (∀ x, x ∈ l1 ↔ x ∈ l2) → l1 = l2
  | [], [], _, _, _ => rfl
  | [], b :: r2, _, _, h => absurd ((h b).2 (by simp)) (by simp)
  | a :: r1, [], _, _, h => absurd ((h a).1 (by simp)) (by simp)
  | a :: r1, b :: r2, h1, h2, h => by
    rw [List.pairwise_cons] at h1 h2
    have hab : a = b := by
      rcases List.mem_cons.1 ((h a).1 (by simp)) with e | e
      · exact e
      · rcases List.mem_cons.1 ((h b).2 (by simp)) with e2 | e2
        · exact e2.symm
        · exact absurd (tr _ _ _ (h1.1 b e2) (h2.1 a e)) (irr a)
    subst hab
    rw [sorted_ext lt irr tr r1 r2 h1.2 h2.2 (fun x => ?_)]
    constructor
    · intro hx
      rcases List.mem_cons.1 ((h x).1 (List.mem_cons_of_mem _ hx)) with e | e
      · subst e; exact absurd (h1.1 x hx) (irr x)
      · exact e
    · intro hx
      rcases List.mem_cons.1 ((h x).2 (List.mem_cons_of_mem _ hx)) with e | e
      · subst e; exact absurd (h2.1 x hx) (irr x)
      · exact e
theorem ctxOk_pair : ∀ (cs : List S86) (p : Option Int), ctxOk p cs = true → cs.Pairwise (fun a b => a.f0 < b.f0) ∧ (∀ q, p = some q → ∀ c, c ∈ cs → q < c.f0)
  | [], _, _ => ⟨List.Pairwise.nil, fun _ _ _ h => by simp at h⟩
  | c :: r, p, h => by
    simp only [ctxOk, Bool.and_eq_true] at h
    obtain ⟨h1, h2⟩ := ctxOk_pair r _ h.2
    refine ⟨List.pairwise_cons.2 ⟨fun d hd => h2 _ rfl d hd, h1⟩, fun q hq d hd => ?_⟩
    subst hq
    have hqc : q < c.f0 := by simpa using h.1.2
    rcases List.mem_cons.1 hd with rfl | hd
    · exact hqc
    · have := h2 _ rfl d hd; omega
theorem before_iff (a b : S95) : before a b = true ↔ a.f0 < b.f0 ∨ (a.f0 = b.f0 ∧ a.f1 < b.f1) := by simp [before]
theorem relOk_pair (cs : List S86) : ∀ (rs : List S95) (p : Option S95), relOk cs p rs = true → rs.Pairwise (fun a b => before a b = true) ∧ (∀ q, p = some q → ∀ c, c ∈ rs → before q c = true)
  | [], _, _ => ⟨List.Pairwise.nil, fun _ _ _ h => by simp at h⟩
  | c :: r, p, h => by
    simp only [relOk, Bool.and_eq_true] at h
    obtain ⟨h1, h2⟩ := relOk_pair cs r _ h.2
    refine ⟨List.pairwise_cons.2 ⟨fun d hd => h2 _ rfl d hd, h1⟩, fun q hq d hd => ?_⟩
    subst hq
    have hqc : before q c = true := by simpa using h.1.2
    rcases List.mem_cons.1 hd with rfl | hd
    · exact hqc
    · have h3 := h2 _ rfl d hd
      rw [before_iff] at hqc h3 ⊢
      omega
theorem goodB_sorted {cs : List S86} {rs : List S95} (h : goodB cs rs = true) : cs.Pairwise (fun a b => a.f0 < b.f0) ∧ rs.Pairwise (fun a b => before a b = true) := by
  simp only [goodB, Bool.and_eq_true] at h
  exact ⟨(ctxOk_pair cs _ h.1.2).1, (relOk_pair cs rs _ h.2).1⟩
theorem find_mono {cs : List S86} (hs : cs.Pairwise (fun a b => a.f0 < b.f0)) {a b : Int} {i k : Nat} (ha : find cs a = (i : Int)) (hb : find cs b = (k : Int)) (h : a < b) : i < k := by
  obtain ⟨hi, e1⟩ := find_at cs a i ha
  obtain ⟨hk, e2⟩ := find_at cs b k hb
  rw [getDC cs i hi] at e1
  rw [getDC cs k hk] at e2
  rcases Nat.lt_trichotomy i k with h1 | h1 | h1
  · exact h1
  · subst h1; omega
  · have := List.pairwise_iff_getElem.1 hs k i hk hi h1
    omega
def plt (a b : Nat × Nat) : Prop := a.1 < b.1 ∨ (a.1 = b.1 ∧ a.2 < b.2)
/-- All pairs below n, in order. -/
def allP (n : Nat) : List (Nat × Nat) := (List.range n).flatMap fun i => (List.range n).map fun k => (i, k)
theorem allP_sorted (n : Nat) : (allP n).Pairwise plt := by
  unfold allP
  rw [List.pairwise_flatMap]
  refine ⟨fun i _ => ?_, ?_⟩
  · rw [List.pairwise_map]
    exact List.pairwise_lt_range.imp (fun h => Or.inr ⟨rfl, h⟩)
  · refine List.pairwise_lt_range.imp (fun {i j} h => ?_)
    intro x hx y hy
    obtain ⟨a, _, rfl⟩ := List.mem_map.1 hx
    obtain ⟨b, _, rfl⟩ := List.mem_map.1 hy
    exact Or.inl h
theorem mem_allP {n : Nat} {x : Nat × Nat} : x ∈ allP n ↔ x.1 < n ∧ x.2 < n := by
  unfold allP
  rw [List.mem_flatMap]
  constructor
  · rintro ⟨i, hi, hx⟩
    obtain ⟨k, hk, rfl⟩ := List.mem_map.1 hx
    exact ⟨List.mem_range.1 hi, List.mem_range.1 hk⟩
  · intro h
    exact ⟨x.1, List.mem_range.2 h.1, List.mem_map.2 ⟨x.2, List.mem_range.2 h.2, rfl⟩⟩
def pairOf (cs : List S86) (x : S95) : Nat × Nat := ((find cs x.f0).toNat, (find cs x.f1).toNat)
theorem pairs_eq {cs : List S86} {rs : List S95} (h : goodB cs rs = true) : rs.map (pairOf cs) = (allP cs.length).filter fun x => abv cs rs x.1 x.2 := by
  obtain ⟨hn, hm, hin⟩ := goodB_parts h
  obtain ⟨hsc, hsr⟩ := goodB_sorted h
  refine sorted_ext plt (fun a h => by unfold plt at h; omega) (fun a b c h1 h2 => by unfold plt at *; omega) _ _ ?_ ((allP_sorted _).filter _) (fun x => ?_)
  · rw [List.pairwise_map]
    refine List.Pairwise.imp_of_mem (fun {a b} ha hb hab => ?_) hsr
    obtain ⟨i, hi, hil⟩ := find_nat cs a.f0 (hin a ha).1
    obtain ⟨k, hk, hkl⟩ := find_nat cs a.f1 (hin a ha).2
    obtain ⟨j, hj, hjl⟩ := find_nat cs b.f0 (hin b hb).1
    obtain ⟨m, hm', hml⟩ := find_nat cs b.f1 (hin b hb).2
    rw [before_iff] at hab
    unfold plt pairOf
    simp only [hi, hk, hj, hm', Int.toNat_natCast]
    rcases hab with h1 | ⟨h1, h2⟩
    · exact Or.inl (find_mono hsc hi hj h1)
    · rw [h1] at hi
      exact Or.inr ⟨by omega, find_mono hsc hk hm' h2⟩
  · rw [List.mem_map, List.mem_filter, mem_allP]
    constructor
    · rintro ⟨y, hy, rfl⟩
      obtain ⟨i, hi, hil⟩ := find_nat cs y.f0 (hin y hy).1
      obtain ⟨k, hk, hkl⟩ := find_nat cs y.f1 (hin y hy).2
      unfold pairOf
      simp only [hi, hk, Int.toNat_natCast]
      refine ⟨⟨hil, hkl⟩, ?_⟩
      unfold abv
      rw [List.any_eq_true]
      exact ⟨y, hy, by simp [hi, hk]⟩
    · rintro ⟨_, hx⟩
      unfold abv at hx
      obtain ⟨y, hy, h1⟩ := List.any_eq_true.1 hx
      simp only [Bool.and_eq_true, decide_eq_true_eq] at h1
      exact ⟨y, hy, by unfold pairOf; rw [h1.1, h1.2]; simp⟩
def updP (d : List Int) (x : Nat × Nat) : List Int := d.set x.2 (mx (d.getD x.2 0) (d.getD x.1 0 + 1))
theorem dRound_eq (M : Nat → Nat → Bool) (n : Nat) (d : List Int) : dRound M n d n = ((allP n).filter fun x => M x.1 x.2).foldl updP d := by
  unfold dRound allP
  rw [List.foldl_filter, List.foldl_flatMap]
  congr 1
  funext d i
  rw [List.foldl_map]
  rfl
def sRel (cs : List S86) (d : List Int) (rs : List S95) : List Int := rs.foldl (fun d x => updP d (pairOf cs x)) d
theorem sRel_round {cs : List S86} {rs : List S95} (h : goodB cs rs = true) (d : List Int) : sRel cs d rs = dRound (abv cs rs) cs.length d cs.length := by
  rw [dRound_eq, ← pairs_eq h, List.foldl_map]
  rfl
theorem updP_len (d : List Int) (x : Nat × Nat) : (updP d x).length = d.length := by simp [updP]
theorem sRel_len (cs : List S86) (rs : List S95) : ∀ d, (sRel cs d rs).length = d.length := by
  induction rs with
  | nil => intro d; rfl
  | cons x r ih => intro d; show (sRel cs (updP d (pairOf cs x)) r).length = _; rw [ih, updP_len]
theorem upB_upd {d : List Int} {B : Nat} (h : upB B d) (x : Nat × Nat) : upB (B + 1) (updP d x) := by
  have := upB_step (M := fun _ _ => true) h x.1 x.2
  simpa [dStep, updP] using this
theorem upB_sRel (cs : List S86) (rs : List S95) : ∀ (d : List Int) (B : Nat), upB B d → upB (B + rs.length) (sRel cs d rs) := by
  induction rs with
  | nil => intro d B h; exact h
  | cons x r ih =>
    intro d B h
    have := ih _ _ (upB_upd h (pairOf cs x))
    rw [show B + (x :: r).length = B + 1 + r.length by simp; omega]
    exact this
theorem l1Most_eq (a b : Int) : spec_l1Most.f a b = some (mx a b) := by
  unfold spec_l1Most.f mx
  by_cases h : a > b
  · have h' : ¬ a < b := by omega
    simp [h, h']
  · by_cases h2 : a < b
    · simp [h, h2]
    · have : a = b := by omega
      simp [this]
theorem rdN (d : List Int) (k : Nat) : rd d (k : Int) = d.getD k 0 := by simp [rd]
theorem depths_l1 (cs : List S86) (rs : List S95) (hn : cs.length ≤ 10) (hm : rs.length ≤ 24) (hin : relsIn cs rs) (x4 : Int) (out : List Int) : ∀ (m i : Nat), rs.length - i = m → i ≤ rs.length → ∀ d : List Int, d.length = cs.length → upB (1000 + i) d → Ev (fun k => spec_l5Depths.l0 k (sRel cs d (rs.drop i)) (wrap64 (x4 + 1)) cs rs) out → Ev (fun k => spec_l5Depths.l1 k d x4 (i : Int) cs rs) out := by
  intro m
  induction m with
  | zero =>
    intro i hd hi d hl hu hnext
    obtain rfl : i = rs.length := by omega
    refine Ev.step (fun q => by rw [spec_l5Depths.l1]) ?_
    simp only [Int.lt_irrefl, if_false]
    rw [List.drop_length] at hnext
    exact hnext
  | succ m ih =>
    intro i hd hi d hl hu hnext
    have hlt : i < rs.length := by omega
    have a3 : (i : Int) < (rs.length : Int) := by omega
    have a4 : (0 : Int) ≤ (i : Int) := by omega
    obtain ⟨a, ha, hal⟩ := find_nat cs rs[i].f0 (hin _ (List.getElem_mem hlt)).1
    obtain ⟨b, hb, hbl⟩ := find_nat cs rs[i].f1 (hin _ (List.getElem_mem hlt)).2
    have b1 : (0 : Int) ≤ (a : Int) := by omega
    have b2 : (a : Int) < (cs.length : Int) := by omega
    have b3 : (0 : Int) ≤ (b : Int) := by omega
    have b4 : (b : Int) < (cs.length : Int) := by omega
    have hua := hu a
    have e1 : wrap64 (d.getD a 0 + 1) = d.getD a 0 + 1 := by
      generalize d.getD a 0 = x at hua ⊢
      unfold wrap64; omega
    refine Ev.step (fun q => by rw [spec_l5Depths.l1]) ?_
    simp only [a3, a4, if_true, rdR rs i hlt, find_f, ha, hb, Option.bind_some, hl, b1, b2, b3, b4, rdN, e1, l1Most_eq, w64 i (by omega), Int.toNat_natCast]
    have hp : d.set b (mx (d.getD b 0) (d.getD a 0 + 1)) = updP d (pairOf cs rs[i]) := by
      unfold updP pairOf
      simp only [ha, hb, Int.toNat_natCast]
    rw [hp]
    refine ih (i + 1) (by omega) (by omega) _ (by rw [updP_len]; exact hl) (upB_upd hu _) ?_
    rw [List.drop_eq_getElem_cons hlt] at hnext
    exact hnext
theorem l5Depths_ev {cs : List S86} {rs : List S95} (h : goodB cs rs = true) : Ev (fun k => spec_l5Depths.f k cs rs) (dAll (abv cs rs) cs.length cs.length) := by
  obtain ⟨hn, hm, hin⟩ := goodB_parts h
  unfold spec_l5Depths.f
  simp only [show (0 : Int) ≤ (cs.length : Int) by omega, if_true, Int.toNat_natCast, show cs.length ≤ 35184372088832 by omega]
  have key := Ev.down cs.length (fun k r => spec_l5Depths.l0 k (dAll (abv cs rs) cs.length r) (r : Int) cs rs) (fun _ => dAll (abv cs rs) cs.length cs.length)
    (by
      refine Ev.step (fun k => by rw [spec_l5Depths.l0]) ?_
      simp only [dAll_len, Int.lt_irrefl, if_false]
      exact Ev.now _)
    (fun r hr ih => by
      refine Ev.step (fun k => by rw [spec_l5Depths.l0]) ?_
      have a3 : (r : Int) < (cs.length : Int) := by omega
      simp only [dAll_len, a3, if_true]
      refine depths_l1 cs rs hn hm hin (r : Int) _ rs.length 0 (by omega) (by omega) _ (dAll_len _ _ _) ?_ ?_
      · have h1 := upB_all (M := abv cs rs) cs.length r
        have h2 : r * (cs.length * cs.length) ≤ 10 * (10 * 10) := Nat.mul_le_mul (by omega) (Nat.mul_le_mul hn hn)
        intro j
        have := h1 j
        omega
      · rw [List.drop_zero, sRel_round h, ← dAll_succ, w64 r (by omega)]
        exact ih)
  exact key 0 (Nat.zero_le _)
theorem rch_le (M : Nat → Nat → Bool) {j j' a b : Nat} (h : j ≤ j') (hr : rch M j a b = true) : rch M j' a b = true := by
  induction h with
  | refl => exact hr
  | step _ ih => simp only [rch, ih, Bool.true_or]
theorem rch_tr (M : Nat → Nat → Bool) : ∀ (j a b c : Nat), b < j → rch M j a b = true → rch M j b c = true → rch M j a c = true := by
  intro j
  induction j with
  | zero => intro a b c hb; omega
  | succ j ih =>
    intro a b c hb h1 h2
    by_cases e : b = j
    · subst e
      rw [rch_col] at h1
      rw [rch_row] at h2
      simp only [rch, h1, h2, Bool.and_self, Bool.or_true]
    · have hb' : b < j := by omega
      simp only [rch, Bool.or_eq_true, Bool.and_eq_true] at h1 h2 ⊢
      rcases h1 with h1 | ⟨h1, h1'⟩ <;> rcases h2 with h2 | ⟨h2, h2'⟩
      · exact .inl (ih a b c hb' h1 h2)
      · exact .inr ⟨ih a b j hb' h1 h2, h2'⟩
      · exact .inr ⟨h1, ih j b c hb' h1' h2⟩
      · exact .inr ⟨h1, h2'⟩
theorem lat_of_abv {cs : List S86} {rs : List S95} {a b : Nat} (h : abv cs rs a b = true) : lat cs rs a b = true := rch_le _ (Nat.zero_le _) h
theorem lat_tr {cs : List S86} {rs : List S95} {a b c : Nat} (hb : b < cs.length) (h1 : lat cs rs a b = true) (h2 : lat cs rs b c = true) : lat cs rs a c = true := rch_tr _ _ a b c hb h1 h2
theorem countP_lt {α : Type} {p q : α → Bool} : ∀ (l : List α), (∀ x ∈ l, p x = true → q x = true) → (∃ x ∈ l, q x = true ∧ p x = false) → l.countP p < l.countP q
  | [], _, h => by obtain ⟨x, hx, _⟩ := h; simp at hx
  | y :: r, hs, h => by
    have hle : r.countP p ≤ r.countP q := List.countP_mono_left (fun x hx => hs x (List.mem_cons_of_mem _ hx))
    have hy := hs y List.mem_cons_self
    simp only [List.countP_cons]
    by_cases hpy : p y = true
    · rw [if_pos hpy, if_pos (hy hpy)]
      have : ∃ x ∈ r, q x = true ∧ p x = false := by
        obtain ⟨x, hx, h1, h2⟩ := h
        rcases List.mem_cons.1 hx with rfl | hx
        · rw [hpy] at h2; cases h2
        · exact ⟨x, hx, h1, h2⟩
      have := countP_lt r (fun x hx => hs x (List.mem_cons_of_mem _ hx)) this
      omega
    · rw [if_neg hpy]
      by_cases hqy : q y = true
      · rw [if_pos hqy]; omega
      · rw [if_neg hqy]
        have : ∃ x ∈ r, q x = true ∧ p x = false := by
          obtain ⟨x, hx, h1, h2⟩ := h
          rcases List.mem_cons.1 hx with rfl | hx
          · exact absurd h1 hqy
          · exact ⟨x, hx, h1, h2⟩
        have := countP_lt r (fun x hx => hs x (List.mem_cons_of_mem _ hx)) this
        omega
theorem consB_at {n : Nat} {M : Nat → Nat → Bool} (h : consB n M = true) {i : Nat} (hi : i < n) : M i i = false := by
  unfold consB at h
  rw [List.all_eq_true] at h
  simpa using h i (List.mem_range.2 hi)
/-- How many lie before, or behind. -/
def rkUp (n : Nat) (M : Nat → Nat → Bool) (k : Nat) : Nat := (List.range n).countP fun j => M j k
def rkDn (n : Nat) (M : Nat → Nat → Bool) (k : Nat) : Nat := (List.range n).countP fun j => M k j
theorem rkUp_lt {cs : List S86} {rs : List S95} (hc : consB cs.length (lat cs rs) = true) {i k : Nat} (hi : i < cs.length) (h : lat cs rs i k = true) : rkUp cs.length (lat cs rs) i < rkUp cs.length (lat cs rs) k :=
  countP_lt _ (fun _ _ hj => lat_tr hi hj h) ⟨i, List.mem_range.2 hi, h, consB_at hc hi⟩
theorem rkUp_n {cs : List S86} {rs : List S95} (hc : consB cs.length (lat cs rs) = true) {k : Nat} (hk : k < cs.length) : rkUp cs.length (lat cs rs) k < cs.length := by
  have := countP_lt (p := fun j => lat cs rs j k) (q := fun _ => true) (List.range cs.length) (fun _ _ _ => rfl) ⟨k, List.mem_range.2 hk, rfl, consB_at hc hk⟩
  simpa [rkUp] using this
theorem rkDn_lt {cs : List S86} {rs : List S95} (hc : consB cs.length (lat cs rs) = true) {i k : Nat} (hk : k < cs.length) (h : lat cs rs i k = true) : rkDn cs.length (lat cs rs) k < rkDn cs.length (lat cs rs) i :=
  countP_lt _ (fun _ _ hj => lat_tr hk h hj) ⟨k, List.mem_range.2 hk, h, consB_at hc hk⟩
theorem rkDn_n {cs : List S86} {rs : List S95} (hc : consB cs.length (lat cs rs) = true) {k : Nat} (hk : k < cs.length) : rkDn cs.length (lat cs rs) k < cs.length := by
  have := countP_lt (p := fun j => lat cs rs k j) (q := fun _ => true) (List.range cs.length) (fun _ _ _ => rfl) ⟨k, List.mem_range.2 hk, rfl, consB_at hc hk⟩
  simpa [rkDn] using this
/-! rounds of relaxing along edges (source, target) -/
def rounds (E : List (Nat × Nat)) (n r : Nat) : List Int := (List.range r).foldl (fun d _ => E.foldl updP d) (List.replicate n 0)
def Pth (E : List (Nat × Nat)) : Nat → Nat → Prop
  | 0, _ => True
  | j + 1, t => ∃ s, (s, t) ∈ E ∧ Pth E j s
theorem rounds_succ (E : List (Nat × Nat)) (n r : Nat) : rounds E n (r + 1) = E.foldl updP (rounds E n r) := by simp [rounds, List.range_succ, List.foldl_append]
theorem updP_at (d : List Int) (x : Nat × Nat) (k : Nat) : (updP d x).getD k 0 = if k = x.2 ∧ k < d.length then mx (d.getD k 0) (d.getD x.1 0 + 1) else d.getD k 0 := by
  unfold updP
  by_cases h : k = x.2
  · subst h
    by_cases hl : x.2 < d.length
    · rw [if_pos ⟨rfl, hl⟩]; simp [List.getD_eq_getElem?_getD, hl]
    · rw [if_neg (by omega), List.getD_eq_getElem?_getD, List.getD_eq_getElem?_getD, List.getElem?_eq_none (by rw [List.length_set]; omega), List.getElem?_eq_none (by omega)]
  · rw [if_neg (by omega)]
    simp only [List.getD_eq_getElem?_getD, List.getElem?_set_ne (fun e : x.2 = k => h e.symm)]
theorem mx_ge (a b : Int) : a ≤ mx a b ∧ b ≤ mx a b ∧ (mx a b = a ∨ mx a b = b) := by unfold mx; split <;> omega
theorem updP_mono (d : List Int) (x : Nat × Nat) (k : Nat) : d.getD k 0 ≤ (updP d x).getD k 0 := by
  rw [updP_at]
  split
  · exact (mx_ge _ _).1
  · exact Int.le_refl _
theorem updP_ge (d : List Int) (x : Nat × Nat) (h : x.2 < d.length) : d.getD x.1 0 + 1 ≤ (updP d x).getD x.2 0 := by
  rw [updP_at, if_pos ⟨rfl, h⟩]
  exact (mx_ge _ _).2.1
theorem foldP_len (E : List (Nat × Nat)) : ∀ d, (E.foldl updP d).length = d.length := by
  induction E with
  | nil => intro d; rfl
  | cons x r ih => intro d; rw [List.foldl_cons, ih, updP_len]
theorem rounds_len (E : List (Nat × Nat)) (n r : Nat) : (rounds E n r).length = n := by
  induction r with
  | zero => simp [rounds]
  | succ r ih => rw [rounds_succ, foldP_len, ih]
theorem foldP_mono (E : List (Nat × Nat)) (k : Nat) : ∀ d, d.getD k 0 ≤ (E.foldl updP d).getD k 0 := by
  induction E with
  | nil => intro d; exact Int.le_refl _
  | cons x r ih => intro d; exact Int.le_trans (updP_mono d x k) (ih _)
theorem foldP_ge (E : List (Nat × Nat)) : ∀ (d : List Int) (x : Nat × Nat), x ∈ E → x.2 < d.length → d.getD x.1 0 + 1 ≤ (E.foldl updP d).getD x.2 0 := by
  induction E with
  | nil => intro d x hx; simp at hx
  | cons y r ih =>
    intro d x hx hl
    rw [List.foldl_cons]
    rcases List.mem_cons.1 hx with rfl | hx
    · exact Int.le_trans (updP_ge d x hl) (foldP_mono r _ _)
    · have h1 := ih (updP d y) x hx (by rw [updP_len]; exact hl)
      have h2 := updP_mono d y x.1
      omega
def Told (E : List (Nat × Nat)) (d : List Int) : Prop := ∀ k, ∃ j : Nat, d.getD k 0 = (j : Int) ∧ Pth E j k
theorem told_upd {E : List (Nat × Nat)} {d : List Int} (h : Told E d) {x : Nat × Nat} (hx : x ∈ E) : Told E (updP d x) := by
  intro k
  rw [updP_at]
  split
  · rename_i hk
    rcases (mx_ge (d.getD k 0) (d.getD x.1 0 + 1)).2.2 with e | e
    · rw [e]; exact h k
    · rw [e]
      obtain ⟨j, hj, hp⟩ := h x.1
      exact ⟨j + 1, by rw [hj]; omega, x.1, by rw [hk.1]; exact hx, hp⟩
  · exact h k
theorem told_fold {E : List (Nat × Nat)} : ∀ (E' : List (Nat × Nat)), (∀ x ∈ E', x ∈ E) → ∀ d, Told E d → Told E (E'.foldl updP d)
  | [], _, _, h => h
  | x :: r, hs, d, h => told_fold r (fun y hy => hs y (List.mem_cons_of_mem _ hy)) _ (told_upd h (hs x List.mem_cons_self))
theorem told_rounds (E : List (Nat × Nat)) (n r : Nat) : Told E (rounds E n r) := by
  induction r with
  | zero =>
    intro k
    refine ⟨0, ?_, trivial⟩
    simp only [rounds, List.range_zero, List.foldl_nil, List.getD_eq_getElem?_getD, List.getElem?_replicate]
    split <;> rfl
  | succ r ih => rw [rounds_succ]; exact told_fold E (fun _ h => h) _ ih
theorem rounds_ge {E : List (Nat × Nat)} {n : Nat} (hE : ∀ x ∈ E, x.2 < n) (r : Nat) : ∀ (j t : Nat), j ≤ r → Pth E j t → (j : Int) ≤ (rounds E n r).getD t 0 := by
  induction r with
  | zero =>
    intro j t hj _
    obtain ⟨q, hq, _⟩ := told_rounds E n 0 t
    rw [hq]; omega
  | succ r ih =>
    intro j t hj hp
    cases j with
    | zero =>
      obtain ⟨q, hq, _⟩ := told_rounds E n (r + 1) t
      rw [hq]; omega
    | succ j =>
      obtain ⟨s, hs, hp⟩ := hp
      have h1 := ih j s (by omega) hp
      have h2 := foldP_ge E (rounds E n r) (s, t) hs (by rw [rounds_len]; exact hE _ hs)
      rw [rounds_succ]
      simp only at h2
      omega
theorem pth_rk {E : List (Nat × Nat)} {rk : Nat → Nat} (h : ∀ x ∈ E, rk x.1 < rk x.2) : ∀ (j t : Nat), Pth E j t → j ≤ rk t
  | 0, _, _ => Nat.zero_le _
  | j + 1, t, ⟨s, hs, hp⟩ => by have h1 := pth_rk h j s hp; have h2 := h _ hs; simp only at h2; omega
structure Fixed (E : List (Nat × Nat)) (n : Nat) (ds : List Int) : Prop where
  len : ds.length = n
  up : ∀ t, t < n → 0 ≤ ds.getD t 0 ∧ ds.getD t 0 < (n : Int)
  ge : ∀ x ∈ E, ds.getD x.1 0 + 1 ≤ ds.getD x.2 0
  pre : ∀ t, 0 < ds.getD t 0 → ∃ s, (s, t) ∈ E ∧ ds.getD t 0 = ds.getD s 0 + 1
theorem rounds_fixed {E : List (Nat × Nat)} {n : Nat} {rk : Nat → Nat} (hE : ∀ x ∈ E, x.2 < n) (h : ∀ x ∈ E, rk x.1 < rk x.2) (hn : ∀ t, t < n → rk t < n) : Fixed E n (rounds E n n) := by
  have hge : ∀ x ∈ E, (rounds E n n).getD x.1 0 + 1 ≤ (rounds E n n).getD x.2 0 := by
    intro x hx
    obtain ⟨j, hj, hp⟩ := told_rounds E n n x.1
    have hp2 : Pth E (j + 1) x.2 := ⟨x.1, hx, hp⟩
    have h1 := pth_rk h _ _ hp2
    have h2 := hn _ (hE x hx)
    have h3 := rounds_ge hE n (j + 1) x.2 (by omega) hp2
    rw [hj]; omega
  refine ⟨rounds_len E n n, fun t ht => ?_, hge, fun t ht => ?_⟩
  · obtain ⟨j, hj, hp⟩ := told_rounds E n n t
    have h1 := pth_rk h _ _ hp
    have h2 := hn t ht
    rw [hj]; omega
  · obtain ⟨j, hj, hp⟩ := told_rounds E n n t
    cases j with
    | zero => rw [hj] at ht; simp at ht
    | succ j =>
      obtain ⟨s, hs, hp⟩ := hp
      have h1 := hge _ hs
      have h2 := hn t (hE _ hs)
      have h3 := pth_rk h _ _ hp
      have h4 := h _ hs
      have h5 := rounds_ge hE n j s (by simp only at h4; omega) hp
      simp only at h1
      exact ⟨s, hs, by omega⟩
theorem mem_pairs {cs : List S86} {rs : List S95} {x : Nat × Nat} : x ∈ (allP cs.length).filter (fun x => abv cs rs x.1 x.2) ↔ (x.1 < cs.length ∧ x.2 < cs.length) ∧ abv cs rs x.1 x.2 = true := by
  rw [List.mem_filter, mem_allP]
theorem dAll_rounds (M : Nat → Nat → Bool) (n r : Nat) : dAll M n r = rounds ((allP n).filter fun x => M x.1 x.2) n r := by
  unfold dAll rounds
  congr 1
  funext d _
  exact dRound_eq M n d
theorem depths_fixed {cs : List S86} {rs : List S95} (hc : consB cs.length (lat cs rs) = true) : Fixed ((allP cs.length).filter fun x => abv cs rs x.1 x.2) cs.length (dAll (abv cs rs) cs.length cs.length) := by
  rw [dAll_rounds]
  refine rounds_fixed (rk := rkUp cs.length (lat cs rs)) (fun x hx => (mem_pairs.1 hx).1.2) (fun x hx => ?_) (fun t ht => rkUp_n hc ht)
  obtain ⟨⟨h1, h2⟩, h3⟩ := mem_pairs.1 hx
  exact rkUp_lt hc h1 (lat_of_abv h3)
/-- A walk of j steps to b, over the contexts from lo on. -/
def wl (M : Nat → Nat → Bool) (n lo b : Nat) : Nat → Nat → Prop
  | 0, u => u = b
  | j + 1, u => ∃ x, lo ≤ x ∧ x < n ∧ M u x = true ∧ wl M n lo b j x
theorem setD (d : List Int) (i j : Nat) (v : Int) : (d.set i v).getD j 0 = if j = i ∧ j < d.length then v else d.getD j 0 := by
  rw [List.getD_eq_getElem?_getD, List.getD_eq_getElem?_getD, List.getElem?_set]
  by_cases h : i = j
  · subst h
    by_cases hl : i < d.length
    · rw [if_pos rfl, if_pos hl, if_pos ⟨rfl, hl⟩]; rfl
    · rw [if_pos rfl, if_neg hl, if_neg (fun h => hl h.2), List.getElem?_eq_none (by omega)]
  · rw [if_neg h, if_neg (by omega)]
theorem mn_le (a b : Int) : mn a b ≤ a ∧ mn a b ≤ b ∧ (mn a b = a ∨ mn a b = b) := by unfold mn; split <;> omega
section
variable {M : Nat → Nat → Bool} {n lo b : Nat}
theorem fStep_at (d : List Int) (i k j : Nat) : (fStep M b d i k).getD j 0 = if (M i k = true ∧ i ≠ b) ∧ j = i ∧ j < d.length then mn (d.getD i 0) (d.getD k 0 + 1) else d.getD j 0 := by
  unfold fStep
  by_cases h : M i k = true ∧ i ≠ b
  · rw [if_pos (by simp [h.1, h.2]), setD]
    by_cases h2 : j = i ∧ j < d.length
    · rw [if_pos h2, if_pos ⟨h, h2⟩]
    · rw [if_neg h2, if_neg (fun e => h2 e.2)]
  · rw [if_neg (by simpa using h), if_neg (fun e => h e.1)]
theorem fStep_mono (d : List Int) (i k j : Nat) : (fStep M b d i k).getD j 0 ≤ d.getD j 0 := by
  rw [fStep_at]
  split
  · rename_i h; rw [h.2.1]; exact (mn_le _ _).1
  · exact Int.le_refl _
theorem fStep_len (d : List Int) (i k : Nat) : (fStep M b d i k).length = d.length := by unfold fStep; split <;> simp
theorem fRow_len (d : List Int) (i m : Nat) : (fRow M b lo d i m).length = d.length := by
  induction m with
  | zero => rfl
  | succ m ih => rw [fRow_succ, fStep_len, ih]
theorem fRow_mono (d : List Int) (i m j : Nat) : (fRow M b lo d i m).getD j 0 ≤ d.getD j 0 := by
  induction m with
  | zero => exact Int.le_refl _
  | succ m ih => rw [fRow_succ]; exact Int.le_trans (fStep_mono _ _ _ _) ih
theorem fRow_ge (d : List Int) (i m e : Nat) (he : e < m) (hM : M i (lo + e) = true) (hib : i ≠ b) (hi : i < d.length) : (fRow M b lo d i m).getD i 0 ≤ d.getD (lo + e) 0 + 1 := by
  induction m with
  | zero => omega
  | succ m ih =>
    rw [fRow_succ]
    by_cases h : e = m
    · subst h
      rw [fStep_at, if_pos ⟨⟨hM, hib⟩, rfl, by rw [fRow_len]; exact hi⟩]
      have h1 := (mn_le ((fRow M b lo d i e).getD i 0) ((fRow M b lo d i e).getD (lo + e) 0 + 1)).2.1
      have h2 := fRow_mono (M := M) (b := b) (lo := lo) d i e (lo + e)
      omega
    · exact Int.le_trans (fStep_mono _ _ _ _) (ih (by omega))
theorem fRound_len (d : List Int) (m : Nat) : (fRound M b lo n d m).length = d.length := by
  induction m with
  | zero => rfl
  | succ m ih => rw [fRound_succ, fRow_len, ih]
theorem fRound_mono (d : List Int) (m j : Nat) : (fRound M b lo n d m).getD j 0 ≤ d.getD j 0 := by
  induction m with
  | zero => exact Int.le_refl _
  | succ m ih => rw [fRound_succ]; exact Int.le_trans (fRow_mono _ _ _ _) ih
theorem fRound_ge (d : List Int) (m i k : Nat) (hi : i < m) (hk : lo ≤ k ∧ k < n) (hM : M (lo + i) k = true) (hib : lo + i ≠ b) (hl : lo + i < d.length) : (fRound M b lo n d m).getD (lo + i) 0 ≤ d.getD k 0 + 1 := by
  induction m with
  | zero => omega
  | succ m ih =>
    rw [fRound_succ]
    by_cases h : i = m
    · subst h
      have h1 := fRow_ge (M := M) (b := b) (lo := lo) (fRound M b lo n d i) (lo + i) (n - lo) (k - lo) (by omega) (by rw [show lo + (k - lo) = k by omega]; exact hM) hib (by rw [fRound_len]; exact hl)
      rw [show lo + (k - lo) = k by omega] at h1
      have h2 := fRound_mono (M := M) (b := b) (lo := lo) (n := n) d i k
      omega
    · exact Int.le_trans (fRow_mono _ _ _ _) (ih (by omega))
/-- What is told of the distances at any time. -/
structure Far (M : Nat → Nat → Bool) (n lo b : Nat) (d : List Int) : Prop where
  len : d.length = n
  at_b : d.getD b 0 = 0
  told : ∀ u, u < n → d.getD u 0 = (n : Int) + 1 ∨ ∃ j : Nat, d.getD u 0 = (j : Int) ∧ j ≤ n ∧ wl M n lo b j u
theorem far_step {d : List Int} (h : Far M n lo b d) (i k : Nat) (hi : i < n) (hk : lo ≤ k ∧ k < n) : Far M n lo b (fStep M b d i k) := by
  refine ⟨by rw [fStep_len, h.len], ?_, fun u hu => ?_⟩
  · rw [fStep_at, if_neg (by omega)]; exact h.at_b
  · rw [fStep_at]
    split
    · rename_i hc
      obtain ⟨⟨hM, hib⟩, rfl, _⟩ := hc
      rcases (mn_le (d.getD u 0) (d.getD k 0 + 1)).2.2 with e | e
      · rw [e]; exact h.told u hu
      · have hle := (mn_le (d.getD u 0) (d.getD k 0 + 1)).1
        rw [e] at hle ⊢
        have hu2 := h.told u hu
        rcases h.told k hk.2 with e2 | ⟨j, e2, hj, hw⟩
        · rcases hu2 with e3 | ⟨q, e3, hq, _⟩ <;> omega
        · by_cases hjn : j + 1 ≤ n
          · exact .inr ⟨j + 1, by omega, hjn, k, hk.1, hk.2, hM, hw⟩
          · left
            omega
    · exact h.told u hu
theorem far_row {d : List Int} (h : Far M n lo b d) (i m : Nat) (hi : i < n) (hm : lo + m ≤ n) : Far M n lo b (fRow M b lo d i m) := by
  induction m with
  | zero => exact h
  | succ m ih => rw [fRow_succ]; exact far_step (ih (by omega)) i _ hi ⟨by omega, by omega⟩
theorem far_round {d : List Int} (h : Far M n lo b d) (m : Nat) (hlo : lo ≤ n) (hm : lo + m ≤ n) : Far M n lo b (fRound M b lo n d m) := by
  induction m with
  | zero => exact h
  | succ m ih => rw [fRound_succ]; exact far_row (ih (by omega)) _ _ (by omega) (by omega)
theorem far_init (hb : b < n) : Far M n lo b (fInit n b) := by
  refine ⟨by simp [fInit], by unfold fInit; rw [setD, if_pos ⟨rfl, by simpa using hb⟩], fun u hu => ?_⟩
  unfold fInit
  rw [setD]
  split
  · rename_i h; exact .inr ⟨0, rfl, Nat.zero_le _, h.1⟩
  · left; simp [List.getD_eq_getElem?_getD, hu]
theorem far_all (hb : b < n) (hlo : lo ≤ n) (m : Nat) : Far M n lo b (fAll M b lo n m) := by
  induction m with
  | zero => exact far_init hb
  | succ m ih => rw [fAll_succ]; exact far_round ih _ hlo (by omega)
theorem fAll_le (hb : b < n) (hlo : lo ≤ n) (m : Nat) : ∀ (j u : Nat), j ≤ m → lo ≤ u → u < n → wl M n lo b j u → (fAll M b lo n m).getD u 0 ≤ (j : Int) := by
  induction m with
  | zero =>
    intro j u hj _ _ hw
    obtain rfl : j = 0 := by omega
    obtain rfl : u = b := hw
    rw [(far_all (M := M) hb hlo 0).at_b]; exact Int.le_refl _
  | succ m ih =>
    intro j u hj hu hun hw
    by_cases hub : u = b
    · rw [hub, (far_all (M := M) hb hlo (m + 1)).at_b]; omega
    · cases j with
      | zero => exact absurd hw hub
      | succ j =>
        obtain ⟨x, hx1, hx2, hM, hw⟩ := hw
        have h1 := ih j x (by omega) hx1 hx2 hw
        rw [fAll_succ]
        have h2 := fRound_ge (M := M) (b := b) (lo := lo) (n := n) (fAll M b lo n m) (n - lo) (u - lo) x (by omega) ⟨hx1, hx2⟩ (by rw [show lo + (u - lo) = u by omega]; exact hM) (by omega) (by rw [(far_all (M := M) hb hlo m).len]; omega)
        rw [show lo + (u - lo) = u by omega] at h2
        omega
/-- The distances when all rounds are done. -/
structure Dist (M : Nat → Nat → Bool) (n lo b : Nat) (d : List Int) : Prop extends Far M n lo b d where
  le : ∀ (j u : Nat), j ≤ n → lo ≤ u → u < n → wl M n lo b j u → d.getD u 0 ≤ (j : Int)
theorem dist_all (hb : b < n) (hlo : lo ≤ n) : Dist M n lo b (fAll M b lo n n) := ⟨far_all hb hlo n, fAll_le hb hlo n⟩
theorem holds_all : ∀ (m : Nat) (l : List Nat), (∀ j, j < m → j ∈ l) → m ≤ l.length
  | 0, _, _ => Nat.zero_le _
  | m + 1, l, h => by
    have h1 := holds_all m (l.erase m) (fun j hj => (List.mem_erase_of_ne (by omega)).2 (h j (by omega)))
    have h2 := List.length_erase_of_mem (h m (by omega))
    have h3 : 0 < l.length := List.length_pos_of_mem (h m (by omega))
    omega
/-- No shortest walk has as many steps as there are contexts. -/
theorem dist_lt {d : List Int} (h : Dist M n lo b d) {u : Nat} (hlu : lo ≤ u) (hu : u < n) (hd : d.getD u 0 ≤ (n : Int)) : d.getD u 0 < (n : Int) := by
  obtain ⟨v, hv⟩ : ∃ v : Nat, d.getD u 0 = (v : Int) := by
    rcases h.told u hu with e | ⟨j, e, _⟩
    · exact ⟨n + 1, by omega⟩
    · exact ⟨j, e⟩
  have down : ∀ k : Nat, k ≤ v → ∃ x, lo ≤ x ∧ x < n ∧ d.getD x 0 = ((v - k : Nat) : Int) := by
    intro k
    induction k with
    | zero => intro _; exact ⟨u, hlu, hu, hv⟩
    | succ k ih =>
      intro hk
      obtain ⟨x, hx1, hx2, e⟩ := ih (by omega)
      rcases h.told x hx2 with e2 | ⟨j, e2, hj, hw⟩
      · omega
      · obtain ⟨j', rfl⟩ : ∃ j', j = j' + 1 := ⟨j - 1, by omega⟩
        obtain ⟨y, hy1, hy2, hM, hw2⟩ := hw
        have h1 := h.le j' y (by omega) hy1 hy2 hw2
        refine ⟨y, hy1, hy2, ?_⟩
        rcases h.told y hy2 with e3 | ⟨q, e3, hq, hw3⟩
        · omega
        · have h2 : d.getD x 0 ≤ ((q + 1 : Nat) : Int) := h.le (q + 1) x (by omega) hx1 hx2 ⟨y, hy1, hy2, hM, hw3⟩
          omega
  by_cases hvn : v < n
  · omega
  · exfalso
    have hall : ∀ j, j < n + 1 → j ∈ (List.range n).map (fun x => (d.getD x 0).toNat) := by
      intro j hj
      obtain ⟨x, _, hx, e⟩ := down (v - j) (by omega)
      rw [List.mem_map]
      exact ⟨x, List.mem_range.2 hx, by rw [e]; omega⟩
    have := holds_all (n + 1) _ hall
    rw [List.length_map, List.length_range] at this
    omega
end
/-! the reference's steps -/
def stCond (cs : List S86) (b r : Int) (d : List Int) (x : S95) : Prop := (r = 1 ∧ find cs x.f1 = b) ∨ (1 < r ∧ d.getD (find cs x.f1).toNat 0 = r - 1)
instance stCond_dec (cs : List S86) (b r : Int) (d : List Int) (x : S95) : Decidable (stCond cs b r d x) := by unfold stCond; infer_instance
theorem stC_iff (cs : List S86) (b r : Int) (d : List Int) (x : S95) : stC cs b r d x = true ↔ d.getD (find cs x.f0).toNat 0 = 0 ∧ stCond cs b r d x := by
  simp only [stC, stCond, Bool.and_eq_true, Bool.or_eq_true, beq_iff_eq, decide_eq_true_eq]
theorem stS_at (cs : List S86) (b r : Int) (d : List Int) (x : S95) (u : Nat) (hx : (find cs x.f0).toNat < d.length) : (stS cs b r d x).getD u 0 = if d.getD u 0 = 0 ∧ (find cs x.f0).toNat = u ∧ stCond cs b r d x then r else d.getD u 0 := by
  unfold stS
  by_cases hc : stC cs b r d x = true
  · obtain ⟨h0, h1⟩ := (stC_iff cs b r d x).1 hc
    rw [if_pos hc, setD]
    by_cases e : u = (find cs x.f0).toNat
    · rw [if_pos ⟨e, by omega⟩, if_pos ⟨by rw [e]; exact h0, e.symm, h1⟩]
    · rw [if_neg (by omega), if_neg (fun hh => e hh.2.1.symm)]
  · rw [if_neg hc, if_neg]
    rintro ⟨h1, h2, h3⟩
    exact hc ((stC_iff cs b r d x).2 ⟨by rw [h2]; exact h1, h3⟩)
theorem stR_at (cs : List S86) (b r : Int) (hr : 1 ≤ r) : ∀ (l : List S95) (d : List Int) (u : Nat), (∀ x ∈ l, (find cs x.f0).toNat < d.length) → ((stR cs l b r d).getD u 0 = r ∧ d.getD u 0 = 0 ∧ ∃ x ∈ l, (find cs x.f0).toNat = u ∧ stCond cs b r d x) ∨ ((stR cs l b r d).getD u 0 = d.getD u 0 ∧ ¬ (d.getD u 0 = 0 ∧ ∃ x ∈ l, (find cs x.f0).toNat = u ∧ stCond cs b r d x))
  | [], d, u, _ => .inr ⟨rfl, fun h => by obtain ⟨_, x, hx, _⟩ := h; simp at hx⟩
  | x :: q, d, u, hl => by
    have hx := hl x List.mem_cons_self
    have hs := fun v => stS_at cs b r d x v hx
    have hcond : ∀ y : S95, stCond cs b r (stS cs b r d x) y ↔ stCond cs b r d y := by
      intro y
      unfold stCond
      rw [hs]
      by_cases h : d.getD (find cs y.f1).toNat 0 = 0 ∧ (find cs x.f0).toNat = (find cs y.f1).toNat ∧ stCond cs b r d x
      · rw [if_pos h, h.1]
        constructor
        · rintro (h1 | ⟨h1, h2⟩)
          · exact .inl h1
          · omega
        · rintro (h1 | ⟨h1, h2⟩)
          · exact .inl h1
          · omega
      · rw [if_neg h]
    have ih := stR_at cs b r hr q (stS cs b r d x) u (fun y hy => by rw [stS_len]; exact hl y (List.mem_cons_of_mem _ hy))
    show ((stR cs q b r (stS cs b r d x)).getD u 0 = r ∧ _) ∨ ((stR cs q b r (stS cs b r d x)).getD u 0 = d.getD u 0 ∧ _)
    by_cases h : d.getD u 0 = 0 ∧ (find cs x.f0).toNat = u ∧ stCond cs b r d x
    · have e := hs u
      rw [if_pos h] at e
      left
      refine ⟨?_, h.1, x, List.mem_cons_self, h.2⟩
      rcases ih with ⟨h1, _⟩ | ⟨h1, _⟩
      · exact h1
      · rw [h1, e]
    · have e := hs u
      rw [if_neg h] at e
      rw [e] at ih
      rcases ih with ⟨h1, h2, y, hy, h3, h4⟩ | ⟨h1, h2⟩
      · exact .inl ⟨h1, h2, y, List.mem_cons_of_mem _ hy, h3, (hcond y).1 h4⟩
      · refine .inr ⟨h1, ?_⟩
        rintro ⟨h3, y, hy, h4, h5⟩
        rcases List.mem_cons.1 hy with rfl | hy
        · exact h ⟨h3, h4, h5⟩
        · exact h2 ⟨h3, y, hy, h4, (hcond y).2 h5⟩
structure Steps (M : Nat → Nat → Bool) (n b m : Nat) (d : List Int) : Prop where
  len : d.length = n
  told : ∀ u, u < n → (d.getD u 0 = 0 ∧ ∀ j, 1 ≤ j → j ≤ m → ¬ wl M n 0 b j u) ∨ ∃ v : Nat, d.getD u 0 = (v : Int) ∧ 1 ≤ v ∧ v ≤ m ∧ wl M n 0 b v u ∧ ∀ j, 1 ≤ j → j < v → ¬ wl M n 0 b j u
theorem steps_all {cs : List S86} {rs : List S95} (hin : relsIn cs rs) (b : Nat) (hb : b < cs.length) (m : Nat) : Steps (abv cs rs) cs.length b m (stA cs rs (b : Int) m) := by
  induction m with
  | zero =>
    refine ⟨stA_len cs rs _ 0, fun u hu => .inl ⟨?_, fun j h1 h2 => by omega⟩⟩
    simp [stA, List.getD_eq_getElem?_getD, hu]
  | succ m ih =>
    refine ⟨stA_len cs rs _ (m + 1), fun u hu => ?_⟩
    have hbd : ∀ x ∈ rs, (find cs x.f0).toNat < (stA cs rs (b : Int) m).length := by
      intro x hx
      obtain ⟨a, ha, hal⟩ := find_nat cs x.f0 (hin x hx).1
      rw [ha, Int.toNat_natCast, ih.len]; exact hal
    have hat := stR_at cs (b : Int) ((m : Int) + 1) (by omega) rs (stA cs rs (b : Int) m) u hbd
    have hgo : (∃ x ∈ rs, (find cs x.f0).toNat = u ∧ stCond cs (b : Int) ((m : Int) + 1) (stA cs rs (b : Int) m) x) ↔ ∃ l, l < cs.length ∧ abv cs rs u l = true ∧ ((m = 0 ∧ l = b) ∨ (1 ≤ m ∧ (stA cs rs (b : Int) m).getD l 0 = (m : Int))) := by
      constructor
      · rintro ⟨x, hx, h1, h2⟩
        obtain ⟨a, ha, hal⟩ := find_nat cs x.f0 (hin x hx).1
        obtain ⟨l, hl, hll⟩ := find_nat cs x.f1 (hin x hx).2
        rw [ha, Int.toNat_natCast] at h1
        subst h1
        refine ⟨l, hll, (abv_iff cs rs a l).2 ⟨x, hx, ha, hl⟩, ?_⟩
        unfold stCond at h2
        rw [hl, Int.toNat_natCast] at h2
        rcases h2 with ⟨h2, h3⟩ | ⟨h2, h3⟩
        · exact .inl ⟨by omega, by omega⟩
        · exact .inr ⟨by omega, by omega⟩
      · rintro ⟨l, hll, hM, hc⟩
        obtain ⟨x, hx, ha, hl⟩ := (abv_iff cs rs u l).1 hM
        refine ⟨x, hx, by rw [ha, Int.toNat_natCast], ?_⟩
        unfold stCond
        rw [hl, Int.toNat_natCast]
        rcases hc with ⟨h2, h3⟩ | ⟨h2, h3⟩
        · exact .inl ⟨by omega, by omega⟩
        · exact .inr ⟨by omega, by omega⟩
    show ((stR cs rs (b : Int) ((m : Int) + 1) (stA cs rs (b : Int) m)).getD u 0 = 0 ∧ _) ∨ ∃ v : Nat, (stR cs rs (b : Int) ((m : Int) + 1) (stA cs rs (b : Int) m)).getD u 0 = (v : Int) ∧ _
    rw [hgo] at hat
    rcases hat with ⟨h1, h2, l, hll, hM, hc⟩ | ⟨h1, h2⟩
    · right
      have hno : ∀ j, 1 ≤ j → j ≤ m → ¬ wl (abv cs rs) cs.length 0 b j u := by
        rcases ih.told u hu with ⟨_, h3⟩ | ⟨v, h3, h4, _⟩
        · exact h3
        · omega
      refine ⟨m + 1, by rw [h1]; omega, by omega, by omega, ⟨l, Nat.zero_le _, hll, hM, ?_⟩, fun j hj1 hj2 => hno j hj1 (by omega)⟩
      rcases hc with ⟨h3, h4⟩ | ⟨h3, h4⟩
      · subst h3; exact h4
      · rcases ih.told l hll with ⟨h5, _⟩ | ⟨v, h5, _, _, h6, _⟩
        · omega
        · obtain rfl : v = m := by omega
          exact h6
    · rcases ih.told u hu with ⟨h3, h4⟩ | ⟨v, h3, h4, h5, h6, h7⟩
      · left
        refine ⟨by rw [h1, h3], fun j hj1 hj2 hw => ?_⟩
        by_cases e : j ≤ m
        · exact h4 j hj1 e hw
        · obtain rfl : j = m + 1 := by omega
          obtain ⟨l, _, hll, hM, hw⟩ := hw
          apply h2
          refine ⟨h3, l, hll, hM, ?_⟩
          by_cases hm0 : m = 0
          · subst hm0; exact .inl ⟨rfl, hw⟩
          · right
            refine ⟨by omega, ?_⟩
            rcases ih.told l hll with ⟨_, h5⟩ | ⟨v, h5, h6, h7, h8, h9⟩
            · exact absurd hw (h5 m (by omega) (Nat.le_refl _))
            · by_cases e2 : v = m
              · rw [h5, e2]
              · exact absurd ⟨l, Nat.zero_le _, hll, hM, h8⟩ (h4 (v + 1) (by omega) (by omega))
      · exact .inr ⟨v, by rw [h1, h3], h4, by omega, h6, h7⟩
/-! the chosen next context -/
theorem sel_least {M : Nat → Nat → Bool} {d : List Int} {n a lo : Nat} {v : Int} (hv : v ≤ (n : Int)) (hmin : ∀ l, lo ≤ l → l < n → M a l = true → d.getD l 0 ≤ (n : Int) → v ≤ d.getD l 0) {k : Nat} (hk : lo ≤ k ∧ k < n) (hM : M a k = true) (hd : d.getD k 0 = v) (hfirst : ∀ j, lo ≤ j → j < k → M a j = true → d.getD j 0 ≠ v) : selTo M d n a lo (n - lo) = (k : Int) := by
  have key : ∀ m, lo + m ≤ n → (lo + m ≤ k → (selTo M d n a lo m = -1 ∨ ∃ q : Nat, lo ≤ q ∧ q < lo + m ∧ selTo M d n a lo m = (q : Int) ∧ M a q = true ∧ d.getD q 0 ≤ (n : Int) ∧ d.getD q 0 ≠ v)) ∧ (k < lo + m → selTo M d n a lo m = (k : Int)) := by
    intro m
    induction m with
    | zero => intro _; exact ⟨fun _ => .inl rfl, fun h => by omega⟩
    | succ m ih =>
      intro hm
      obtain ⟨ih1, ih2⟩ := ih (by omega)
      rw [selTo_succ]
      refine ⟨fun hle => ?_, fun hlt => ?_⟩
      · have h1 := ih1 (by omega)
        unfold selStep
        split
        · rename_i hc
          simp only [Bool.and_eq_true, decide_eq_true_eq] at hc
          exact .inr ⟨lo + m, by omega, by omega, rfl, hc.1.1, hc.1.2, hfirst _ (by omega) (by omega) hc.1.1⟩
        · rcases h1 with h1 | ⟨q, hq1, hq2, h1⟩
          · exact .inl h1
          · exact .inr ⟨q, hq1, by omega, h1⟩
      · by_cases e : k = lo + m
        · have h1 := ih1 (by omega)
          unfold selStep
          rw [if_pos, e]
          rw [← e]
          simp only [Bool.and_eq_true, Bool.or_eq_true, decide_eq_true_eq]
          refine ⟨⟨hM, by rw [hd]; exact hv⟩, ?_⟩
          rcases h1 with h1 | ⟨q, hq1, hq2, h1, hMq, hqn, hqv⟩
          · left; rw [h1]; omega
          · right
            rw [h1, Int.toNat_natCast, hd]
            have := hmin q hq1 (by omega) hMq hqn
            omega
        · have h1 := ih2 (by omega)
          rw [h1]
          unfold selStep
          rw [if_neg]
          simp only [Bool.and_eq_true, Bool.or_eq_true, decide_eq_true_eq]
          rintro ⟨⟨h2, h3⟩, h4 | h4⟩
          · omega
          · rw [Int.toNat_natCast, hd] at h4
            have := hmin _ (by omega) (by omega) h2 h3
            omega
  exact (key (n - lo) (by omega)).2 (by omega)
theorem sel_none {M : Nat → Nat → Bool} {d : List Int} {n a lo : Nat} (hno : ∀ l, lo ≤ l → l < n → M a l = true → ¬ d.getD l 0 ≤ (n : Int)) : selTo M d n a lo (n - lo) = -1 := by
  have key : ∀ m, lo + m ≤ n ∨ m = 0 → selTo M d n a lo m = -1 := by
    intro m
    induction m with
    | zero => intro _; rfl
    | succ m ih =>
      intro hm
      rw [selTo_succ, ih (by omega)]
      unfold selStep
      rw [if_neg]
      simp only [Bool.and_eq_true, decide_eq_true_eq]
      rintro ⟨⟨h1, h2⟩, _⟩
      exact hno _ (by omega) (by omega) h1 h2
  exact key (n - lo) (by omega)
/-- The least index that a test holds of. -/
theorem least_of {P : Nat → Prop} : ∀ (k : Nat), P k → ∃ m, P m ∧ ∀ j, j < m → ¬ P j := by
  intro k
  induction k using Nat.strongRecOn with
  | _ k ih =>
    intro hk
    by_cases h : ∃ j, j < k ∧ P j
    · obtain ⟨j, hj, hp⟩ := h
      exact ih j hj hp
    · exact ⟨k, hk, fun j hj hp => h ⟨j, hj, hp⟩⟩
theorem spSel_least {cs : List S86} {rs : List S95} (hg : goodB cs rs = true) (st : List Int) (b a v : Nat) (ha : a < cs.length) {k : Nat} (hk : abv cs rs a k = true) (hc : (v = 1 ∧ k = b) ∨ (1 < v ∧ st.getD k 0 = (v : Int) - 1)) (hfirst : ∀ j, j < k → abv cs rs a j = true → ¬ ((v = 1 ∧ j = b) ∨ (1 < v ∧ st.getD j 0 = (v : Int) - 1))) : spSel cs rs st (b : Int) a (v : Int) rs.length = (k : Int) := by
  obtain ⟨_, _, hin⟩ := goodB_parts hg
  obtain ⟨hsc, hsr⟩ := goodB_sorted hg
  have hB : ∀ x ∈ rs, ∀ l : Nat, find cs x.f1 = (l : Int) → (spB cs st (b : Int) a (v : Int) x = true ↔ abv cs rs a l = true ∧ x.f0 = (cs.getD a z86).f0 ∧ ((v = 1 ∧ l = b) ∨ (1 < v ∧ st.getD l 0 = (v : Int) - 1))) := by
    intro x hx l hl
    unfold spB
    rw [hl, Int.toNat_natCast]
    simp only [Bool.and_eq_true, Bool.or_eq_true, beq_iff_eq, decide_eq_true_eq]
    constructor
    · rintro ⟨h1, h2⟩
      refine ⟨?_, h1, ?_⟩
      · obtain ⟨i, hi, hil⟩ := find_nat cs x.f0 (hin x hx).1
        have h3 := (find_at cs x.f0 i hi).2
        have : i = a := by
          rcases Nat.lt_trichotomy i a with e | e | e
          · have h4 := List.pairwise_iff_getElem.1 hsc i a hil ha e
            rw [← getDC cs i hil, ← getDC cs a ha] at h4; omega
          · exact e
          · have h4 := List.pairwise_iff_getElem.1 hsc a i ha hil e
            rw [← getDC cs i hil, ← getDC cs a ha] at h4; omega
        subst this
        exact (abv_iff cs rs i l).2 ⟨x, hx, hi, hl⟩
      · rcases h2 with ⟨h2, h3⟩ | ⟨h2, h3⟩
        · exact .inl ⟨by omega, by omega⟩
        · exact .inr ⟨by omega, h3⟩
    · rintro ⟨_, h1, h2⟩
      refine ⟨h1, ?_⟩
      rcases h2 with ⟨h2, h3⟩ | ⟨h2, h3⟩
      · exact .inl ⟨by omega, by omega⟩
      · exact .inr ⟨by omega, h3⟩
  obtain ⟨y, hy, hy0, hy1⟩ := (abv_iff cs rs a k).1 hk
  have hyB : spB cs st (b : Int) a (v : Int) y = true := (hB y hy k hy1).2 ⟨hk, (find_at cs y.f0 a hy0).2.symm, hc⟩
  have key : ∀ m, m ≤ rs.length → (∀ x ∈ rs.take m, spB cs st (b : Int) a (v : Int) x = true → spSel cs rs st (b : Int) a (v : Int) m ≠ -1 ∧ spSel cs rs st (b : Int) a (v : Int) m ≤ find cs x.f1) ∧ (spSel cs rs st (b : Int) a (v : Int) m = -1 ∨ ∃ x ∈ rs, spB cs st (b : Int) a (v : Int) x = true ∧ spSel cs rs st (b : Int) a (v : Int) m = find cs x.f1) := by
    intro m
    induction m with
    | zero => intro _; exact ⟨fun x hx => by simp at hx, .inl (by simp [spSel])⟩
    | succ m ih =>
      intro hm
      obtain ⟨ih1, ih2⟩ := ih (by omega)
      have hlt : m < rs.length := by omega
      rw [spSel_succ cs rs st _ a _ m hlt, getDR rs m hlt]
      have hmem := List.getElem_mem hlt
      generalize spSel cs rs st (b : Int) a (v : Int) m = s at ih1 ih2 ⊢
      have hs0 : s = -1 ∨ 0 ≤ s := by
        rcases ih2 with h | ⟨x, hx, _, h⟩
        · exact .inl h
        · have := (hin x hx).2; omega
      rw [List.take_succ_eq_append_getElem hlt]
      by_cases hbm : spB cs st (b : Int) a (v : Int) rs[m] = true
      · have hf := (hin rs[m] hmem).2
        by_cases hcond : s < 0 ∨ find cs rs[m].f1 < s
        · rw [if_pos (by simp only [Bool.and_eq_true, Bool.or_eq_true, decide_eq_true_eq]; exact ⟨hbm, hcond⟩)]
          refine ⟨fun x hx hxb => ⟨by omega, ?_⟩, .inr ⟨_, hmem, hbm, rfl⟩⟩
          rcases List.mem_append.1 hx with hx | hx
          · have := ih1 x hx hxb; omega
          · rw [List.mem_singleton.1 hx]; exact Int.le_refl _
        · rw [if_neg (by simp only [Bool.and_eq_true, Bool.or_eq_true, decide_eq_true_eq]; exact fun h => hcond h.2)]
          refine ⟨fun x hx hxb => ?_, ih2⟩
          rcases List.mem_append.1 hx with hx | hx
          · exact ih1 x hx hxb
          · rw [List.mem_singleton.1 hx]; exact ⟨by omega, by omega⟩
      · rw [if_neg (by simp only [Bool.and_eq_true]; exact fun h => hbm h.1)]
        refine ⟨fun x hx hxb => ?_, ih2⟩
        rcases List.mem_append.1 hx with hx | hx
        · exact ih1 x hx hxb
        · rw [List.mem_singleton.1 hx] at hxb; exact absurd hxb hbm
  obtain ⟨k1, k2⟩ := key rs.length (Nat.le_refl _)
  rw [List.take_length] at k1
  obtain ⟨h1, h2⟩ := k1 y hy hyB
  rcases k2 with h | ⟨x, hx, hxb, h⟩
  · exact absurd h h1
  · obtain ⟨l, hl, hll⟩ := find_nat cs x.f1 (hin x hx).2
    obtain ⟨h3, h4, h5⟩ := (hB x hx l hl).1 hxb
    rw [hy1] at h2
    by_cases e : l < k
    · exact absurd h5 (hfirst l e h3)
    · omega
/-- Both ways choose the same shortest chain. -/
theorem chain_same {cs : List S86} {rs : List S95} (hg : goodB cs rs = true) (b : Nat) (hb : b < cs.length) : ∀ (v a F : Nat), a < cs.length → v ≤ F → (stA cs rs (b : Int) cs.length).getD a 0 = (v : Int) → 1 ≤ v → ∃ t, chainGo (abv cs rs) (fAll (abv cs rs) b 0 cs.length cs.length) cs.length b 0 F a = some (some t) ∧ spGo cs rs (stA cs rs (b : Int) cs.length) (b : Int) v a = some (numI cs t) ∧ t.length = v := by
  obtain ⟨hn, hm, hin⟩ := goodB_parts hg
  have hD := dist_all (M := abv cs rs) (lo := 0) hb (Nat.zero_le _)
  have hS := steps_all hin b hb cs.length
  generalize fAll (abv cs rs) b 0 cs.length cs.length = d at hD ⊢
  generalize stA cs rs (b : Int) cs.length = st at hS ⊢
  intro v
  induction v with
  | zero => intro a F _ _ _ h; omega
  | succ v ih =>
    intro a F ha hF hst _
    obtain ⟨F, rfl⟩ : ∃ q, F = q + 1 := ⟨F - 1, by omega⟩
    have hSa : (v + 1 ≤ cs.length ∧ wl (abv cs rs) cs.length 0 b (v + 1) a) ∧ ∀ j, 1 ≤ j → j < v + 1 → ¬ wl (abv cs rs) cs.length 0 b j a := by
      rcases hS.told a ha with ⟨h, _⟩ | ⟨q, h, _, h2, h3, h4⟩
      · omega
      · obtain rfl : q = v + 1 := by omega
        exact ⟨⟨h2, h3⟩, h4⟩
    obtain ⟨⟨hvn, x, _, hx, hMx, hwx⟩, hno⟩ := hSa
    have hmin : ∀ l, 0 ≤ l → l < cs.length → abv cs rs a l = true → d.getD l 0 ≤ (cs.length : Int) → (v : Int) ≤ d.getD l 0 := by
      intro l _ hl hMl hdl
      rcases hD.told l hl with e | ⟨j, e, _, hw⟩
      · omega
      · by_cases h : j < v
        · exact absurd ⟨l, Nat.zero_le _, hl, hMl, hw⟩ (hno (j + 1) (by omega) (by omega))
        · omega
    have hdx : d.getD x 0 = (v : Int) := by
      have h1 := hD.le v x (by omega) (Nat.zero_le _) hx hwx
      have h2 := hmin x (Nat.zero_le _) hx hMx (by omega)
      omega
    obtain ⟨k, ⟨hk, hMk, hdk⟩, hfirst⟩ := least_of (P := fun k => k < cs.length ∧ abv cs rs a k = true ∧ d.getD k 0 = (v : Int)) x ⟨hx, hMx, hdx⟩
    have hsel := sel_least (lo := 0) (by omega) hmin ⟨Nat.zero_le _, hk⟩ hMk hdk (fun j _ hj hMj e => hfirst j hj ⟨by omega, hMj, e⟩)
    have hcond : ∀ l, l < cs.length → abv cs rs a l = true → (d.getD l 0 = (v : Int) ↔ ((v + 1 = 1 ∧ l = b) ∨ (1 < v + 1 ∧ st.getD l 0 = ((v + 1 : Nat) : Int) - 1))) := by
      intro l hl hMl
      by_cases hv0 : v = 0
      · subst hv0
        constructor
        · intro e
          left
          rcases hD.told l hl with e2 | ⟨j, e2, _, hw⟩
          · omega
          · obtain rfl : j = 0 := by omega
            exact ⟨rfl, hw⟩
        · rintro (⟨_, h⟩ | ⟨h, _⟩)
          · rw [h, hD.at_b]; rfl
          · omega
      · have hlb : l ≠ b := by
          intro e
          exact hno 1 (by omega) (by omega) ⟨l, Nat.zero_le _, hl, hMl, e⟩
        constructor
        · intro e
          right
          refine ⟨by omega, ?_⟩
          rcases hD.told l hl with e2 | ⟨j, e2, hj, hw⟩
          · omega
          · obtain rfl : j = v := by omega
            rcases hS.told l hl with ⟨_, h⟩ | ⟨q, h, hq1, hq2, hwq, h4⟩
            · exact absurd hw (h j (by omega) hj)
            · have h5 := hD.le q l hq2 (Nat.zero_le _) hl hwq
              by_cases e3 : j < q
              · exact absurd hw (h4 j (by omega) e3)
              · rw [h]; omega
        · rintro (⟨h, _⟩ | ⟨_, h⟩)
          · omega
          · rcases hS.told l hl with ⟨h2, _⟩ | ⟨q, h2, hq1, hq2, hwq, h4⟩
            · omega
            · obtain rfl : q = v := by omega
              have h5 := hD.le q l hq2 (Nat.zero_le _) hl hwq
              have h6 := hmin l (Nat.zero_le _) hl hMl (by omega)
              omega
    have hsp := spSel_least hg st b a (v + 1) ha hMk ((hcond k hk hMk).1 hdk) (fun j hj hMj hc => hfirst j hj ⟨by omega, hMj, (hcond j (by omega) hMj).2 hc⟩)
    have e1 : chainGo (abv cs rs) d cs.length b 0 (F + 1) a = if (k : Int) = (b : Int) then some (some [(k : Int)]) else (chainGo (abv cs rs) d cs.length b 0 F k).map (fun o => o.map ((k : Int) :: ·)) := by
      simp only [chainGo, Nat.sub_zero] at hsel ⊢
      rw [hsel, if_neg (by omega), Int.toNat_natCast]
    have e2 : spGo cs rs st (b : Int) (v + 1) a = (spGo cs rs st (b : Int) v k).map ((cs.getD k z86).f0 :: ·) := by
      simp only [spGo]
      rw [hsp, if_neg (by omega), Int.toNat_natCast]
    by_cases hkb : k = b
    · have hv0 : v = 0 := by
        by_cases h : v = 0
        · exact h
        · rw [hkb, hD.at_b] at hdk; omega
      subst hv0
      refine ⟨[(k : Int)], ?_, ?_, rfl⟩
      · rw [e1, if_pos (by omega)]
      · rw [e2]; simp [spGo, numI]
    · have hv0 : 1 ≤ v := by
        by_cases h : v = 0
        · subst h
          rcases (hcond k hk hMk).1 hdk with ⟨_, h⟩ | ⟨h, _⟩
          · exact absurd h hkb
          · omega
        · omega
      have hstk : st.getD k 0 = (v : Int) := by
        rcases (hcond k hk hMk).1 hdk with ⟨h, _⟩ | ⟨_, h⟩
        · omega
        · omega
      obtain ⟨t, ht1, ht2, ht3⟩ := ih k F hk (by omega) hstk hv0
      refine ⟨(k : Int) :: t, ?_, ?_, by rw [List.length_cons, ht3]⟩
      · rw [e1, if_neg (by omega), ht1]; rfl
      · rw [e2, ht2]; simp [numI]
theorem chain_none {cs : List S86} {rs : List S95} (hg : goodB cs rs = true) (b : Nat) (hb : b < cs.length) (a F : Nat) (ha : a < cs.length) (h : (stA cs rs (b : Int) cs.length).getD a 0 = 0) : chainGo (abv cs rs) (fAll (abv cs rs) b 0 cs.length cs.length) cs.length b 0 (F + 1) a = some none := by
  obtain ⟨hn, hm, hin⟩ := goodB_parts hg
  have hD := dist_all (M := abv cs rs) (lo := 0) hb (Nat.zero_le _)
  have hS := steps_all hin b hb cs.length
  have hsel := sel_none (M := abv cs rs) (d := fAll (abv cs rs) b 0 cs.length cs.length) (n := cs.length) (a := a) (lo := 0) (fun l _ hl hMl hdl => by
    have h1 := dist_lt hD (Nat.zero_le _) hl hdl
    rcases hD.told l hl with e | ⟨j, e, _, hw⟩
    · omega
    · rcases hS.told a ha with ⟨_, h2⟩ | ⟨q, h2, _⟩
      · exact h2 (j + 1) (by omega) (by omega) ⟨l, Nat.zero_le _, hl, hMl, hw⟩
      · omega)
  simp only [chainGo, Nat.sub_zero] at hsel ⊢
  rw [hsel, if_pos (by decide)]
theorem rdI (l : List Int) (i : Nat) (h : i < l.length) : rd l (i : Int) = l[i] := by simp [rd, List.getD_eq_getElem?_getD, List.getElem?_eq_getElem h]
theorem eqIntS_ev (a : List Int) (ha : a.length ≤ 1048576) : Ev (fun k => laws_eqIntS.f k a a) true := by
  unfold laws_eqIntS.f
  simp only [if_true]
  exact Ev.down a.length (fun k i => laws_eqIntS.l0 k a a (i : Int)) (fun _ => true)
    (by
      refine Ev.step (fun k => by rw [laws_eqIntS.l0]) ?_
      simp only [Int.lt_irrefl, if_false]
      exact Ev.now _)
    (fun i hi ih => by
      refine Ev.step (fun k => by rw [laws_eqIntS.l0]) ?_
      have a3 : (i : Int) < (a.length : Int) := by omega
      have a4 : (0 : Int) ≤ (i : Int) := by omega
      simp only [a3, a4, if_true, w64 i (by omega)]
      exact ih) 0 (Nat.zero_le _)
def ints (k : Int) (n : Nat) : List Int := (List.range n).map fun (i : Nat) => k + (i : Int)
theorem ints_length (k : Int) (n : Nat) : (ints k n).length = n := by simp [ints]
theorem markIntS_ev (l : List Int) (k : Int) (hl : l.length ≤ 1048576) (h0 : 0 ≤ k) (h1 : k ≤ 1048576) : Ev (fun q => laws_markIntS.f q l k) (k + (l.length : Int), ints k l.length) := by
  unfold laws_markIntS.f
  have key := Ev.down l.length (fun q i => laws_markIntS.l0 q (ints k i ++ l.drop i) (k + (i : Int)) (i : Int)) (fun _ => (k + (l.length : Int), ints k l.length))
    (by
      refine Ev.step (fun k => by rw [laws_markIntS.l0]) ?_
      simp only [List.drop_length, List.append_nil, ints_length, Int.lt_irrefl, if_false]
      exact Ev.now _)
    (fun i hi ih => by
      refine Ev.step (fun k => by rw [laws_markIntS.l0]) ?_
      have a2 : (ints k i ++ l.drop i).length = l.length := by rw [List.length_append, ints_length, List.length_drop]; omega
      have a3 : (i : Int) < (l.length : Int) := by omega
      have a4 : (0 : Int) ≤ (i : Int) := by omega
      have a5 : wrap64 (k + (i : Int) + 1) = k + ((i + 1 : Nat) : Int) := by unfold wrap64; omega
      have a6 : (ints k i ++ l.drop i).set i (k + (i : Int)) = ints k (i + 1) ++ l.drop (i + 1) := by
        rw [List.set_append_right _ _ (by rw [ints_length]; omega), ints_length, Nat.sub_self, List.drop_eq_getElem_cons hi, List.set_cons_zero]
        simp [ints, List.range_succ]
      simp only [a2, a3, a4, if_true, w64 i (by omega), a5, Int.toNat_natCast, a6]
      exact ih) 0 (Nat.zero_le _)
  simpa [ints] using key
theorem heldIntS_ev (n : Nat) (k : Int) (hl : n ≤ 1048576) (h0 : 0 ≤ k) (h1 : k ≤ 1048576) : Ev (fun q => laws_heldIntS.f q (ints k n) k) (k + (n : Int)) := by
  unfold laws_heldIntS.f
  have key := Ev.down n (fun q i => laws_heldIntS.l0 q (ints k n) (k + (i : Int)) (i : Int)) (fun _ => k + (n : Int))
    (by
      refine Ev.step (fun k => by rw [laws_heldIntS.l0]) ?_
      simp only [ints_length, Int.lt_irrefl, if_false]
      exact Ev.now _)
    (fun i hi ih => by
      refine Ev.step (fun k => by rw [laws_heldIntS.l0]) ?_
      have a3 : (i : Int) < (n : Int) := by omega
      have a4 : (0 : Int) ≤ (i : Int) := by omega
      have a5 : wrap64 (k + (i : Int) + 1) = k + ((i + 1 : Nat) : Int) := by unfold wrap64; omega
      have a6 : rd (ints k n) (i : Int) = k + (i : Int) := by rw [rdI _ _ (by rw [ints_length]; exact hi)]; simp [ints]
      simp only [ints_length, a3, a4, a6, if_true, w64 i (by omega), a5]
      exact ih) 0 (Nat.zero_le _)
  simpa using key
def stp (cs : List S86) (rs : List S95) (a1 a2 : Int) : Int := (stA cs rs (find cs a2) cs.length).getD (find cs a1).toNat 0
def answer (cs : List S86) (rs : List S95) (a1 a2 : Int) : List Int × Bool × Bool :=
  if goodB cs rs = true ∧ 0 ≤ find cs a1 ∧ 0 ≤ find cs a2 then
    (match chnG cs rs 0 (find cs a2).toNat (find cs a1).toNat with
     | some (some t) => (numI cs (find cs a1 :: t), true, true)
     | _ => ([], false, true))
  else ([], false, false)
theorem answer_len (cs : List S86) (rs : List S95) (a1 a2 : Int) (_ : cs.length ≤ 1048576) (_ : rs.length ≤ 1048576) : (answer cs rs a1 a2).1.length ≤ 1048576 := by
  unfold answer
  split
  · cases h : chnG cs rs 0 (find cs a2).toNat (find cs a1).toNat with
    | none => simp
    | some o =>
      cases o with
      | none => simp
      | some t =>
        have := chainGo_len _ _ _ _ _ _ _ _ h
        simp only [numI_len, List.length_cons]
        omega
  · simp
theorem both {cs : List S86} {rs : List S95} {a1 a2 : Int} (hg : goodB cs rs = true) (h1 : 0 ≤ find cs a1) (h2 : 0 ≤ find cs a2) : ((stp cs rs a1 a2 = 0 ∧ chnG cs rs 0 (find cs a2).toNat (find cs a1).toNat = some none) ∨ (stp cs rs a1 a2 ≠ 0 ∧ ∃ t, chnG cs rs 0 (find cs a2).toNat (find cs a1).toNat = some (some t) ∧ spGo cs rs (stA cs rs (find cs a2) cs.length) (find cs a2) (stp cs rs a1 a2).toNat (find cs a1).toNat = some (numI cs t))) := by
  obtain ⟨i, hi, hil⟩ := find_nat cs a1 h1
  obtain ⟨k, hk, hkl⟩ := find_nat cs a2 h2
  obtain ⟨hn, _, _⟩ := goodB_parts hg
  unfold stp chnG
  rw [hi, hk, Int.toNat_natCast, Int.toNat_natCast]
  have hu := stA_up cs rs (k : Int) cs.length i
  by_cases h0 : (stA cs rs (k : Int) cs.length).getD i 0 = 0
  · exact .inl ⟨h0, chain_none hg k hkl i 29 hil h0⟩
  · right
    refine ⟨h0, ?_⟩
    obtain ⟨v, hv⟩ : ∃ v : Nat, (stA cs rs (k : Int) cs.length).getD i 0 = (v : Int) := ⟨((stA cs rs (k : Int) cs.length).getD i 0).toNat, by omega⟩
    obtain ⟨t, h3, h4, _⟩ := chain_same hg k hkl v i 30 hil (by omega) hv (by omega)
    exact ⟨t, h3, by rw [hv, Int.toNat_natCast]; exact h4⟩
theorem impl_eq (cs : List S86) (rs : List S95) (a1 a2 : Int) : impl_ShortestChain.f cs rs a1 a2 = some (answer cs rs a1 a2) := by
  unfold impl_ShortestChain.f answer
  by_cases h : goodB cs rs = true ∧ 0 ≤ find cs a1 ∧ 0 ≤ find cs a2
  · obtain ⟨hg, h1, h2⟩ := h
    rw [if_pos (by simp [hg, h1, h2]), if_pos ⟨hg, h1, h2⟩]
    rcases both hg h1 h2 with ⟨_, e⟩ | ⟨_, t, e, _⟩
    · rw [e]
    · rw [e]
  · rw [if_neg h, if_neg]
    simp only [Bool.and_eq_true, decide_eq_true_eq]
    rintro ⟨⟨hg, h1⟩, _, h2⟩
    exact h ⟨hg, h1, h2⟩
theorem spec_eq (cs : List S86) (rs : List S95) (a1 a2 : Int) : spec_ShortestChain.f cs rs a1 a2 = some (answer cs rs a1 a2) := by
  unfold spec_ShortestChain.f answer
  simp only [find_f, Option.bind_some, spec_l2Good.f]
  by_cases hg : goodB cs rs = true
  · simp only [hg, if_true, true_and]
    by_cases h1 : 0 ≤ find cs a1
    · by_cases h2 : 0 ≤ find cs a2
      · simp only [show ¬ find cs a1 < 0 by omega, show ¬ find cs a2 < 0 by omega, h1, h2, and_self, if_true, if_false]
        have hr := idxI_range (fun c => c.f0 == a1) cs
        have hlt : find cs a1 < (cs.length : Int) := by unfold find; omega
        unfold spec_l4Chain.f
        rw [if_pos ⟨hg, h1, hlt⟩]
        have hb := both hg h1 h2
        unfold stp at hb
        rcases hb with ⟨h3, e⟩ | ⟨h3, t, e, e2⟩
        · rw [if_pos h3, e]; rfl
        · rw [if_neg h3, e, e2]
          obtain ⟨i, hi, hil⟩ := find_nat cs a1 h1
          simp only [Option.map_some, Option.bind_some]
          have e3 : (cs.getD (find cs a1).toNat z86).f0 :: numI cs t = numI cs (find cs a1 :: t) := by simp [numI]
          rw [e3]
          simp only [numI_len, List.length_cons]
          have : decide (((t.length + 1 : Nat) : Int) > 0) = true := decide_eq_true (by omega)
          rw [this]
      · simp only [show ¬ find cs a1 < 0 by omega, show find cs a2 < 0 by omega, h2, and_false, if_true, if_false]
    · simp only [show find cs a1 < 0 by omega, h1, false_and, if_true, if_false]
  · rw [if_neg hg, if_neg (fun h => hg h.1)]
theorem FnExactShortestChain : ∀ (l0_0 : List (S127)) (l0_1 : List (S129)) (a1 : Int) (a2 : Int), ((l0_0.length ≤ 9223372036854775807) ∧ ∀ y4 ∈ l0_0, ((Lit.int .i64 y4.f0).wf = true) ∧ ((Lit.int .i64 y4.f1).wf = true)) → ((l0_1.length ≤ 9223372036854775807) ∧ ∀ y4 ∈ l0_1, ((Lit.int .i64 y4.f0).wf = true) ∧ ((Lit.int .i64 y4.f1).wf = true)) → ((Lit.int .i64 a1).wf = true) → ((Lit.int .i64 a2).wf = true) → ∃ k, laws_FnExactShortestChain.f k l0_0 l0_1 a1 a2 = some true := by
  intro l0 l1 a1 a2 g0 g1 _ _
  obtain ⟨t, ht, hc⟩ := szRecord_eq l0 l1 g0.1 g1.1
  refine Ev.rounds ?_
  unfold laws_FnExactShortestChain.f
  rw [ht]
  simp only [Option.bind_some]
  rcases hc with hc | ⟨h0, _, hl0, hl1⟩
  · simp only [hc, if_true]
    exact Ev.now _
  · have hn : ¬ t < 0 := by omega
    have hC : (l0.map cvC).length ≤ 1048576 := by rw [List.length_map]; exact hl0
    have hR : (l1.map cvR).length ≤ 1048576 := by rw [List.length_map]; exact hl1
    have himpl : impl_ShortestChain.f (l0.map cvC) (l1.map cvR) a1 a2 = some (answer (l0.map cvC) (l1.map cvR) a1 a2) := impl_eq _ _ a1 a2
    have hAl := answer_len (l0.map cvC) (l1.map cvR) a1 a2 hC hR
    simp only [hn, if_false]
    refine Ev.bind (toRecord_ev l0 l1 hl0 hl1) ?_
    simp only [spec_eq _ _ a1 a2, Option.bind_some]
    refine Ev.bind (toRecord_ev l0 l1 hl0 hl1) ?_
    simp only [himpl, Option.bind_some]
    generalize answer (l0.map cvC) (l1.map cvR) a1 a2 = A at hAl himpl ⊢
    refine Ev.bind (eqIntS_ev A.1 hAl) ?_
    simp only [bne_self_eq_false, Bool.false_eq_true, if_false, if_true]
    refine Ev.step (fun k => by rw [laws_FnExactShortestChain.j0]) ?_
    simp only [Bool.false_eq_true, if_false]
    refine Ev.bind (toRecord_ev l0 l1 hl0 hl1) ?_
    refine Ev.bind (eqRecord_ev _ _ hC hR) ?_
    simp only [if_true]
    obtain ⟨m, x, y, hm, _, hmk⟩ := markRecord_ev (l0.map cvC) (l1.map cvR) 1 hC hR (by omega) (by omega)
    refine Ev.bind hmk ?_
    have hm2 : ¬ m < 0 := by omega
    simp only [hm2, if_false]
    refine Ev.bind (eqIntS_ev A.1 hAl) ?_
    simp only [bne_self_eq_false, Bool.false_eq_true, if_false, if_true]
    refine Ev.step (fun k => by rw [laws_FnExactShortestChain.j1]) ?_
    simp only [Bool.false_eq_true, if_false]
    refine Ev.bind (markIntS_ev A.1 1 hAl (by omega) (by omega)) ?_
    refine Ev.bind (heldIntS_ev A.1.length 1 hAl (by omega) (by omega)) ?_
    have h2 : ¬ (1 + (A.1.length : Int)) < 0 := by omega
    simp only [h2, if_false, if_true]
    refine Ev.bind (toRecord_ev l0 l1 hl0 hl1) ?_
    simp only [himpl, Option.bind_some]
    refine Ev.bind (eqIntS_ev A.1 hAl) ?_
    simp only [bne_self_eq_false, Bool.false_eq_true, if_false, if_true]
    refine Ev.step (fun k => by rw [laws_FnExactShortestChain.j2]) ?_
    simp only [Bool.false_eq_true, if_false]
    refine Ev.bind (heldIntS_ev A.1.length 1 hAl (by omega) (by omega)) ?_
    simp only [h2, if_false, if_true]
    exact Ev.now _
end Go.Proofs.Ytdiejmhphhdcfaa.Pure
