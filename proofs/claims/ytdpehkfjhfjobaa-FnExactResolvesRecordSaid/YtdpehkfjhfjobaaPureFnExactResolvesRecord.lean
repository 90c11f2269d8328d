/- The law FnExactResolvesRecord answers true at every record and list of relations: ResolvesRecord of the program and of the reference agree. No conditions. -/
import Derived.Test.YtdpehkfjhfjobaaQ0
import Derived.Test.YtdpehkfjhfjobaaQF64
import Derived.Test.YtdpehkfjhfjobaaQB0
import Derived.Test.YtdpehkfjhfjobaaQB1
import Derived.Test.YtdpehkfjhfjobaaQM0
import Derived.Test.YtdpehkfjhfjobaaQF69
import Derived.Test.YtdpehkfjhfjobaaQF70
import Derived.Test.YtdpehkfjhfjobaaQF60
import Derived.Test.YtdpehkfjhfjobaaQF57
import Derived.Test.YtdpehkfjhfjobaaQF61
import Derived.Test.YtdpehkfjhfjobaaQF13
import Derived.Test.YtdpehkfjhfjobaaQF49
import Derived.Test.YtdpehkfjhfjobaaQF51
import Derived.Test.YtdpehkfjhfjobaaQF94
import Derived.Test.YtdpehkfjhfjobaaQF115
import Derived.Test.YtdpehkfjhfjobaaQF98
namespace Go.Proofs.Ytdpehkfjhfjobaa.Pure
open Go.RowKit Go.Proofs.Ytdpehkfjhfjobaa.Q Go.Proofs.YtdpehkfjhfjobaaW.PrintWords
/-- Going down from the end of a loop. -/
theorem Ev.down {α : Type} (n : Nat) (F : Nat → Nat → Option α) (R : Nat → α) (hend : Ev (fun k => F k n) (R n)) (hstep : ∀ i, i < n → Ev (fun k => F k (i + 1)) (R (i + 1)) → Ev (fun k => F k i) (R i)) : ∀ i, i ≤ n → Ev (fun k => F k i) (R i) := by
  have key : ∀ d i, n - i = d → i ≤ n → Ev (fun k => F k i) (R i) := by
    intro d
    induction d with
    | zero =>
      intro i hd hi
      obtain rfl : i = n := by omega
      exact hend
    | succ d ih => intro i hd hi; exact hstep i (by omega) (ih (i + 1) (by omega) (by omega))
  intro i hi
  exact key (n - i) i rfl hi
theorem Ev.some {α : Type} (r : α) : Ev (fun _ => Option.some r) r := Ev.now r
theorem w64 (i : Nat) (h : i ≤ 4611686018427387904) : wrap64 ((i : Int) + 1) = ((i + 1 : Nat) : Int) := by unfold wrap64; omega
theorem w64p (i : Nat) (h : i ≤ 4611686018427387904) : wrap64 (((i + 1 : Nat) : Int) - 1) = (i : Int) := by unfold wrap64; omega
theorem rdC (l : List S76) (i : Nat) (h : i < l.length) : rd_T76 l (i : Int) = l[i] := by simp [rd_T76, List.getD_eq_getElem?_getD, List.getElem?_eq_getElem h]
theorem rdR (l : List S90) (i : Nat) (h : i < l.length) : rd_T90 l (i : Int) = l[i] := by simp [rd_T90, List.getD_eq_getElem?_getD, List.getElem?_eq_getElem h]
theorem rdCl (l : List S110) (i : Nat) (h : i < l.length) : rd_T110 l (i : Int) = l[i] := by simp [rd_T110, List.getD_eq_getElem?_getD, List.getElem?_eq_getElem h]
theorem rdRl (l : List S102) (i : Nat) (h : i < l.length) : rd_T102 l (i : Int) = l[i] := by simp [rd_T102, List.getD_eq_getElem?_getD, List.getElem?_eq_getElem h]
theorem getDR (rs : List S90) (i : Nat) (h : i < rs.length) : rs.getD i z90 = rs[i] := by simp [List.getD_eq_getElem?_getD, List.getElem?_eq_getElem h]
theorem getDC (cs : List S76) (i : Nat) (h : i < cs.length) : cs.getD i z76 = cs[i] := by simp [List.getD_eq_getElem?_getD, List.getElem?_eq_getElem h]
def cvC (x : S110) : S76 := ⟨x.f0, x.f1⟩
def cvR (x : S102) : S90 := ⟨x.f0, x.f1⟩
theorem acc_step {α β : Type} (f : α → β) (z : β) (l : List α) (i : Nat) (hi : i < l.length) : ((l.take i).map f ++ List.replicate (l.length - i) z).set i (f l[i]) = (l.take (i + 1)).map f ++ List.replicate (l.length - (i + 1)) z := by
  have h1 : ((l.take i).map f).length = i := by rw [List.length_map, List.length_take]; omega
  rw [List.set_append_right _ _ (by omega), h1, Nat.sub_self]
  obtain ⟨m, hm⟩ : ∃ m, l.length - i = m + 1 := ⟨l.length - i - 1, by omega⟩
  rw [hm, List.replicate_succ, List.set_cons_zero, List.take_succ_eq_append_getElem hi, List.map_append, show l.length - (i + 1) = m by omega]
  simp
theorem toContextS_ev (l : List S110) (hl : l.length ≤ 1048576) : Ev (fun k => laws_toContextS.f k l) (l.map cvC) := by
  unfold laws_toContextS.f
  have h1 : (0 : Int) ≤ (l.length : Int) := by omega
  have h2 : l.length ≤ 17592186044416 := by omega
  simp only [h1, if_true, Int.toNat_natCast, h2]
  have key := Ev.down l.length (fun k i => laws_toContextS.l0 k l ((l.take i).map cvC ++ List.replicate (l.length - i) z76) (i : Int)) (fun _ => l.map cvC)
    (by
      refine Ev.step (fun k => by rw [laws_toContextS.l0]) ?_
      simp only [Int.lt_irrefl, if_false, List.take_length, Nat.sub_self, List.replicate_zero, List.append_nil]
      exact Ev.now _)
    (fun i hi ih => by
      refine Ev.step (fun k => by rw [laws_toContextS.l0]) ?_
      have h1 : (i : Int) < (l.length : Int) := by omega
      have h2 : (0 : Int) ≤ (i : Int) := by omega
      have h3 : (i : Int) < ((((l.take i).map cvC ++ List.replicate (l.length - i) z76).length : Nat) : Int) := by
        rw [List.length_append, List.length_map, List.length_take, List.length_replicate]
        omega
      simp only [h1, h2, h3, if_true, rdCl l i hi, laws_toContext.f, Option.bind_some, w64 i (by omega), Int.toNat_natCast]
      have e := acc_step cvC z76 l i hi
      unfold cvC at e ih ⊢
      rw [e]
      exact ih)
  have h0 := key 0 (Nat.zero_le _)
  simpa using h0
theorem toRelationS_ev (l : List S102) (hl : l.length ≤ 1048576) : Ev (fun k => laws_toRelationS.f k l) (l.map cvR) := by
  unfold laws_toRelationS.f
  have h1 : (0 : Int) ≤ (l.length : Int) := by omega
  have h2 : l.length ≤ 17592186044416 := by omega
  simp only [h1, if_true, Int.toNat_natCast, h2]
  have key := Ev.down l.length (fun k i => laws_toRelationS.l0 k l ((l.take i).map cvR ++ List.replicate (l.length - i) z90) (i : Int)) (fun _ => l.map cvR)
    (by
      refine Ev.step (fun k => by rw [laws_toRelationS.l0]) ?_
      simp only [Int.lt_irrefl, if_false, List.take_length, Nat.sub_self, List.replicate_zero, List.append_nil]
      exact Ev.now _)
    (fun i hi ih => by
      refine Ev.step (fun k => by rw [laws_toRelationS.l0]) ?_
      have h1 : (i : Int) < (l.length : Int) := by omega
      have h2 : (0 : Int) ≤ (i : Int) := by omega
      have h3 : (i : Int) < ((((l.take i).map cvR ++ List.replicate (l.length - i) z90).length : Nat) : Int) := by
        rw [List.length_append, List.length_map, List.length_take, List.length_replicate]
        omega
      simp only [h1, h2, h3, if_true, rdRl l i hi, laws_toRelation.f, Option.bind_some, w64 i (by omega), Int.toNat_natCast]
      have e := acc_step cvR z90 l i hi
      unfold cvR at e ih ⊢
      rw [e]
      exact ih)
  have h0 := key 0 (Nat.zero_le _)
  simpa using h0
theorem toRecord_ev (l0 : List S110) (l1 : List S102) (h0 : l0.length ≤ 1048576) (h1 : l1.length ≤ 1048576) : Ev (fun k => laws_toRecord.f k l0 l1) (l0.map cvC, l1.map cvR) := by
  unfold laws_toRecord.f
  refine Ev.bind (toContextS_ev l0 h0) ?_
  refine Ev.bind (toRelationS_ev l1 h1) ?_
  exact Ev.now _
theorem eqContextS_ev (a : List S76) (ha : a.length ≤ 1048576) : Ev (fun k => laws_eqContextS.f k a a) true := by
  unfold laws_eqContextS.f
  simp only [if_true]
  have key := Ev.down a.length (fun k i => laws_eqContextS.l0 k a a (i : Int)) (fun _ => true)
    (by
      refine Ev.step (fun k => by rw [laws_eqContextS.l0]) ?_
      simp only [Int.lt_irrefl, if_false]
      exact Ev.now _)
    (fun i hi ih => by
      refine Ev.step (fun k => by rw [laws_eqContextS.l0]) ?_
      have h1 : (i : Int) < (a.length : Int) := by omega
      have h2 : (0 : Int) ≤ (i : Int) := by omega
      simp only [h1, h2, if_true, laws_eqContext.f, Option.bind_some, w64 i (by omega)]
      exact ih)
  exact key 0 (Nat.zero_le _)
theorem eqRelationS_ev (a : List S90) (ha : a.length ≤ 1048576) : Ev (fun k => laws_eqRelationS.f k a a) true := by
  unfold laws_eqRelationS.f
  simp only [if_true]
  have key := Ev.down a.length (fun k i => laws_eqRelationS.l0 k a a (i : Int)) (fun _ => true)
    (by
      refine Ev.step (fun k => by rw [laws_eqRelationS.l0]) ?_
      simp only [Int.lt_irrefl, if_false]
      exact Ev.now _)
    (fun i hi ih => by
      refine Ev.step (fun k => by rw [laws_eqRelationS.l0]) ?_
      have h1 : (i : Int) < (a.length : Int) := by omega
      have h2 : (0 : Int) ≤ (i : Int) := by omega
      simp only [h1, h2, if_true, laws_eqRelation.f, Option.bind_some, w64 i (by omega)]
      exact ih)
  exact key 0 (Nat.zero_le _)
theorem eqRecord_ev (a : List S76) (b : List S90) (ha : a.length ≤ 1048576) (hb : b.length ≤ 1048576) : Ev (fun k => laws_eqRecord.f k a b a b) true := by
  unfold laws_eqRecord.f
  refine Ev.bind (eqContextS_ev a ha) ?_
  simp only [if_true]
  refine Ev.bind (eqRelationS_ev b hb) ?_
  simp only [if_true]
  exact Ev.now _
/-- What the law's first test lets by: at most 2^20 contexts and relations. -/
theorem szRecord_eq (l0 : List S110) (l1 : List S102) (g0 : l0.length ≤ 9223372036854775807) (g1 : l1.length ≤ 9223372036854775807) :
    ∃ t, laws_szRecord.f l0 l1 1048576 = some t ∧ (t < 0 ∨ (0 ≤ t ∧ t ≤ 1048576 ∧ l0.length ≤ 1048576 ∧ l1.length ≤ 1048576)) := by
  unfold laws_szRecord.f laws_szContextS.f laws_szRelationS.f
  have e0 : wrap64 (1048576 - (l0.length : Int)) = 1048576 - (l0.length : Int) := by unfold wrap64; omega
  rw [e0]
  by_cases h0 : (1048576 - (l0.length : Int)) < 0
  · exact ⟨-1, by simp [h0], .inl (by omega)⟩
  · have e1 : wrap64 (1048576 - (l0.length : Int) - (l1.length : Int)) = 1048576 - (l0.length : Int) - (l1.length : Int) := by unfold wrap64; omega
    simp only [h0, if_false, Option.bind_some, e1]
    by_cases h1 : (1048576 - (l0.length : Int) - (l1.length : Int)) < 0
    · exact ⟨-1, by simp [h1], .inl (by omega)⟩
    · exact ⟨1048576 - (l0.length : Int) - (l1.length : Int), by simp [h1], .inr (by omega)⟩
theorem markC_l0 : ∀ (d : Nat) (st : List S76) (k : Int) (i : Nat), st.length - i = d → i ≤ st.length → st.length ≤ 1048576 → 0 ≤ k → k + 2 * d ≤ 4611686018427387904 → ∃ st', Ev (fun q => laws_markContextS.l0 q st k (i : Int)) (k + 2 * d, st') := by
  intro d
  induction d with
  | zero =>
    intro st k i hd hi hl h0 h1
    obtain rfl : i = st.length := by omega
    refine ⟨st, Ev.step (fun q => by rw [laws_markContextS.l0]) ?_⟩
    simp only [Int.lt_irrefl, if_false]
    rw [show k + 2 * ((0 : Nat) : Int) = k by omega]
    exact Ev.now _
  | succ d ih =>
    intro st k i hd hi hl h0 h1
    have a1 : wrap64 (k + 1) = k + 1 := by unfold wrap64; omega
    have a2 : wrap64 (k + 1 + 1) = k + 2 := by unfold wrap64; omega
    have a3 : (i : Int) < (st.length : Int) := by omega
    have a4 : (0 : Int) ≤ (i : Int) := by omega
    obtain ⟨st', h⟩ := ih (((st.set i ⟨k, (rd_T76 st (i : Int)).f1⟩).set i ⟨(rd_T76 (st.set i ⟨k, (rd_T76 st (i : Int)).f1⟩) (i : Int)).f0, k + 1⟩)) (k + 2) (i + 1) (by simp only [List.length_set]; omega) (by simp only [List.length_set]; omega) (by simp only [List.length_set]; omega) (by omega) (by omega)
    refine ⟨st', Ev.step (fun q => by rw [laws_markContextS.l0]) ?_⟩
    simp only [a1, a2, a3, a4, if_true, Option.bind_some, Int.toNat_natCast, w64 i (by omega)]
    rw [show k + 2 * ((d + 1 : Nat) : Int) = k + 2 + 2 * (d : Int) by omega]
    exact h
theorem markC_ev (st : List S76) (k : Int) (hl : st.length ≤ 1048576) (h0 : 0 ≤ k) (h1 : k ≤ 1099511627776) : ∃ m st', 0 ≤ m ∧ m ≤ k + 2097152 ∧ Ev (fun q => laws_markContextS.f q st k) (m, st') := by
  obtain ⟨st', h⟩ := markC_l0 st.length st k 0 (by omega) (by omega) hl h0 (by omega)
  exact ⟨k + 2 * (st.length : Int), st', by omega, by omega, h⟩
theorem markR_l0 : ∀ (d : Nat) (st : List S90) (k : Int) (i : Nat), st.length - i = d → i ≤ st.length → st.length ≤ 1048576 → 0 ≤ k → k + 2 * d ≤ 4611686018427387904 → ∃ st', Ev (fun q => laws_markRelationS.l0 q st k (i : Int)) (k + 2 * d, st') := by
  intro d
  induction d with
  | zero =>
    intro st k i hd hi hl h0 h1
    obtain rfl : i = st.length := by omega
    refine ⟨st, Ev.step (fun q => by rw [laws_markRelationS.l0]) ?_⟩
    simp only [Int.lt_irrefl, if_false]
    rw [show k + 2 * ((0 : Nat) : Int) = k by omega]
    exact Ev.now _
  | succ d ih =>
    intro st k i hd hi hl h0 h1
    have a1 : wrap64 (k + 1) = k + 1 := by unfold wrap64; omega
    have a2 : wrap64 (k + 1 + 1) = k + 2 := by unfold wrap64; omega
    have a3 : (i : Int) < (st.length : Int) := by omega
    have a4 : (0 : Int) ≤ (i : Int) := by omega
    obtain ⟨st', h⟩ := ih (((st.set i ⟨k, (rd_T90 st (i : Int)).f1⟩).set i ⟨(rd_T90 (st.set i ⟨k, (rd_T90 st (i : Int)).f1⟩) (i : Int)).f0, k + 1⟩)) (k + 2) (i + 1) (by simp only [List.length_set]; omega) (by simp only [List.length_set]; omega) (by simp only [List.length_set]; omega) (by omega) (by omega)
    refine ⟨st', Ev.step (fun q => by rw [laws_markRelationS.l0]) ?_⟩
    simp only [a1, a2, a3, a4, if_true, Option.bind_some, Int.toNat_natCast, w64 i (by omega)]
    rw [show k + 2 * ((d + 1 : Nat) : Int) = k + 2 + 2 * (d : Int) by omega]
    exact h
theorem markR_ev (st : List S90) (k : Int) (hl : st.length ≤ 1048576) (h0 : 0 ≤ k) (h1 : k ≤ 1099511627776) : ∃ m st', 0 ≤ m ∧ m ≤ k + 2097152 ∧ Ev (fun q => laws_markRelationS.f q st k) (m, st') := by
  obtain ⟨st', h⟩ := markR_l0 st.length st k 0 (by omega) (by omega) hl h0 (by omega)
  exact ⟨k + 2 * (st.length : Int), st', by omega, by omega, h⟩
/-- Marking a record: what it answers is not below 0. -/
theorem markRecord_ev (cs : List S76) (rs : List S90) (k : Int) (hc : cs.length ≤ 1048576) (hr : rs.length ≤ 1048576) (h0 : 0 ≤ k) (h1 : k ≤ 1048576) : ∃ m x y, 0 ≤ m ∧ m ≤ 8388608 ∧ Ev (fun q => laws_markRecord.f q cs rs k) (m, x, y) := by
  obtain ⟨m, x, a, b, hm⟩ := markC_ev cs k hc h0 (by omega)
  obtain ⟨n, y, c, d, hn⟩ := markR_ev rs m hr a (by omega)
  refine ⟨n, x, y, c, by omega, ?_⟩
  unfold laws_markRecord.f
  exact Ev.bind hm (Ev.bind hn (Ev.now _))
/-- A matrix as a list of sets, each as bits. -/
def masks (n : Nat) (M : Nat → Nat → Bool) : List Int := (List.range n).map fun i => ((mask n (M i) : Nat) : Int)
theorem masks_length (n : Nat) (M : Nat → Nat → Bool) : (masks n M).length = n := by simp [masks]
theorem masks_ext {n : Nat} {M M' : Nat → Nat → Bool} (h : ∀ a b, a < n → b < n → M a b = M' a b) : masks n M = masks n M' := by
  unfold masks
  apply List.map_congr_left
  intro a ha
  rw [mask_ext (fun b hb => h a b (List.mem_range.1 ha) hb)]
theorem masks_rd {n : Nat} {M : Nat → Nat → Bool} {a : Nat} (ha : a < n) : rd (masks n M) (a : Int) = ((mask n (M a) : Nat) : Int) := by
  simp [rd, masks, List.getD_eq_getElem?_getD, ha]
theorem masks_set {n : Nat} {M : Nat → Nat → Bool} {a : Nat} (p : Nat → Bool) : (masks n M).set a ((mask n p : Nat) : Int) = masks n (fun x => if x = a then p else M x) := by
  apply List.ext_getElem (by simp [masks])
  intro i h1 h2
  simp only [masks, List.length_map, List.length_range, List.length_set] at h1 h2
  simp only [masks, List.getElem_set, List.getElem_map, List.getElem_range]
  by_cases e : a = i
  · subst e; simp
  · have e2 : ¬ i = a := fun h => e h.symm
    simp [e, e2]
theorem masks_none (n : Nat) : masks n (fun _ _ => false) = List.replicate n 0 := by
  apply List.ext_getElem (by simp [masks])
  intro i h1 h2
  simp [masks, mask_zero]
theorem wrap_i64_small (n : Int) (h0 : 0 ≤ n) (h1 : n < 2 ^ 62) : IntKind.i64.wrap n = n := by
  have h2 : n < 4611686018427387904 := h1
  rw [IntKind.wrap_i64]; omega
theorem mask_lt62 (n : Nat) (p : Nat → Bool) (hn : n ≤ 62) : mask n p < 2 ^ 62 := Nat.lt_of_lt_of_le (mask_lt n p) (Nat.pow_le_pow_right (by decide) hn)
theorem or_masks (n : Nat) (p q : Nat → Bool) (hn : n ≤ 62) : Go.bits .or .i64 ((mask n p : Nat) : Int) ((mask n q : Nat) : Int) = ((mask n (fun i => p i || q i) : Nat) : Int) := by
  rw [(bits_nat .i64 62 (by decide) wrap_i64_small _ _ (mask_lt62 n p hn) (mask_lt62 n q hn)).2, mask_or]
theorem u64_small (i : Nat) (hi : i < 64) : IntKind.u64.wrap (i : Int) = (i : Int) := by
  simp only [IntKind.wrap, IntKind.bits, IntKind.signed]
  simp
  omega
theorem shl_mask (n b : Nat) (hb : b < n) (hn : n ≤ 62) : shl .i64 1 (b : Int) = ((mask n (fun i => decide (i = b)) : Nat) : Int) := by
  rw [← mask_one hb]
  unfold shl
  have h1 : min (b : Int).toNat IntKind.i64.bits = b := by
    have : IntKind.i64.bits = 64 := rfl
    rw [this, Int.toNat_natCast]; omega
  rw [h1, Int.one_mul, Nat.one_shiftLeft]
  have h2 : (2 : Int) ^ b = ((2 ^ b : Nat) : Int) := by simp
  rw [h2]
  apply wrap_i64_small _ (Int.natCast_nonneg _)
  have h3 : 2 ^ b < 2 ^ 62 := Nat.pow_lt_pow_right (by decide) (by omega)
  exact_mod_cast h3
theorem bit_mask (n i : Nat) (p : Nat → Bool) (hn : n ≤ 62) (hi : i < 64) : Go.bits .and .i64 (shr .i64 ((mask n p : Nat) : Int) (i : Int)) 1 = if decide (i < n) && p i then 1 else 0 := by
  unfold shr
  have h1 : min (i : Int).toNat IntKind.i64.bits = i := by
    have : IntKind.i64.bits = 64 := rfl
    rw [this, Int.toNat_natCast]; omega
  rw [h1]
  have h2 : (2 : Int) ^ i = ((2 ^ i : Nat) : Int) := by simp
  rw [h2, ← Int.natCast_ediv]
  have h3 : mask n p / 2 ^ i < 2 ^ 62 := Nat.lt_of_le_of_lt (Nat.div_le_self _ _) (mask_lt62 n p hn)
  have h4 := (bits_nat .i64 62 (by decide) wrap_i64_small (mask n p / 2 ^ i) 1 h3 (by decide)).1
  rw [show ((1 : Nat) : Int) = 1 from rfl] at h4
  rw [h4, Nat.and_one_is_mod]
  have h5 := mask_bit p n i
  rw [Nat.testBit_eq_decide_div_mod_eq] at h5
  rw [← h5]
  by_cases h6 : mask n p / 2 ^ i % 2 = 1
  · simp [h6]
  · have : mask n p / 2 ^ i % 2 = 0 := by omega
    simp [this]
theorem l4Bit_mask (n i : Nat) (p : Nat → Bool) (hn : n ≤ 62) (hi : i < 64) : spec_l4Bit.f ((mask n p : Nat) : Int) (i : Int) = some (decide (i < n) && p i) := by
  unfold spec_l4Bit.f
  rw [u64_small i hi, if_pos (by omega), bit_mask n i p hn hi]
  cases (decide (i < n) && p i) <;> rfl
theorem l4Bit_masks (n i k : Nat) (M : Nat → Nat → Bool) (hn : n ≤ 62) (hi : i < n) (hk : k < n) : spec_l4Bit.f (rd (masks n M) (i : Int)) (k : Int) = some (M i k) := by
  rw [masks_rd hi, l4Bit_mask n k (M i) hn (by omega)]
  simp [hk]
theorem later_l1 (A : Nat → Nat → Bool) (n : Nat) (hn : n ≤ 10) : ∀ (d j : Nat), n - j = d → j ≤ n → Ev (fun k => spec_l4Later.l1 k (masks n (rch A j)) (j : Int)) (masks n (rch A n)) := by
  intro d
  induction d with
  | zero =>
    intro j hd hj
    obtain rfl : j = n := by omega
    refine Ev.step (fun q => by rw [spec_l4Later.l1]) ?_
    simp only [masks_length, Int.lt_irrefl, if_false]
    exact Ev.now _
  | succ d ih =>
    intro j hd hj
    have h1 : (j : Int) < (n : Int) := by omega
    refine Ev.step (fun q => by rw [spec_l4Later.l1]) ?_
    simp only [masks_length, h1, if_true]
    have inner : ∀ (e i : Nat), n - i = e → i ≤ n → Ev (fun k => spec_l4Later.l2 k (masks n (fun x => if x < i then rch A (j + 1) x else rch A j x)) (j : Int) (i : Int)) (masks n (rch A n)) := by
      intro e
      induction e with
      | zero =>
        intro i he hi
        obtain rfl : i = n := by omega
        refine Ev.step (fun q => by rw [spec_l4Later.l2]) ?_
        simp only [masks_length, Int.lt_irrefl, if_false, w64 j (by omega)]
        rw [masks_ext (M' := rch A (j + 1)) (fun a b ha _ => by simp [ha])]
        exact ih (j + 1) (by omega) (by omega)
      | succ e ih2 =>
        intro i he hi
        have hil : i < n := by omega
        have h2 : (i : Int) < (n : Int) := by omega
        have h3 : (0 : Int) ≤ (i : Int) := by omega
        have h4 : (0 : Int) ≤ (j : Int) := by omega
        refine Ev.step (fun q => by rw [spec_l4Later.l2]) ?_
        simp only [masks_length, h1, h2, h3, h4, if_true, u64_small j (by omega), masks_rd hil, masks_rd (show j < n by omega), w64 i (by omega), Int.toNat_natCast]
        rw [if_neg (show ¬ i < i by omega), bit_mask n j _ (by omega) (by omega)]
        have hjn : decide (j < n) = true := decide_eq_true (by omega)
        rw [hjn, Bool.true_and]
        have next := ih2 (i + 1) (by omega) (by omega)
        by_cases hb : rch A j i j = true
        · simp only [hb, if_true, or_masks n _ _ (show n ≤ 62 by omega), masks_set]
          rw [masks_ext (M' := fun x => if x < i + 1 then rch A (j + 1) x else rch A j x) (fun a b _ _ => ?_)]
          · exact next
          · by_cases e1 : a = i
            · subst e1
              have e2 : (if j < a then rch A (j + 1) j else rch A j j) b = rch A j j b := by
                split
                · exact rch_row A j b
                · rfl
              simp only [eq_self, if_true]
              rw [e2, if_pos (show a < a + 1 by omega)]
              simp only [rch, hb, Bool.true_and]
            · by_cases e2 : a < i
              · simp [e1, e2, show a < i + 1 by omega]
              · simp [e1, e2, show ¬ a < i + 1 by omega]
        · have hb' : rch A j i j = false := by simpa using hb
          simp only [hb', Bool.false_eq_true, if_false, show ¬ (0 : Int) = 1 by decide]
          rw [masks_ext (M' := fun x => if x < i + 1 then rch A (j + 1) x else rch A j x) (fun a b _ _ => ?_)]
          · exact next
          · by_cases e1 : a = i
            · subst e1
              simp [rch, hb']
            · by_cases e2 : a < i
              · simp [e2, show a < i + 1 by omega]
              · simp [e2, show ¬ a < i + 1 by omega]
    have h0 := inner n 0 (by omega) (by omega)
    simpa using h0
theorem l4Later_ev (cs : List S76) (rs : List S90) (hn : cs.length ≤ 10) (hm : rs.length ≤ 24) (hin : relsIn cs rs) : Ev (fun k => spec_l4Later.f k cs rs) (masks cs.length (lat cs rs)) := by
  unfold spec_l4Later.f
  simp only [show (0 : Int) ≤ (cs.length : Int) by omega, if_true, Int.toNat_natCast, show cs.length ≤ 35184372088832 by omega]
  have key := Ev.down rs.length (fun k i => spec_l4Later.l0 k (masks cs.length (abv cs (rs.take i))) (i : Int) cs rs) (fun _ => masks cs.length (lat cs rs))
    (by
      refine Ev.step (fun k => by rw [spec_l4Later.l0]) ?_
      simp only [Int.lt_irrefl, if_false, List.take_length]
      exact later_l1 (abv cs rs) cs.length hn cs.length 0 (by omega) (by omega))
    (fun i hi ih => by
      refine Ev.step (fun k => by rw [spec_l4Later.l0]) ?_
      have h1 : (i : Int) < (rs.length : Int) := by omega
      have h2 : (0 : Int) ≤ (i : Int) := by omega
      obtain ⟨a, ha, hal⟩ := find_nat cs rs[i].f0 (hin _ (List.getElem_mem hi)).1
      obtain ⟨b, hb, hbl⟩ := find_nat cs rs[i].f1 (hin _ (List.getElem_mem hi)).2
      have h3 : (0 : Int) ≤ (a : Int) := by omega
      have h4 : (a : Int) < (cs.length : Int) := by omega
      have h5 : (0 : Int) ≤ (b : Int) := by omega
      simp only [h1, h2, if_true, rdR rs i hi, find_f, ha, hb, Option.bind_some, h3, masks_length, h4, u64_small b (by omega), h5, w64 i (by omega), Int.toNat_natCast, masks_rd hal, shl_mask cs.length b hbl (by omega), or_masks cs.length _ _ (show cs.length ≤ 62 by omega), masks_set]
      have hs := abv_snoc cs (rs.take i) rs[i] a b ha hb
      rw [← List.take_succ_eq_append_getElem hi] at hs
      rw [masks_ext (M' := abv cs (rs.take (i + 1))) (fun x y _ _ => ?_)]
      · exact ih
      · rw [← hs]
        by_cases e1 : x = a
        · subst e1
          by_cases e2 : y = b
          · subst e2; simp
          · simp [e2]
        · simp [e1])
  have h0 := key 0 (Nat.zero_le _)
  have e0 : abv cs (rs.take 0) = fun _ _ => false := by
    funext a b; simp [abv]
  simp only [e0, masks_none] at h0
  exact h0
theorem find_at (cs : List S76) (a : Int) (i : Nat) (h : find cs a = (i : Int)) : i < cs.length ∧ (cs.getD i z76).f0 = a := by
  obtain ⟨k, hk, e, hp, _⟩ := idxI_found (fun c : S76 => c.f0 == a) z76 cs (by unfold find at h; omega)
  have : i = k := by unfold find at h; omega
  subst this
  exact ⟨hk, by simpa using hp⟩
theorem find_inj (cs : List S76) (a b : Int) (i : Nat) (h : find cs a = (i : Int)) (h' : find cs b = (i : Int)) : a = b := (find_at cs a i h).2.symm.trans (find_at cs b i h').2
theorem l4Consistent_ev (cs : List S76) (rs : List S90) (hn : cs.length ≤ 10) (hm : rs.length ≤ 24) (hin : relsIn cs rs) : Ev (fun k => spec_l4Consistent.f k cs rs) (consB cs.length (lat cs rs)) := by
  unfold spec_l4Consistent.f
  refine Ev.bind (l4Later_ev cs rs hn hm hin) ?_
  generalize lat cs rs = M
  have key : ∀ (d i : Nat), cs.length - i = d → i ≤ cs.length → (∀ j, j < i → M j j = false) → Ev (fun k => spec_l4Consistent.l0 k (masks cs.length M) (i : Int)) (consB cs.length M) := by
    intro d
    induction d with
    | zero =>
      intro i hd hi hA
      obtain rfl : i = cs.length := by omega
      refine Ev.step (fun q => by rw [spec_l4Consistent.l0]) ?_
      simp only [masks_length, Int.lt_irrefl, if_false]
      rw [consB_good hA]
      exact Ev.now _
    | succ d ih =>
      intro i hd hi hA
      have hlt : i < cs.length := by omega
      have a3 : (i : Int) < (cs.length : Int) := by omega
      have a4 : (0 : Int) ≤ (i : Int) := by omega
      refine Ev.step (fun q => by rw [spec_l4Consistent.l0]) ?_
      simp only [masks_length, a3, a4, if_true, w64 i (by omega)]
      rw [l4Bit_masks cs.length i i M (by omega) hlt hlt]
      simp only [Option.bind_some]
      cases hb : M i i with
      | true =>
        simp only [if_true]
        rw [consB_bad hlt hb]
        exact Ev.now _
      | false =>
        simp only [Bool.false_eq_true, if_false]
        exact ih (i + 1) (by omega) (by omega) (fun j hj => by
          by_cases e : j = i
          · subst e; exact hb
          · exact hA j (by omega))
  exact key cs.length 0 (by omega) (by omega) (fun j hj => absurd hj (Nat.not_lt_zero _))
theorem sorted_ext {α : Type} (lt : α → α → Prop) (irr : ∀ a, ¬ lt a a) (tr : ∀ a b c, lt a b → lt b c → lt a c) : ∀ (l1 l2 : List α), l1.Pairwise lt → l2.Pairwise lt → (∀ x, x ∈ l1 ↔ x ∈ l2) → l1 = l2
  | [], [], _, _, _ => rfl
  | [], b :: r2, _, _, h => absurd ((h b).2 (by simp)) (by simp)
  | a :: r1, [], _, _, h => absurd ((h a).1 (by simp)) (by simp)
  | a :: r1, b :: r2, h1, h2, h => by
    rw [List.pairwise_cons] at h1 h2
    have hab : a = b := by
      rcases List.mem_cons.1 ((h a).1 (by simp)) with e | e
      · exact e
      · rcases List.mem_cons.1 ((h b).2 (by simp)) with e2 | e2
        · exact e2.symm
        · exact absurd (tr _ _ _ (h1.1 b e2) (h2.1 a e)) (irr a)
    subst hab
    rw [sorted_ext lt irr tr r1 r2 h1.2 h2.2 (fun x => ?_)]
    constructor
    · intro hx
      rcases List.mem_cons.1 ((h x).1 (List.mem_cons_of_mem _ hx)) with e | e
      · subst e; exact absurd (h1.1 x hx) (irr x)
      · exact e
    · intro hx
      rcases List.mem_cons.1 ((h x).2 (List.mem_cons_of_mem _ hx)) with e | e
      · subst e; exact absurd (h2.1 x hx) (irr x)
      · exact e
theorem ctxOk_pair : ∀ (cs : List S76) (p : Option Int), ctxOk p cs = true → cs.Pairwise (fun a b => a.f0 < b.f0) ∧ (∀ q, p = some q → ∀ c, c ∈ cs → q < c.f0)
  | [], _, _ => ⟨List.Pairwise.nil, fun _ _ _ h => by simp at h⟩
  | c :: r, p, h => by
    simp only [ctxOk, Bool.and_eq_true] at h
    obtain ⟨h1, h2⟩ := ctxOk_pair r _ h.2
    refine ⟨List.pairwise_cons.2 ⟨fun d hd => h2 _ rfl d hd, h1⟩, fun q hq d hd => ?_⟩
    subst hq
    have hqc : q < c.f0 := by simpa using h.1.2
    rcases List.mem_cons.1 hd with rfl | hd
    · exact hqc
    · have := h2 _ rfl d hd; omega
theorem before_iff (a b : S90) : before a b = true ↔ a.f0 < b.f0 ∨ (a.f0 = b.f0 ∧ a.f1 < b.f1) := by simp [before]
theorem relOk_pair (cs : List S76) : ∀ (rs : List S90) (p : Option S90), relOk cs p rs = true → rs.Pairwise (fun a b => before a b = true) ∧ (∀ q, p = some q → ∀ c, c ∈ rs → before q c = true)
  | [], _, _ => ⟨List.Pairwise.nil, fun _ _ _ h => by simp at h⟩
  | c :: r, p, h => by
    simp only [relOk, Bool.and_eq_true] at h
    obtain ⟨h1, h2⟩ := relOk_pair cs r _ h.2
    refine ⟨List.pairwise_cons.2 ⟨fun d hd => h2 _ rfl d hd, h1⟩, fun q hq d hd => ?_⟩
    subst hq
    have hqc : before q c = true := by simpa using h.1.2
    rcases List.mem_cons.1 hd with rfl | hd
    · exact hqc
    · have h3 := h2 _ rfl d hd
      rw [before_iff] at hqc h3 ⊢
      omega
theorem goodB_sorted {cs : List S76} {rs : List S90} (h : goodB cs rs = true) : cs.Pairwise (fun a b => a.f0 < b.f0) ∧ rs.Pairwise (fun a b => before a b = true) := by
  simp only [goodB, Bool.and_eq_true] at h
  exact ⟨(ctxOk_pair cs _ h.1.2).1, (relOk_pair cs rs _ h.2).1⟩
theorem find_mono {cs : List S76} (hs : cs.Pairwise (fun a b => a.f0 < b.f0)) {a b : Int} {i k : Nat} (ha : find cs a = (i : Int)) (hb : find cs b = (k : Int)) (h : a < b) : i < k := by
  obtain ⟨hi, e1⟩ := find_at cs a i ha
  obtain ⟨hk, e2⟩ := find_at cs b k hb
  rw [getDC cs i hi] at e1
  rw [getDC cs k hk] at e2
  rcases Nat.lt_trichotomy i k with h1 | h1 | h1
  · exact h1
  · subst h1; omega
  · have := List.pairwise_iff_getElem.1 hs k i hk hi h1
    omega
def plt (a b : Nat × Nat) : Prop := a.1 < b.1 ∨ (a.1 = b.1 ∧ a.2 < b.2)
/-- All pairs below n, in order. -/
def allP (n : Nat) : List (Nat × Nat) := (List.range n).flatMap fun i => (List.range n).map fun k => (i, k)
theorem allP_sorted (n : Nat) : (allP n).Pairwise plt := by
  unfold allP
  rw [List.pairwise_flatMap]
  refine ⟨fun i _ => ?_, ?_⟩
  · rw [List.pairwise_map]
    exact List.pairwise_lt_range.imp (fun h => Or.inr ⟨rfl, h⟩)
  · refine List.pairwise_lt_range.imp (fun {i j} h => ?_)
    intro x hx y hy
    obtain ⟨a, _, rfl⟩ := List.mem_map.1 hx
    obtain ⟨b, _, rfl⟩ := List.mem_map.1 hy
    exact Or.inl h
theorem mem_allP {n : Nat} {x : Nat × Nat} : x ∈ allP n ↔ x.1 < n ∧ x.2 < n := by
  unfold allP
  rw [List.mem_flatMap]
  constructor
  · rintro ⟨i, hi, hx⟩
    obtain ⟨k, hk, rfl⟩ := List.mem_map.1 hx
    exact ⟨List.mem_range.1 hi, List.mem_range.1 hk⟩
  · intro h
    exact ⟨x.1, List.mem_range.2 h.1, List.mem_map.2 ⟨x.2, List.mem_range.2 h.2, rfl⟩⟩
def pairOf (cs : List S76) (x : S90) : Nat × Nat := ((find cs x.f0).toNat, (find cs x.f1).toNat)
theorem pairs_eq {cs : List S76} {rs : List S90} (h : goodB cs rs = true) : rs.map (pairOf cs) = (allP cs.length).filter fun x => abv cs rs x.1 x.2 := by
  obtain ⟨hn, hm, hin⟩ := goodB_parts h
  obtain ⟨hsc, hsr⟩ := goodB_sorted h
  refine sorted_ext plt (fun a h => by unfold plt at h; omega) (fun a b c h1 h2 => by unfold plt at *; omega) _ _ ?_ ((allP_sorted _).filter _) (fun x => ?_)
  · rw [List.pairwise_map]
    refine List.Pairwise.imp_of_mem (fun {a b} ha hb hab => ?_) hsr
    obtain ⟨i, hi, hil⟩ := find_nat cs a.f0 (hin a ha).1
    obtain ⟨k, hk, hkl⟩ := find_nat cs a.f1 (hin a ha).2
    obtain ⟨j, hj, hjl⟩ := find_nat cs b.f0 (hin b hb).1
    obtain ⟨m, hm', hml⟩ := find_nat cs b.f1 (hin b hb).2
    rw [before_iff] at hab
    unfold plt pairOf
    simp only [hi, hk, hj, hm', Int.toNat_natCast]
    rcases hab with h1 | ⟨h1, h2⟩
    · exact Or.inl (find_mono hsc hi hj h1)
    · rw [h1] at hi
      exact Or.inr ⟨by omega, find_mono hsc hk hm' h2⟩
  · rw [List.mem_map, List.mem_filter, mem_allP]
    constructor
    · rintro ⟨y, hy, rfl⟩
      obtain ⟨i, hi, hil⟩ := find_nat cs y.f0 (hin y hy).1
      obtain ⟨k, hk, hkl⟩ := find_nat cs y.f1 (hin y hy).2
      unfold pairOf
      simp only [hi, hk, Int.toNat_natCast]
      refine ⟨⟨hil, hkl⟩, ?_⟩
      unfold abv
      rw [List.any_eq_true]
      exact ⟨y, hy, by simp [hi, hk]⟩
    · rintro ⟨_, hx⟩
      unfold abv at hx
      obtain ⟨y, hy, h1⟩ := List.any_eq_true.1 hx
      simp only [Bool.and_eq_true, decide_eq_true_eq] at h1
      exact ⟨y, hy, by unfold pairOf; rw [h1.1, h1.2]; simp⟩
def matchB (a b : S90) : Bool := a.f0 == b.f0 && a.f1 == b.f1
theorem matchB_iff (a b : S90) : matchB a b = true ↔ a = b := by
  cases a; cases b; simp [matchB]
theorem matchB_comm (a b : S90) : matchB a b = matchB b a := by
  have h1 := matchB_iff a b
  have h2 := matchB_iff b a
  cases e1 : matchB a b <;> cases e2 : matchB b a <;> simp_all
theorem inSet_eq (set : List S90) (x : S90) : inSet set x = set.any (matchB x) := rfl
theorem l1Has_ev (l : List Int) (a : Int) (hl : l.length ≤ 1048576) : Ev (fun k => spec_l1Has.f k l a) (l.any fun x => decide (x = a)) := by
  unfold spec_l1Has.f
  have key := Ev.down l.length (fun k i => spec_l1Has.l0 k l a (i : Int)) (fun i => (l.drop i).any fun x => decide (x = a))
    (by
      refine Ev.step (fun k => by rw [spec_l1Has.l0]) ?_
      simp only [Int.lt_irrefl, if_false, List.drop_length, List.any_nil]
      exact Ev.now _)
    (fun i hi ih => by
      refine Ev.step (fun k => by rw [spec_l1Has.l0]) ?_
      have a3 : (i : Int) < (l.length : Int) := by omega
      have a4 : (0 : Int) ≤ (i : Int) := by omega
      have a5 : rd l (i : Int) = l[i] := by simp [rd, List.getD_eq_getElem?_getD, List.getElem?_eq_getElem hi]
      simp only [a3, a4, a5, if_true, w64 i (by omega)]
      rw [List.drop_eq_getElem_cons hi, List.any_cons]
      by_cases h : l[i] = a
      · simp only [h, if_true, decide_true, Bool.true_or]
        exact Ev.now _
      · simp only [h, if_false, decide_false, Bool.false_or]
        exact ih)
  have h := key 0 (Nat.zero_le _)
  rw [List.drop_zero] at h
  exact h
/-- What is gone behind j of the set's relations. -/
def Gone (rs set : List S90) (gone : List Int) (j : Nat) : Prop := gone.length = j ∧ ∀ m, (hm : m < rs.length) → (gone.any fun g => decide (g = (m : Int))) = (set.take j).any (matchB rs[m])
theorem l6Resolves_ev (cs : List S76) (rs set : List S90) (gone : List Int) (hg : goodB cs rs = true) (hs : set.length ≤ 1048576) (hgo : Gone rs set gone set.length) : Ev (fun k => spec_l6Resolves.f k cs rs gone) (consB cs.length (lat cs (keepRels rs set))) := by
  obtain ⟨hn, hm, hin⟩ := goodB_parts hg
  obtain ⟨hgl, hga⟩ := hgo
  unfold spec_l6Resolves.f
  have key := Ev.down rs.length (fun k i => spec_l6Resolves.l0 k gone (i : Int) cs rs cs (keepRels (rs.take i) set)) (fun _ => consB cs.length (lat cs (keepRels rs set)))
    (by
      refine Ev.step (fun k => by rw [spec_l6Resolves.l0]) ?_
      simp only [Int.lt_irrefl, if_false, List.take_length]
      refine Ev.bind (l4Consistent_ev cs (keepRels rs set) hn (Nat.le_trans (keepRels_le _ _) hm) (relsIn_keep set hin)) ?_
      exact Ev.now _)
    (fun i hi ih => by
      refine Ev.step (fun k => by rw [spec_l6Resolves.l0]) ?_
      have a3 : (i : Int) < (rs.length : Int) := by omega
      have a4 : (0 : Int) ≤ (i : Int) := by omega
      have a5 : (keepRels (rs.take i) set).length < 8796093022208 := by have := keepRels_le (rs.take i) set; rw [List.length_take] at this; omega
      simp only [a3, a4, a5, if_true, w64 i (by omega), rdR rs i hi]
      refine Ev.bind (l1Has_ev gone (i : Int) (by omega)) ?_
      rw [hga i hi, List.take_length]
      have e : keepRels (rs.take (i + 1)) set = if (set.any (matchB rs[i])) = true then keepRels (rs.take i) set else keepRels (rs.take i) set ++ [rs[i]] := by
        unfold keepRels
        rw [List.take_succ_eq_append_getElem hi, List.filter_append, List.filter_cons, List.filter_nil, inSet_eq]
        cases h : set.any (matchB rs[i]) <;> simp
      rw [e] at ih
      cases h : set.any (matchB rs[i]) with
      | true =>
        simp only [h, if_true] at ih ⊢
        exact ih
      | false =>
        simp only [h, Bool.false_eq_true, if_false] at ih ⊢
        exact ih)
  have h := key 0 (Nat.zero_le _)
  exact h
def AtInv (rs : List S90) (y : S90) (at_ : Int) (i : Nat) : Prop := (at_ = -1 ∧ ∀ m, (hm : m < rs.length) → m < i → matchB rs[m] y = false) ∨ ∃ m, ∃ hm : m < rs.length, m < i ∧ at_ = (m : Int) ∧ matchB rs[m] y = true
theorem l1_down (cs : List S76) (rs set : List S90) (gone : List Int) (j : Nat) (hj : j < set.length) (hm : rs.length ≤ 24) (R : Bool × Bool) (hend : ∀ at_, AtInv rs set[j] at_ rs.length → Ev (fun k => spec_ResolvesRecord.l1 k set gone (j : Int) at_ (rs.length : Int) cs rs) R) : ∀ (d i : Nat) (at_ : Int), rs.length - i = d → i ≤ rs.length → AtInv rs set[j] at_ i → Ev (fun k => spec_ResolvesRecord.l1 k set gone (j : Int) at_ (i : Int) cs rs) R := by
  intro d
  induction d with
  | zero =>
    intro i at_ hd hi h
    obtain rfl : i = rs.length := by omega
    exact hend at_ h
  | succ d ih =>
    intro i at_ hd hi h
    have hlt : i < rs.length := by omega
    have a3 : (i : Int) < (rs.length : Int) := by omega
    have a4 : (0 : Int) ≤ (i : Int) := by omega
    have a5 : (j : Int) < (set.length : Int) := by omega
    have a6 : (0 : Int) ≤ (j : Int) := by omega
    refine Ev.step (fun k => by rw [spec_ResolvesRecord.l1]) ?_
    simp only [a3, a4, a5, a6, if_true, w64 i (by omega), rdR rs i hlt, rdR set j hj]
    cases hb : matchB rs[i] set[j] with
    | true =>
      have hb' : (rs[i].f0 == set[j].f0 && rs[i].f1 == set[j].f1) = true := hb
      simp only [hb', if_true]
      exact ih (i + 1) (i : Int) (by omega) (by omega) (.inr ⟨i, hlt, by omega, rfl, hb⟩)
    | false =>
      have hb' : (rs[i].f0 == set[j].f0 && rs[i].f1 == set[j].f1) = false := hb
      simp only [hb', Bool.false_eq_true, if_false]
      refine ih (i + 1) at_ (by omega) (by omega) ?_
      rcases h with ⟨h1, h2⟩ | ⟨m, hm1, hm2, hm3, hm4⟩
      · refine .inl ⟨h1, fun m hm1 hm2 => ?_⟩
        by_cases e : m = i
        · subst e; exact hb
        · exact h2 m hm1 (by omega)
      · exact .inr ⟨m, hm1, by omega, hm3, hm4⟩
theorem sorted_match {rs : List S90} (hp : rs.Pairwise (fun a b => before a b = true)) (m n : Nat) (hm : m < rs.length) (hn : n < rs.length) (y : S90) (h1 : matchB rs[m] y = true) (h2 : matchB rs[n] y = true) : m = n := by
  have e1 := (matchB_iff _ _).1 h1
  have e2 := (matchB_iff _ _).1 h2
  have irr : ∀ a : S90, ¬ before a a = true := fun a h => by
    rw [before_iff] at h
    omega
  rw [List.pairwise_iff_getElem] at hp
  rcases Nat.lt_trichotomy m n with h | h | h
  · have := hp m n hm hn h
    rw [e1, e2] at this
    exact absurd this (irr _)
  · exact h
  · have := hp n m hn hm h
    rw [e1, e2] at this
    exact absurd this (irr _)
theorem contains_eq (rs : List S90) (y : S90) (hm : rs.length ≤ 24) : impl_Relation_96.f rs y.f0 y.f1 = some (rs.any (matchB y)) := by
  unfold impl_Relation_96.f
  rw [if_pos (by omega)]
  rfl
theorem gone_step {rs set : List S90} {gone : List Int} {j m : Nat} (hp : rs.Pairwise (fun a b => before a b = true)) (hj : j < set.length) (hgo : Gone rs set gone j) (hm : m < rs.length) (hmt : matchB rs[m] set[j] = true) : Gone rs set (gone ++ [(m : Int)]) (j + 1) := by
  refine ⟨by rw [List.length_append, hgo.1]; rfl, fun i hi => ?_⟩
  rw [List.any_append, hgo.2 i hi, List.take_succ_eq_append_getElem hj, List.any_append]
  congr 1
  simp only [List.any_cons, List.any_nil, Bool.or_false]
  cases hb : matchB rs[i] set[j] with
  | true =>
    have e := sorted_match hp m i hm hi set[j] hmt hb
    simp [e]
  | false =>
    have e : ¬ (m : Int) = (i : Int) := by
      intro e
      have e2 : m = i := by omega
      subst e2
      rw [hmt] at hb
      exact absurd hb (by decide)
    simp [e]
theorem both (cs : List S76) (rs set : List S90) (hg : goodB cs rs = true) (hs : set.length ≤ 1048576) : ∀ (d j : Nat) (gone : List Int), set.length - j = d → j ≤ set.length → Gone rs set gone j →
    ∃ r, Ev (fun k => impl_ResolvesRecord.l0 k set set (set.length : Int) (j : Int) cs rs) r ∧ Ev (fun k => spec_ResolvesRecord.l0 k set gone (j : Int) cs rs) r := by
  obtain ⟨hn, hm, hin⟩ := goodB_parts hg
  have hp := (goodB_sorted hg).2
  intro d
  induction d with
  | zero =>
    intro j gone hd hj hgo
    obtain rfl : j = set.length := by omega
    refine ⟨(consB cs.length (lat cs (keepRels rs set)), true), ?_, ?_⟩
    · refine Ev.step (fun k => by rw [impl_ResolvesRecord.l0]) ?_
      have e : impl_resolves.f cs rs set = some (consB cs.length (lat cs (keepRels rs set))) := by
        unfold impl_resolves.f
        exact if_pos ⟨hn, hm, hs, relsInB_iff.2 hin⟩
      simp only [Int.lt_irrefl, if_false, e, Option.bind_some]
      exact Ev.now _
    · refine Ev.step (fun k => by rw [spec_ResolvesRecord.l0]) ?_
      simp only [Int.lt_irrefl, if_false]
      refine Ev.bind (l6Resolves_ev cs rs set gone hg hs hgo) ?_
      exact Ev.now _
  | succ d ih =>
    intro j gone hd hj hgo
    have hlt : j < set.length := by omega
    have a3 : (j : Int) < (set.length : Int) := by omega
    have a4 : (0 : Int) ≤ (j : Int) := by omega
    have a5 : gone.length < 17592186044416 := by have := hgo.1; omega
    cases hc : rs.any (matchB set[j]) with
    | false =>
      refine ⟨(false, false), ?_, ?_⟩
      · refine Ev.step (fun k => by rw [impl_ResolvesRecord.l0]) ?_
        simp only [a3, a4, if_true, rdR set j hlt, contains_eq rs set[j] hm, hc, Option.bind_some, Bool.false_eq_true, if_false]
        exact Ev.now _
      · refine Ev.step (fun k => by rw [spec_ResolvesRecord.l0]) ?_
        simp only [a3, if_true]
        refine l1_down cs rs set gone j hlt hm _ (fun at_ h => ?_) rs.length 0 (-1) (by omega) (Nat.zero_le _) (.inl ⟨rfl, fun m _ h => absurd h (Nat.not_lt_zero _)⟩)
        rcases h with ⟨rfl, _⟩ | ⟨m, hm1, _, _, hm4⟩
        · refine Ev.step (fun k => by rw [spec_ResolvesRecord.l1]) ?_
          simp only [Int.lt_irrefl, if_false, show (-1 : Int) < 0 by decide, if_true]
          exact Ev.now _
        · exfalso
          rw [List.any_eq_false] at hc
          have := hc _ (List.getElem_mem hm1)
          rw [matchB_comm] at this
          exact this hm4
    | true =>
      have hstart : ∀ R : Bool × Bool, (∀ m, (hm1 : m < rs.length) → matchB rs[m] set[j] = true → Ev (fun k => spec_ResolvesRecord.l1 k set gone (j : Int) (m : Int) (rs.length : Int) cs rs) R) → Ev (fun k => spec_ResolvesRecord.l0 k set gone (j : Int) cs rs) R := by
        intro R hR
        refine Ev.step (fun k => by rw [spec_ResolvesRecord.l0]) ?_
        simp only [a3, if_true]
        refine l1_down cs rs set gone j hlt hm _ (fun at_ h => ?_) rs.length 0 (-1) (by omega) (Nat.zero_le _) (.inl ⟨rfl, fun m _ h => absurd h (Nat.not_lt_zero _)⟩)
        rcases h with ⟨rfl, hno⟩ | ⟨m, hm1, _, rfl, hm4⟩
        · exfalso
          rw [List.any_eq_true] at hc
          obtain ⟨x, hx, hxm⟩ := hc
          obtain ⟨m, hm1, rfl⟩ := List.mem_iff_getElem.1 hx
          have := hno m hm1 hm1
          rw [matchB_comm, hxm] at this
          exact absurd this (by decide)
        · exact hR m hm1 hm4
      obtain ⟨x, hx, hxm⟩ := List.any_eq_true.1 hc
      obtain ⟨m0, hm0, rfl⟩ := List.mem_iff_getElem.1 hx
      rw [matchB_comm] at hxm
      cases j with
      | zero =>
        obtain ⟨r, h1, h2⟩ := ih 1 (gone ++ [(m0 : Int)]) (by omega) (by omega) (gone_step hp hlt hgo hm0 hxm)
        refine ⟨r, ?_, hstart r (fun m hm1 hmt => ?_)⟩
        · refine Ev.step (fun k => by rw [impl_ResolvesRecord.l0]) ?_
          have e0 : ¬ ((0 : Nat) : Int) > 0 := by omega
          simp only [a3, a4, if_true, rdR set 0 hlt, contains_eq rs set[0] hm, hc, Option.bind_some, e0, if_false, w64 0 (by omega)]
          exact h1
        · obtain rfl := sorted_match hp m m0 hm1 hm0 _ hmt hxm
          refine Ev.step (fun k => by rw [spec_ResolvesRecord.l1]) ?_
          have e0 : ¬ ((0 : Nat) : Int) > 0 := by omega
          have e1 : ¬ (m : Int) < 0 := by omega
          simp only [Int.lt_irrefl, if_false, e0, e1, a5, if_true, w64 0 (by omega)]
          exact h2
      | succ j' =>
        have hlt' : j' < set.length := by omega
        have e0 : ((j' + 1 : Nat) : Int) > 0 := by omega
        have e2 : (0 : Int) ≤ (j' : Int) := by omega
        have e3 : (j' : Int) < (set.length : Int) := by omega
        have hcm := cmpR_ge set[j'] set[j' + 1]
        cases hbf : before set[j'] set[j' + 1] with
        | false =>
          have hge : cmpR set[j'] set[j' + 1] ≥ 0 := by rw [hcm, hbf]; simp
          refine ⟨(false, false), ?_, hstart _ (fun m hm1 hmt => ?_)⟩
          · refine Ev.step (fun k => by rw [impl_ResolvesRecord.l0]) ?_
            simp only [a3, a4, if_true, rdR set (j' + 1) hlt, contains_eq rs set[j' + 1] hm, hc, Option.bind_some, e0, w64p j' (by omega), e2, e3, rdR set j' hlt']
            refine Ev.bind (compareR_ev set[j'] set[j' + 1]) ?_
            simp only [hge, if_true]
            exact Ev.now _
          · refine Ev.step (fun k => by rw [spec_ResolvesRecord.l1]) ?_
            have e1 : ¬ (m : Int) < 0 := by omega
            simp only [Int.lt_irrefl, if_false, e0, e1, a3, a4, if_true, w64p j' (by omega), e2, e3, rdR set j' hlt', rdR set (j' + 1) hlt, l2Before_eq, hbf, Option.bind_some, Bool.false_eq_true]
            exact Ev.now _
        | true =>
          have hge : ¬ cmpR set[j'] set[j' + 1] ≥ 0 := by rw [hcm, hbf]; simp
          obtain ⟨r, h1, h2⟩ := ih (j' + 1 + 1) (gone ++ [(m0 : Int)]) (by omega) (by omega) (gone_step hp hlt hgo hm0 hxm)
          refine ⟨r, ?_, hstart r (fun m hm1 hmt => ?_)⟩
          · refine Ev.step (fun k => by rw [impl_ResolvesRecord.l0]) ?_
            simp only [a3, a4, if_true, rdR set (j' + 1) hlt, contains_eq rs set[j' + 1] hm, hc, Option.bind_some, e0, w64p j' (by omega), e2, e3, rdR set j' hlt']
            refine Ev.bind (compareR_ev set[j'] set[j' + 1]) ?_
            simp only [hge, if_false, w64 (j' + 1) (by omega)]
            exact h1
          · obtain rfl := sorted_match hp m m0 hm1 hm0 _ hmt hxm
            refine Ev.step (fun k => by rw [spec_ResolvesRecord.l1]) ?_
            have e1 : ¬ (m : Int) < 0 := by omega
            simp only [Int.lt_irrefl, if_false, e0, e1, a3, a4, a5, if_true, w64p j' (by omega), e2, e3, rdR set j' hlt', rdR set (j' + 1) hlt, l2Before_eq, hbf, Option.bind_some, w64 (j' + 1) (by omega)]
            exact h2
theorem both_ev (cs : List S76) (rs set : List S90) (hs : set.length ≤ 1048576) : ∃ r, Ev (fun k => impl_ResolvesRecord.f k cs rs set) r ∧ Ev (fun k => spec_ResolvesRecord.f k cs rs set) r := by
  unfold impl_ResolvesRecord.f spec_ResolvesRecord.f
  simp only [spec_l2Good.f, impl_IsValidRecord.f, Option.bind_some]
  cases hg : goodB cs rs with
  | false =>
    simp only [Bool.false_eq_true, if_false]
    exact ⟨_, Ev.now _, Ev.now _⟩
  | true =>
    simp only [if_true]
    exact both cs rs set hg hs set.length 0 [] (by omega) (Nat.zero_le _) ⟨rfl, fun m hm => by simp⟩
theorem FnExactResolvesRecord : ∀ (l0_0 : List (S110)) (l0_1 : List (S102)) (l1 : List (S102)), ((l0_0.length ≤ 9223372036854775807) ∧ ∀ y4 ∈ l0_0, ((Lit.int .i64 y4.f0).wf = true) ∧ ((Lit.int .i64 y4.f1).wf = true)) → ((l0_1.length ≤ 9223372036854775807) ∧ ∀ y4 ∈ l0_1, ((Lit.int .i64 y4.f0).wf = true) ∧ ((Lit.int .i64 y4.f1).wf = true)) → ((l1.length ≤ 9223372036854775807) ∧ ∀ y2 ∈ l1, ((Lit.int .i64 y2.f0).wf = true) ∧ ((Lit.int .i64 y2.f1).wf = true)) → ∃ k, laws_FnExactResolvesRecord.f k l0_0 l0_1 l1 = some true := by
  intro l0 l1 l2 g0 g1 g2
  obtain ⟨t, ht, hc⟩ := szRecord_eq l0 l1 g0.1 g1.1
  refine Ev.rounds ?_
  unfold laws_FnExactResolvesRecord.f
  rw [ht]
  simp only [Option.bind_some]
  rcases hc with hc | ⟨h0, h0', hl0, hl1⟩
  · simp only [hc, if_true]
    exact Ev.now _
  · have hn : ¬ t < 0 := by omega
    have hC : (l0.map cvC).length ≤ 1048576 := by rw [List.length_map]; exact hl0
    have hR : (l1.map cvR).length ≤ 1048576 := by rw [List.length_map]; exact hl1
    have g2' := g2.1
    simp only [hn, if_false]
    unfold laws_szRelationS.f
    have e1 : wrap64 (t - (l2.length : Int)) = t - (l2.length : Int) := by unfold wrap64; omega
    rw [e1]
    by_cases h2 : t - (l2.length : Int) < 0
    · simp only [h2, if_true, Option.bind_some, show (-1 : Int) < 0 by decide]
      exact Ev.now _
    · have hl2 : l2.length ≤ 1048576 := by omega
      have hS : (l2.map cvR).length ≤ 1048576 := by rw [List.length_map]; exact hl2
      simp only [h2, if_false, Option.bind_some]
      obtain ⟨r, hi, hs⟩ := both_ev (l0.map cvC) (l1.map cvR) (l2.map cvR) hS
      refine Ev.bind (toRecord_ev l0 l1 hl0 hl1) ?_
      refine Ev.bind (toRelationS_ev l2 hl2) ?_
      refine Ev.bind hs ?_
      refine Ev.bind (toRecord_ev l0 l1 hl0 hl1) ?_
      refine Ev.bind (toRelationS_ev l2 hl2) ?_
      refine Ev.bind hi ?_
      simp only [bne_self_eq_false, Bool.false_eq_true, if_false]
      refine Ev.step (fun k => by rw [laws_FnExactResolvesRecord.j0]) ?_
      simp only [Bool.false_eq_true, if_false]
      refine Ev.bind (toRecord_ev l0 l1 hl0 hl1) ?_
      refine Ev.bind (eqRecord_ev _ _ hC hR) ?_
      simp only [if_true]
      refine Ev.bind (toRelationS_ev l2 hl2) ?_
      refine Ev.bind (eqRelationS_ev _ hS) ?_
      simp only [if_true]
      exact Ev.now _
end Go.Proofs.Ytdpehkfjhfjobaa.Pure
