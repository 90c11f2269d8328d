/- The law FnExactCountCrossings answers true at every record and list of rows: CountCrossings of the program and of the reference agree. No conditions. -/
import Derived.Test.YtlbkoejpjpcgaaaQ0
import Derived.Test.YtlbkoejpjpcgaaaQF90
import Derived.Test.YtlbkoejpjpcgaaaQB0
import Derived.Test.YtlbkoejpjpcgaaaQB1
import Derived.Test.YtlbkoejpjpcgaaaQB2
import Derived.Test.YtlbkoejpjpcgaaaQF83
import Derived.Test.YtlbkoejpjpcgaaaQF84
import Derived.Test.YtlbkoejpjpcgaaaQF85
import Derived.Test.YtlbkoejpjpcgaaaQF87
import Derived.Test.YtlbkoejpjpcgaaaQF94
import Derived.Test.YtlbkoejpjpcgaaaQF88
import Derived.Test.YtlbkoejpjpcgaaaQF123
import Derived.Test.YtlbkoejpjpcgaaaQF95
import Derived.Test.YtlbkoejpjpcgaaaQF44
import Derived.Test.YtlbkoejpjpcgaaaQF91
import Derived.Test.YtlbkoejpjpcgaaaQF98
import Derived.Test.YtlbkoejpjpcgaaaQF125
import Derived.Test.YtlbkoejpjpcgaaaQF51
import Derived.Test.YtlbkoejpjpcgaaaQF45
import Derived.Test.YtlbkoejpjpcgaaaQF47
import Derived.Test.YtlbkoejpjpcgaaaQF54
import Derived.Test.YtlbkoejpjpcgaaaQF21
import Derived.Test.YtlbkoejpjpcgaaaQF104
import Derived.Test.YtlbkoejpjpcgaaaQF64
import Derived.Test.YtlbkoejpjpcgaaaQF63
import Derived.Test.YtlbkoejpjpcgaaaQV2
import Derived.Test.YtlbkoejpjpcgaaaQF66
import Derived.Test.YtlbkoejpjpcgaaaQF65
import Derived.Test.YtlbkoejpjpcgaaaQF108
import Derived.Test.YtlbkoejpjpcgaaaQF4
import Derived.Test.YtlbkoejpjpcgaaaQF19
import Derived.Test.YtlbkoejpjpcgaaaQF18
import Derived.Test.YtlbkoejpjpcgaaaQF20
import Derived.Test.YtlbkoejpjpcgaaaQF13
namespace Go.Proofs.Ytlbkoejpjpcgaaa.Pure
open Go.RowKit Go.Proofs.Ytlbkoejpjpcgaaa.Q Go.Proofs.YtlbkoejpjpcgaaaW.PrintWords
set_option linter.unusedVariables false
set_option linter.unusedSimpArgs false
/-- Going down from the end of a loop. -/
theorem Ev.down {α : Type} (n : Nat) (F : Nat → Nat → Option α) (R : Nat → α) (hend : Ev (fun k => F k n) (R n)) (hstep : ∀ i, i < n → Ev (fun k => F k (i + 1)) (R (i + 1)) → Ev (fun k => F k i) (R i)) : ∀ i, i ≤ n → Ev (fun k => F k i) (R i) := by
  have key : ∀ d i, n - i = d → i ≤ n → Ev (fun k => F k i) (R i) := by
    intro d
    induction d with
    | zero =>
      intro i hd hi
      obtain rfl : i = n := by omega
      exact hend
    | succ d ih => intro i hd hi; exact hstep i (by omega) (ih (i + 1) (by omega) (by omega))
  intro i hi
  exact key (n - i) i rfl hi
theorem Ev.some {α : Type} (r : α) : Ev (fun _ => Option.some r) r := Ev.now r
theorem w64 (i : Nat) (h : i ≤ 4611686018427387904) : wrap64 ((i : Int) + 1) = ((i + 1 : Nat) : Int) := by unfold wrap64; omega
theorem rdC (l : List S108) (i : Nat) (h : i < l.length) : rd_T108 l (i : Int) = l[i] := by simp [rd_T108, List.getD_eq_getElem?_getD, List.getElem?_eq_getElem h]
theorem rdR (l : List S100) (i : Nat) (h : i < l.length) : rd_T100 l (i : Int) = l[i] := by simp [rd_T100, List.getD_eq_getElem?_getD, List.getElem?_eq_getElem h]
theorem rdCl (l : List S118) (i : Nat) (h : i < l.length) : rd_T118 l (i : Int) = l[i] := by simp [rd_T118, List.getD_eq_getElem?_getD, List.getElem?_eq_getElem h]
theorem rdRl (l : List S120) (i : Nat) (h : i < l.length) : rd_T120 l (i : Int) = l[i] := by simp [rd_T120, List.getD_eq_getElem?_getD, List.getElem?_eq_getElem h]
theorem getDC (cs : List S108) (i : Nat) (h : i < cs.length) : cs.getD i z108 = cs[i] := by simp [List.getD_eq_getElem?_getD, List.getElem?_eq_getElem h]
def cvC (x : S118) : S108 := ⟨x.f0, x.f1⟩
def cvR (x : S120) : S100 := ⟨x.f0, x.f1⟩
theorem acc_step {α β : Type} (f : α → β) (z : β) (l : List α) (i : Nat) (hi : i < l.length) : ((l.take i).map f ++ List.replicate (l.length - i) z).set i (f l[i]) = (l.take (i + 1)).map f ++ List.replicate (l.length - (i + 1)) z := by
  have h1 : ((l.take i).map f).length = i := by rw [List.length_map, List.length_take]; omega
  rw [List.set_append_right _ _ (by omega), h1, Nat.sub_self]
  obtain ⟨m, hm⟩ : ∃ m, l.length - i = m + 1 := ⟨l.length - i - 1, by omega⟩
  rw [hm, List.replicate_succ, List.set_cons_zero, List.take_succ_eq_append_getElem hi, List.map_append, show l.length - (i + 1) = m by omega]
  simp
theorem toContextS_ev (l : List S118) (hl : l.length ≤ 1048576) : Ev (fun k => laws_toContextS.f k l) (l.map cvC) := by
  unfold laws_toContextS.f
  have h1 : (0 : Int) ≤ (l.length : Int) := by omega
  have h2 : l.length ≤ 17592186044416 := by omega
  simp only [h1, if_true, Int.toNat_natCast, h2]
  have key := Ev.down l.length (fun k i => laws_toContextS.l0 k l ((l.take i).map cvC ++ List.replicate (l.length - i) z108) (i : Int)) (fun _ => l.map cvC)
    (by
      refine Ev.step (fun k => by rw [laws_toContextS.l0]) ?_
      simp only [Int.lt_irrefl, if_false, List.take_length, Nat.sub_self, List.replicate_zero, List.append_nil]
      exact Ev.now _)
    (fun i hi ih => by
      refine Ev.step (fun k => by rw [laws_toContextS.l0]) ?_
      have h1 : (i : Int) < (l.length : Int) := by omega
      have h2 : (0 : Int) ≤ (i : Int) := by omega
      have h3 : (i : Int) < ((((l.take i).map cvC ++ List.replicate (l.length - i) z108).length : Nat) : Int) := by
        rw [List.length_append, List.length_map, List.length_take, List.length_replicate]
        omega
      simp only [h1, h2, h3, if_true, rdCl l i hi, laws_toContext.f, Option.bind_some, w64 i (by omega), Int.toNat_natCast]
      have e := acc_step cvC z108 l i hi
      unfold cvC at e ih ⊢
      rw [e]
      exact ih)
  have h0 := key 0 (Nat.zero_le _)
  simpa using h0
theorem toRelationS_ev (l : List S120) (hl : l.length ≤ 1048576) : Ev (fun k => laws_toRelationS.f k l) (l.map cvR) := by
  unfold laws_toRelationS.f
  have h1 : (0 : Int) ≤ (l.length : Int) := by omega
  have h2 : l.length ≤ 17592186044416 := by omega
  simp only [h1, if_true, Int.toNat_natCast, h2]
  have key := Ev.down l.length (fun k i => laws_toRelationS.l0 k l ((l.take i).map cvR ++ List.replicate (l.length - i) z100) (i : Int)) (fun _ => l.map cvR)
    (by
      refine Ev.step (fun k => by rw [laws_toRelationS.l0]) ?_
      simp only [Int.lt_irrefl, if_false, List.take_length, Nat.sub_self, List.replicate_zero, List.append_nil]
      exact Ev.now _)
    (fun i hi ih => by
      refine Ev.step (fun k => by rw [laws_toRelationS.l0]) ?_
      have h1 : (i : Int) < (l.length : Int) := by omega
      have h2 : (0 : Int) ≤ (i : Int) := by omega
      have h3 : (i : Int) < ((((l.take i).map cvR ++ List.replicate (l.length - i) z100).length : Nat) : Int) := by
        rw [List.length_append, List.length_map, List.length_take, List.length_replicate]
        omega
      simp only [h1, h2, h3, if_true, rdRl l i hi, laws_toRelation.f, Option.bind_some, w64 i (by omega), Int.toNat_natCast]
      have e := acc_step cvR z100 l i hi
      unfold cvR at e ih ⊢
      rw [e]
      exact ih)
  have h0 := key 0 (Nat.zero_le _)
  simpa using h0
theorem toRecord_ev (l0 : List S118) (l1 : List S120) (h0 : l0.length ≤ 1048576) (h1 : l1.length ≤ 1048576) : Ev (fun k => laws_toRecord.f k l0 l1) (l0.map cvC, l1.map cvR) := by
  unfold laws_toRecord.f
  refine Ev.bind (toContextS_ev l0 h0) ?_
  refine Ev.bind (toRelationS_ev l1 h1) ?_
  exact Ev.now _
theorem eqContextS_ev (a : List S108) (ha : a.length ≤ 1048576) : Ev (fun k => laws_eqContextS.f k a a) true := by
  unfold laws_eqContextS.f
  simp only [if_true]
  have key := Ev.down a.length (fun k i => laws_eqContextS.l0 k a a (i : Int)) (fun _ => true)
    (by
      refine Ev.step (fun k => by rw [laws_eqContextS.l0]) ?_
      simp only [Int.lt_irrefl, if_false]
      exact Ev.now _)
    (fun i hi ih => by
      refine Ev.step (fun k => by rw [laws_eqContextS.l0]) ?_
      have h1 : (i : Int) < (a.length : Int) := by omega
      have h2 : (0 : Int) ≤ (i : Int) := by omega
      simp only [h1, h2, if_true, laws_eqContext.f, Option.bind_some, w64 i (by omega)]
      exact ih)
  exact key 0 (Nat.zero_le _)
theorem eqRelationS_ev (a : List S100) (ha : a.length ≤ 1048576) : Ev (fun k => laws_eqRelationS.f k a a) true := by
  unfold laws_eqRelationS.f
  simp only [if_true]
  have key := Ev.down a.length (fun k i => laws_eqRelationS.l0 k a a (i : Int)) (fun _ => true)
    (by
      refine Ev.step (fun k => by rw [laws_eqRelationS.l0]) ?_
      simp only [Int.lt_irrefl, if_false]
      exact Ev.now _)
    (fun i hi ih => by
      refine Ev.step (fun k => by rw [laws_eqRelationS.l0]) ?_
      have h1 : (i : Int) < (a.length : Int) := by omega
      have h2 : (0 : Int) ≤ (i : Int) := by omega
      simp only [h1, h2, if_true, laws_eqRelation.f, Option.bind_some, w64 i (by omega)]
      exact ih)
  exact key 0 (Nat.zero_le _)
theorem eqRecord_ev (a : List S108) (b : List S100) (ha : a.length ≤ 1048576) (hb : b.length ≤ 1048576) : Ev (fun k => laws_eqRecord.f k a b a b) true := by
  unfold laws_eqRecord.f
  refine Ev.bind (eqContextS_ev a ha) ?_
  simp only [if_true]
  refine Ev.bind (eqRelationS_ev b hb) ?_
  simp only [if_true]
  exact Ev.now _
/-- What the law's first test lets by: at most 2^20 contexts and relations. -/
theorem szRecord_eq (l0 : List S118) (l1 : List S120) (g0 : l0.length ≤ 9223372036854775807) (g1 : l1.length ≤ 9223372036854775807) :
    ∃ t, laws_szRecord.f l0 l1 1048576 = some t ∧ (t < 0 ∨ (0 ≤ t ∧ t ≤ 1048576 ∧ l0.length ≤ 1048576 ∧ l1.length ≤ 1048576)) := by
  unfold laws_szRecord.f laws_szContextS.f laws_szRelationS.f
  have e0 : wrap64 (1048576 - (l0.length : Int)) = 1048576 - (l0.length : Int) := by unfold wrap64; omega
  rw [e0]
  by_cases h0 : (1048576 - (l0.length : Int)) < 0
  · exact ⟨-1, by simp [h0], .inl (by omega)⟩
  · have e1 : wrap64 (1048576 - (l0.length : Int) - (l1.length : Int)) = 1048576 - (l0.length : Int) - (l1.length : Int) := by unfold wrap64; omega
    simp only [h0, if_false, Option.bind_some, e1]
    by_cases h1 : (1048576 - (l0.length : Int) - (l1.length : Int)) < 0
    · exact ⟨-1, by simp [h1], .inl (by omega)⟩
    · exact ⟨1048576 - (l0.length : Int) - (l1.length : Int), by simp [h1], .inr (by omega)⟩
theorem rdI (l : List Int) (i : Nat) (h : i < l.length) : rd l (i : Int) = l[i] := by simp [rd, List.getD_eq_getElem?_getD, List.getElem?_eq_getElem h]
theorem eqIntS_ev (a : List Int) (ha : a.length ≤ 1048576) : Ev (fun k => laws_eqIntS.f k a a) true := by
  unfold laws_eqIntS.f
  simp only [if_true]
  exact Ev.down a.length (fun k i => laws_eqIntS.l0 k a a (i : Int)) (fun _ => true)
    (by
      refine Ev.step (fun k => by rw [laws_eqIntS.l0]) ?_
      simp only [Int.lt_irrefl, if_false]
      exact Ev.now _)
    (fun i hi ih => by
      refine Ev.step (fun k => by rw [laws_eqIntS.l0]) ?_
      have a3 : (i : Int) < (a.length : Int) := by omega
      have a4 : (0 : Int) ≤ (i : Int) := by omega
      simp only [a3, a4, if_true, w64 i (by omega)]
      exact ih) 0 (Nat.zero_le _)
/-- A matrix as a list of sets, each as bits. -/
def masks (n : Nat) (M : Nat → Nat → Bool) : List Int := (List.range n).map fun i => ((mask n (M i) : Nat) : Int)
theorem masks_length (n : Nat) (M : Nat → Nat → Bool) : (masks n M).length = n := by simp [masks]
theorem masks_ext {n : Nat} {M M' : Nat → Nat → Bool} (h : ∀ a b, a < n → b < n → M a b = M' a b) : masks n M = masks n M' := by
  unfold masks
  apply List.map_congr_left
  intro a ha
  rw [mask_ext (fun b hb => h a b (List.mem_range.1 ha) hb)]
theorem masks_rd {n : Nat} {M : Nat → Nat → Bool} {a : Nat} (ha : a < n) : rd (masks n M) (a : Int) = ((mask n (M a) : Nat) : Int) := by
  simp [rd, masks, List.getD_eq_getElem?_getD, ha]
theorem masks_set {n : Nat} {M : Nat → Nat → Bool} {a : Nat} (p : Nat → Bool) : (masks n M).set a ((mask n p : Nat) : Int) = masks n (fun x => if x = a then p else M x) := by
  apply List.ext_getElem (by simp [masks])
  intro i h1 h2
  simp only [masks, List.length_map, List.length_range, List.length_set] at h1 h2
  simp only [masks, List.getElem_set, List.getElem_map, List.getElem_range]
  by_cases e : a = i
  · subst e; simp
  · have e2 : ¬ i = a := fun h => e h.symm
    simp [e, e2]
theorem masks_none (n : Nat) : masks n (fun _ _ => false) = List.replicate n 0 := by
  apply List.ext_getElem (by simp [masks])
  intro i h1 h2
  simp [masks, mask_zero]
theorem wrap_i64_small (n : Int) (h0 : 0 ≤ n) (h1 : n < 2 ^ 62) : IntKind.i64.wrap n = n := by
  have h2 : n < 4611686018427387904 := h1
  rw [IntKind.wrap_i64]; omega
theorem mask_lt62 (n : Nat) (p : Nat → Bool) (hn : n ≤ 62) : mask n p < 2 ^ 62 := Nat.lt_of_lt_of_le (mask_lt n p) (Nat.pow_le_pow_right (by decide) hn)
theorem or_masks (n : Nat) (p q : Nat → Bool) (hn : n ≤ 62) : Go.bits .or .i64 ((mask n p : Nat) : Int) ((mask n q : Nat) : Int) = ((mask n (fun i => p i || q i) : Nat) : Int) := by
  rw [(bits_nat .i64 62 (by decide) wrap_i64_small _ _ (mask_lt62 n p hn) (mask_lt62 n q hn)).2, mask_or]
theorem u64_small (i : Nat) (hi : i < 64) : IntKind.u64.wrap (i : Int) = (i : Int) := by
  simp only [IntKind.wrap, IntKind.bits, IntKind.signed]
  simp
  omega
theorem shl_mask (n b : Nat) (hb : b < n) (hn : n ≤ 62) : shl .i64 1 (b : Int) = ((mask n (fun i => decide (i = b)) : Nat) : Int) := by
  rw [← mask_one hb]
  unfold shl
  have h1 : min (b : Int).toNat IntKind.i64.bits = b := by
    have : IntKind.i64.bits = 64 := rfl
    rw [this, Int.toNat_natCast]; omega
  rw [h1, Int.one_mul, Nat.one_shiftLeft]
  have h2 : (2 : Int) ^ b = ((2 ^ b : Nat) : Int) := by simp
  rw [h2]
  apply wrap_i64_small _ (Int.natCast_nonneg _)
  have h3 : 2 ^ b < 2 ^ 62 := Nat.pow_lt_pow_right (by decide) (by omega)
  exact_mod_cast h3
theorem bit_mask (n i : Nat) (p : Nat → Bool) (hn : n ≤ 62) (hi : i < 64) : Go.bits .and .i64 (shr .i64 ((mask n p : Nat) : Int) (i : Int)) 1 = if decide (i < n) && p i then 1 else 0 := by
  unfold shr
  have h1 : min (i : Int).toNat IntKind.i64.bits = i := by
    have : IntKind.i64.bits = 64 := rfl
    rw [this, Int.toNat_natCast]; omega
  rw [h1]
  have h2 : (2 : Int) ^ i = ((2 ^ i : Nat) : Int) := by simp
  rw [h2, ← Int.natCast_ediv]
  have h3 : mask n p / 2 ^ i < 2 ^ 62 := Nat.lt_of_le_of_lt (Nat.div_le_self _ _) (mask_lt62 n p hn)
  have h4 := (bits_nat .i64 62 (by decide) wrap_i64_small (mask n p / 2 ^ i) 1 h3 (by decide)).1
  rw [show ((1 : Nat) : Int) = 1 from rfl] at h4
  rw [h4, Nat.and_one_is_mod]
  have h5 := mask_bit p n i
  rw [Nat.testBit_eq_decide_div_mod_eq] at h5
  rw [← h5]
  by_cases h6 : mask n p / 2 ^ i % 2 = 1
  · simp [h6]
  · have : mask n p / 2 ^ i % 2 = 0 := by omega
    simp [this]
theorem l4Bit_mask (n i : Nat) (p : Nat → Bool) (hn : n ≤ 62) (hi : i < 64) : spec_l4Bit.f ((mask n p : Nat) : Int) (i : Int) = some (decide (i < n) && p i) := by
  unfold spec_l4Bit.f
  rw [u64_small i hi, if_pos (by omega), bit_mask n i p hn hi]
  cases (decide (i < n) && p i) <;> rfl
theorem l4Bit_masks (n i k : Nat) (M : Nat → Nat → Bool) (hn : n ≤ 62) (hi : i < n) (hk : k < n) : spec_l4Bit.f (rd (masks n M) (i : Int)) (k : Int) = some (M i k) := by
  rw [masks_rd hi, l4Bit_mask n k (M i) hn (by omega)]
  simp [hk]
theorem later_l1 (A : Nat → Nat → Bool) (n : Nat) (hn : n ≤ 10) : ∀ (d j : Nat), n - j = d → j ≤ n → Ev (fun k => spec_l4Later.l1 k (masks n (rch A j)) (j : Int)) (masks n (rch A n)) := by
  intro d
  induction d with
  | zero =>
    intro j hd hj
    obtain rfl : j = n := by omega
    refine Ev.step (fun q => by rw [spec_l4Later.l1]) ?_
    simp only [masks_length, Int.lt_irrefl, if_false]
    exact Ev.now _
  | succ d ih =>
    intro j hd hj
    have h1 : (j : Int) < (n : Int) := by omega
    refine Ev.step (fun q => by rw [spec_l4Later.l1]) ?_
    simp only [masks_length, h1, if_true]
    have inner : ∀ (e i : Nat), n - i = e → i ≤ n → Ev (fun k => spec_l4Later.l2 k (masks n (fun x => if x < i then rch A (j + 1) x else rch A j x)) (j : Int) (i : Int)) (masks n (rch A n)) := by
      intro e
      induction e with
      | zero =>
        intro i he hi
        obtain rfl : i = n := by omega
        refine Ev.step (fun q => by rw [spec_l4Later.l2]) ?_
        simp only [masks_length, Int.lt_irrefl, if_false, w64 j (by omega)]
        rw [masks_ext (M' := rch A (j + 1)) (fun a b ha _ => by simp [ha])]
        exact ih (j + 1) (by omega) (by omega)
      | succ e ih2 =>
        intro i he hi
        have hil : i < n := by omega
        have h2 : (i : Int) < (n : Int) := by omega
        have h3 : (0 : Int) ≤ (i : Int) := by omega
        have h4 : (0 : Int) ≤ (j : Int) := by omega
        refine Ev.step (fun q => by rw [spec_l4Later.l2]) ?_
        simp only [masks_length, h1, h2, h3, h4, if_true, u64_small j (by omega), masks_rd hil, masks_rd (show j < n by omega), w64 i (by omega), Int.toNat_natCast]
        rw [if_neg (show ¬ i < i by omega), bit_mask n j _ (by omega) (by omega)]
        have hjn : decide (j < n) = true := decide_eq_true (by omega)
        rw [hjn, Bool.true_and]
        have next := ih2 (i + 1) (by omega) (by omega)
        by_cases hb : rch A j i j = true
        · simp only [hb, if_true, or_masks n _ _ (show n ≤ 62 by omega), masks_set]
          rw [masks_ext (M' := fun x => if x < i + 1 then rch A (j + 1) x else rch A j x) (fun a b _ _ => ?_)]
          · exact next
          · by_cases e1 : a = i
            · subst e1
              have e2 : (if j < a then rch A (j + 1) j else rch A j j) b = rch A j j b := by
                split
                · exact rch_row A j b
                · rfl
              simp only [eq_self, if_true]
              rw [e2, if_pos (show a < a + 1 by omega)]
              simp only [rch, hb, Bool.true_and]
            · by_cases e2 : a < i
              · simp [e1, e2, show a < i + 1 by omega]
              · simp [e1, e2, show ¬ a < i + 1 by omega]
        · have hb' : rch A j i j = false := by simpa using hb
          simp only [hb', Bool.false_eq_true, if_false, show ¬ (0 : Int) = 1 by decide]
          rw [masks_ext (M' := fun x => if x < i + 1 then rch A (j + 1) x else rch A j x) (fun a b _ _ => ?_)]
          · exact next
          · by_cases e1 : a = i
            · subst e1
              simp [rch, hb']
            · by_cases e2 : a < i
              · simp [e2, show a < i + 1 by omega]
              · simp [e2, show ¬ a < i + 1 by omega]
    have h0 := inner n 0 (by omega) (by omega)
    simpa using h0
theorem l4Later_ev (cs : List S108) (rs : List S100) (hn : cs.length ≤ 10) (hm : rs.length ≤ 24) (hin : relsIn cs rs) : Ev (fun k => spec_l4Later.f k cs rs) (masks cs.length (lat cs rs)) := by
  unfold spec_l4Later.f
  simp only [show (0 : Int) ≤ (cs.length : Int) by omega, if_true, Int.toNat_natCast, show cs.length ≤ 35184372088832 by omega]
  have key := Ev.down rs.length (fun k i => spec_l4Later.l0 k (masks cs.length (abv cs (rs.take i))) (i : Int) cs rs) (fun _ => masks cs.length (lat cs rs))
    (by
      refine Ev.step (fun k => by rw [spec_l4Later.l0]) ?_
      simp only [Int.lt_irrefl, if_false, List.take_length]
      exact later_l1 (abv cs rs) cs.length hn cs.length 0 (by omega) (by omega))
    (fun i hi ih => by
      refine Ev.step (fun k => by rw [spec_l4Later.l0]) ?_
      have h1 : (i : Int) < (rs.length : Int) := by omega
      have h2 : (0 : Int) ≤ (i : Int) := by omega
      obtain ⟨a, ha, hal⟩ := find_nat cs rs[i].f0 (hin _ (List.getElem_mem hi)).1
      obtain ⟨b, hb, hbl⟩ := find_nat cs rs[i].f1 (hin _ (List.getElem_mem hi)).2
      have h3 : (0 : Int) ≤ (a : Int) := by omega
      have h4 : (a : Int) < (cs.length : Int) := by omega
      have h5 : (0 : Int) ≤ (b : Int) := by omega
      simp only [h1, h2, if_true, rdR rs i hi, find_f, ha, hb, Option.bind_some, h3, masks_length, h4, u64_small b (by omega), h5, w64 i (by omega), Int.toNat_natCast, masks_rd hal, shl_mask cs.length b hbl (by omega), or_masks cs.length _ _ (show cs.length ≤ 62 by omega), masks_set]
      have hs := abv_snoc cs (rs.take i) rs[i] a b ha hb
      rw [← List.take_succ_eq_append_getElem hi] at hs
      rw [masks_ext (M' := abv cs (rs.take (i + 1))) (fun x y _ _ => ?_)]
      · exact ih
      · rw [← hs]
        by_cases e1 : x = a
        · subst e1
          by_cases e2 : y = b
          · subst e2; simp
          · simp [e2]
        · simp [e1])
  have h0 := key 0 (Nat.zero_le _)
  have e0 : abv cs (rs.take 0) = fun _ _ => false := by
    funext a b; simp [abv]
  simp only [e0, masks_none] at h0
  exact h0
theorem find_at (cs : List S108) (a : Int) (i : Nat) (h : find cs a = (i : Int)) : i < cs.length ∧ (cs.getD i z108).f0 = a := by
  obtain ⟨k, hk, e, hp, _⟩ := idxI_found (fun c : S108 => c.f0 == a) z108 cs (by unfold find at h; omega)
  have : i = k := by unfold find at h; omega
  subst this
  exact ⟨hk, by simpa using hp⟩
theorem find_inj (cs : List S108) (a b : Int) (i : Nat) (h : find cs a = (i : Int)) (h' : find cs b = (i : Int)) : a = b := (find_at cs a i h).2.symm.trans (find_at cs b i h').2
theorem l4Consistent_ev (cs : List S108) (rs : List S100) (hn : cs.length ≤ 10) (hm : rs.length ≤ 24) (hin : relsIn cs rs) : Ev (fun k => spec_l4Consistent.f k cs rs) (consB cs.length (lat cs rs)) := by
  unfold spec_l4Consistent.f
  refine Ev.bind (l4Later_ev cs rs hn hm hin) ?_
  generalize lat cs rs = M
  have key : ∀ (d i : Nat), cs.length - i = d → i ≤ cs.length → (∀ j, j < i → M j j = false) → Ev (fun k => spec_l4Consistent.l0 k (masks cs.length M) (i : Int)) (consB cs.length M) := by
    intro d
    induction d with
    | zero =>
      intro i hd hi hA
      obtain rfl : i = cs.length := by omega
      refine Ev.step (fun q => by rw [spec_l4Consistent.l0]) ?_
      simp only [masks_length, Int.lt_irrefl, if_false]
      rw [consB_good hA]
      exact Ev.now _
    | succ d ih =>
      intro i hd hi hA
      have hlt : i < cs.length := by omega
      have a3 : (i : Int) < (cs.length : Int) := by omega
      have a4 : (0 : Int) ≤ (i : Int) := by omega
      refine Ev.step (fun q => by rw [spec_l4Consistent.l0]) ?_
      simp only [masks_length, a3, a4, if_true, w64 i (by omega)]
      rw [l4Bit_masks cs.length i i M (by omega) hlt hlt]
      simp only [Option.bind_some]
      cases hb : M i i with
      | true =>
        simp only [if_true]
        rw [consB_bad hlt hb]
        exact Ev.now _
      | false =>
        simp only [Bool.false_eq_true, if_false]
        exact ih (i + 1) (by omega) (by omega) (fun j hj => by
          by_cases e : j = i
          · subst e; exact hb
          · exact hA j (by omega))
  exact key cs.length 0 (by omega) (by omega) (fun j hj => absurd hj (Nat.not_lt_zero _))
theorem sorted_ext {α : Type} (lt : α → α → Prop) (irr : ∀ a, ¬ lt a a) (tr : ∀ a b c, lt a b → lt b c → lt a c) : ∀ (l1 l2 : List α), l1.Pairwise lt → l2.Pairwise lt → (∀ x, x ∈ l1 ↔ x ∈ l2) → l1 = l2
  | [], [], _, _, _ => rfl
  | [], b :: r2, _, _, h => absurd ((h b).2 (by simp)) (by simp)
  | a :: r1, [], _, _, h => absurd ((h a).1 (by simp)) (by simp)
  | a :: r1, b :: r2, h1, h2, h => by
    rw [List.pairwise_cons] at h1 h2
    have hab : a = b := by
      rcases List.mem_cons.1 ((h a).1 (by simp)) with e | e
      · exact e
      · rcases List.mem_cons.1 ((h b).2 (by simp)) with e2 | e2
        · exact e2.symm
        · exact absurd (tr _ _ _ (h1.1 b e2) (h2.1 a e)) (irr a)
    subst hab
    rw [sorted_ext lt irr tr r1 r2 h1.2 h2.2 (fun x => ?_)]
    constructor
    · intro hx
      rcases List.mem_cons.1 ((h x).1 (List.mem_cons_of_mem _ hx)) with e | e
      · subst e; exact absurd (h1.1 x hx) (irr x)
      · exact e
    · intro hx
      rcases List.mem_cons.1 ((h x).2 (List.mem_cons_of_mem _ hx)) with e | e
      · subst e; exact absurd (h2.1 x hx) (irr x)
      · exact e
theorem ctxOk_pair : ∀ (cs : List S108) (p : Option Int), ctxOk p cs = true → cs.Pairwise (fun a b => a.f0 < b.f0) ∧ (∀ q, p = some q → ∀ c, c ∈ cs → q < c.f0)
  | [], _, _ => ⟨List.Pairwise.nil, fun _ _ _ h => by simp at h⟩
  | c :: r, p, h => by
    simp only [ctxOk, Bool.and_eq_true] at h
    obtain ⟨h1, h2⟩ := ctxOk_pair r _ h.2
    refine ⟨List.pairwise_cons.2 ⟨fun d hd => h2 _ rfl d hd, h1⟩, fun q hq d hd => ?_⟩
    subst hq
    have hqc : q < c.f0 := by simpa using h.1.2
    rcases List.mem_cons.1 hd with rfl | hd
    · exact hqc
    · have := h2 _ rfl d hd; omega
theorem before_iff (a b : S100) : before a b = true ↔ a.f0 < b.f0 ∨ (a.f0 = b.f0 ∧ a.f1 < b.f1) := by simp [before]
theorem relOk_pair (cs : List S108) : ∀ (rs : List S100) (p : Option S100), relOk cs p rs = true → rs.Pairwise (fun a b => before a b = true) ∧ (∀ q, p = some q → ∀ c, c ∈ rs → before q c = true)
  | [], _, _ => ⟨List.Pairwise.nil, fun _ _ _ h => by simp at h⟩
  | c :: r, p, h => by
    simp only [relOk, Bool.and_eq_true] at h
    obtain ⟨h1, h2⟩ := relOk_pair cs r _ h.2
    refine ⟨List.pairwise_cons.2 ⟨fun d hd => h2 _ rfl d hd, h1⟩, fun q hq d hd => ?_⟩
    subst hq
    have hqc : before q c = true := by simpa using h.1.2
    rcases List.mem_cons.1 hd with rfl | hd
    · exact hqc
    · have h3 := h2 _ rfl d hd
      rw [before_iff] at hqc h3 ⊢
      omega
theorem goodB_sorted {cs : List S108} {rs : List S100} (h : goodB cs rs = true) : cs.Pairwise (fun a b => a.f0 < b.f0) ∧ rs.Pairwise (fun a b => before a b = true) := by
  simp only [goodB, Bool.and_eq_true] at h
  exact ⟨(ctxOk_pair cs _ h.1.2).1, (relOk_pair cs rs _ h.2).1⟩
theorem find_mono {cs : List S108} (hs : cs.Pairwise (fun a b => a.f0 < b.f0)) {a b : Int} {i k : Nat} (ha : find cs a = (i : Int)) (hb : find cs b = (k : Int)) (h : a < b) : i < k := by
  obtain ⟨hi, e1⟩ := find_at cs a i ha
  obtain ⟨hk, e2⟩ := find_at cs b k hb
  rw [getDC cs i hi] at e1
  rw [getDC cs k hk] at e2
  rcases Nat.lt_trichotomy i k with h1 | h1 | h1
  · exact h1
  · subst h1; omega
  · have := List.pairwise_iff_getElem.1 hs k i hk hi h1
    omega
def plt (a b : Nat × Nat) : Prop := a.1 < b.1 ∨ (a.1 = b.1 ∧ a.2 < b.2)
/-- All pairs below n, in order. -/
def allP (n : Nat) : List (Nat × Nat) := (List.range n).flatMap fun i => (List.range n).map fun k => (i, k)
theorem allP_sorted (n : Nat) : (allP n).Pairwise plt := by
  unfold allP
  rw [List.pairwise_flatMap]
  refine ⟨fun i _ => ?_, ?_⟩
  · rw [List.pairwise_map]
    exact List.pairwise_lt_range.imp (fun h => Or.inr ⟨rfl, h⟩)
  · refine List.pairwise_lt_range.imp (fun {i j} h => ?_)
    intro x hx y hy
    obtain ⟨a, _, rfl⟩ := List.mem_map.1 hx
    obtain ⟨b, _, rfl⟩ := List.mem_map.1 hy
    exact Or.inl h
theorem mem_allP {n : Nat} {x : Nat × Nat} : x ∈ allP n ↔ x.1 < n ∧ x.2 < n := by
  unfold allP
  rw [List.mem_flatMap]
  constructor
  · rintro ⟨i, hi, hx⟩
    obtain ⟨k, hk, rfl⟩ := List.mem_map.1 hx
    exact ⟨List.mem_range.1 hi, List.mem_range.1 hk⟩
  · intro h
    exact ⟨x.1, List.mem_range.2 h.1, List.mem_map.2 ⟨x.2, List.mem_range.2 h.2, rfl⟩⟩
def pairOf (cs : List S108) (x : S100) : Nat × Nat := ((find cs x.f0).toNat, (find cs x.f1).toNat)
theorem pairs_eq {cs : List S108} {rs : List S100} (h : goodB cs rs = true) : rs.map (pairOf cs) = (allP cs.length).filter fun x => abv cs rs x.1 x.2 := by
  obtain ⟨hn, hm, hin⟩ := goodB_parts h
  obtain ⟨hsc, hsr⟩ := goodB_sorted h
  refine sorted_ext plt (fun a h => by unfold plt at h; omega) (fun a b c h1 h2 => by unfold plt at *; omega) _ _ ?_ ((allP_sorted _).filter _) (fun x => ?_)
  · rw [List.pairwise_map]
    refine List.Pairwise.imp_of_mem (fun {a b} ha hb hab => ?_) hsr
    obtain ⟨i, hi, hil⟩ := find_nat cs a.f0 (hin a ha).1
    obtain ⟨k, hk, hkl⟩ := find_nat cs a.f1 (hin a ha).2
    obtain ⟨j, hj, hjl⟩ := find_nat cs b.f0 (hin b hb).1
    obtain ⟨m, hm', hml⟩ := find_nat cs b.f1 (hin b hb).2
    rw [before_iff] at hab
    unfold plt pairOf
    simp only [hi, hk, hj, hm', Int.toNat_natCast]
    rcases hab with h1 | ⟨h1, h2⟩
    · exact Or.inl (find_mono hsc hi hj h1)
    · rw [h1] at hi
      exact Or.inr ⟨by omega, find_mono hsc hk hm' h2⟩
  · rw [List.mem_map, List.mem_filter, mem_allP]
    constructor
    · rintro ⟨y, hy, rfl⟩
      obtain ⟨i, hi, hil⟩ := find_nat cs y.f0 (hin y hy).1
      obtain ⟨k, hk, hkl⟩ := find_nat cs y.f1 (hin y hy).2
      unfold pairOf
      simp only [hi, hk, Int.toNat_natCast]
      refine ⟨⟨hil, hkl⟩, ?_⟩
      unfold abv
      rw [List.any_eq_true]
      exact ⟨y, hy, by simp [hi, hk]⟩
    · rintro ⟨_, hx⟩
      unfold abv at hx
      obtain ⟨y, hy, h1⟩ := List.any_eq_true.1 hx
      simp only [Bool.and_eq_true, decide_eq_true_eq] at h1
      exact ⟨y, hy, by unfold pairOf; rw [h1.1, h1.2]; simp⟩
def updP (d : List Int) (x : Nat × Nat) : List Int := d.set x.2 (mx (d.getD x.2 0) (d.getD x.1 0 + 1))
theorem dRound_eq (M : Nat → Nat → Bool) (n : Nat) (d : List Int) : dRound M n d n = ((allP n).filter fun x => M x.1 x.2).foldl updP d := by
  unfold dRound allP
  rw [List.foldl_filter, List.foldl_flatMap]
  congr 1
  funext d i
  rw [List.foldl_map]
  rfl
def sRel (cs : List S108) (d : List Int) (rs : List S100) : List Int := rs.foldl (fun d x => updP d (pairOf cs x)) d
theorem sRel_round {cs : List S108} {rs : List S100} (h : goodB cs rs = true) (d : List Int) : sRel cs d rs = dRound (abv cs rs) cs.length d cs.length := by
  rw [dRound_eq, ← pairs_eq h, List.foldl_map]
  rfl
theorem updP_len (d : List Int) (x : Nat × Nat) : (updP d x).length = d.length := by simp [updP]
theorem upB_upd {d : List Int} {B : Nat} (h : upB B d) (x : Nat × Nat) : upB (B + 1) (updP d x) := by
  have := upB_step (M := fun _ _ => true) h x.1 x.2
  simpa [dStep, updP] using this
theorem l1Most_eq (a b : Int) : spec_l1Most.f a b = some (mx a b) := by
  unfold spec_l1Most.f mx
  by_cases h : a > b
  · have h' : ¬ a < b := by omega
    simp [h, h']
  · by_cases h2 : a < b
    · simp [h, h2]
    · have : a = b := by omega
      simp [this]
theorem rdN (d : List Int) (k : Nat) : rd d (k : Int) = d.getD k 0 := by simp [rd]
theorem depths_l1 (cs : List S108) (rs : List S100) (hn : cs.length ≤ 10) (hm : rs.length ≤ 24) (hin : relsIn cs rs) (x4 : Int) (out : List Int) : ∀ (m i : Nat), rs.length - i = m → i ≤ rs.length → ∀ d : List Int, d.length = cs.length → upB (1000 + i) d → Ev (fun k => spec_l5Depths.l0 k (sRel cs d (rs.drop i)) (wrap64 (x4 + 1)) cs rs) out → Ev (fun k => spec_l5Depths.l1 k d x4 (i : Int) cs rs) out := by
  intro m
  induction m with
  | zero =>
    intro i hd hi d hl hu hnext
    obtain rfl : i = rs.length := by omega
    refine Ev.step (fun q => by rw [spec_l5Depths.l1]) ?_
    simp only [Int.lt_irrefl, if_false]
    rw [List.drop_length] at hnext
    exact hnext
  | succ m ih =>
    intro i hd hi d hl hu hnext
    have hlt : i < rs.length := by omega
    have a3 : (i : Int) < (rs.length : Int) := by omega
    have a4 : (0 : Int) ≤ (i : Int) := by omega
    obtain ⟨a, ha, hal⟩ := find_nat cs rs[i].f0 (hin _ (List.getElem_mem hlt)).1
    obtain ⟨b, hb, hbl⟩ := find_nat cs rs[i].f1 (hin _ (List.getElem_mem hlt)).2
    have b1 : (0 : Int) ≤ (a : Int) := by omega
    have b2 : (a : Int) < (cs.length : Int) := by omega
    have b3 : (0 : Int) ≤ (b : Int) := by omega
    have b4 : (b : Int) < (cs.length : Int) := by omega
    have hua := hu a
    have e1 : wrap64 (d.getD a 0 + 1) = d.getD a 0 + 1 := by
      generalize d.getD a 0 = x at hua ⊢
      unfold wrap64; omega
    refine Ev.step (fun q => by rw [spec_l5Depths.l1]) ?_
    simp only [a3, a4, if_true, rdR rs i hlt, find_f, ha, hb, Option.bind_some, hl, b1, b2, b3, b4, rdN, e1, l1Most_eq, w64 i (by omega), Int.toNat_natCast]
    have hp : d.set b (mx (d.getD b 0) (d.getD a 0 + 1)) = updP d (pairOf cs rs[i]) := by
      unfold updP pairOf
      simp only [ha, hb, Int.toNat_natCast]
    rw [hp]
    refine ih (i + 1) (by omega) (by omega) _ (by rw [updP_len]; exact hl) (upB_upd hu _) ?_
    rw [List.drop_eq_getElem_cons hlt] at hnext
    exact hnext
theorem l5Depths_ev {cs : List S108} {rs : List S100} (h : goodB cs rs = true) : Ev (fun k => spec_l5Depths.f k cs rs) (dAll (abv cs rs) cs.length cs.length) := by
  obtain ⟨hn, hm, hin⟩ := goodB_parts h
  unfold spec_l5Depths.f
  simp only [show (0 : Int) ≤ (cs.length : Int) by omega, if_true, Int.toNat_natCast, show cs.length ≤ 35184372088832 by omega]
  have key := Ev.down cs.length (fun k r => spec_l5Depths.l0 k (dAll (abv cs rs) cs.length r) (r : Int) cs rs) (fun _ => dAll (abv cs rs) cs.length cs.length)
    (by
      refine Ev.step (fun k => by rw [spec_l5Depths.l0]) ?_
      simp only [dAll_len, Int.lt_irrefl, if_false]
      exact Ev.now _)
    (fun r hr ih => by
      refine Ev.step (fun k => by rw [spec_l5Depths.l0]) ?_
      have a3 : (r : Int) < (cs.length : Int) := by omega
      simp only [dAll_len, a3, if_true]
      refine depths_l1 cs rs hn hm hin (r : Int) _ rs.length 0 (by omega) (by omega) _ (dAll_len _ _ _) ?_ ?_
      · have h1 := upB_all (M := abv cs rs) cs.length r
        have h2 : r * (cs.length * cs.length) ≤ 10 * (10 * 10) := Nat.mul_le_mul (by omega) (Nat.mul_le_mul hn hn)
        intro j
        have := h1 j
        omega
      · rw [List.drop_zero, sRel_round h, ← dAll_succ, w64 r (by omega)]
        exact ih)
  exact key 0 (Nat.zero_le _)
theorem rch_le (M : Nat → Nat → Bool) {j j' a b : Nat} (h : j ≤ j') (hr : rch M j a b = true) : rch M j' a b = true := by
  induction h with
  | refl => exact hr
  | step _ ih => simp only [rch, ih, Bool.true_or]
theorem rch_tr (M : Nat → Nat → Bool) : ∀ (j a b c : Nat), b < j → rch M j a b = true → rch M j b c = true → rch M j a c = true := by
  intro j
  induction j with
  | zero => intro a b c hb; omega
  | succ j ih =>
    intro a b c hb h1 h2
    by_cases e : b = j
    · subst e
      rw [rch_col] at h1
      rw [rch_row] at h2
      simp only [rch, h1, h2, Bool.and_self, Bool.or_true]
    · have hb' : b < j := by omega
      simp only [rch, Bool.or_eq_true, Bool.and_eq_true] at h1 h2 ⊢
      rcases h1 with h1 | ⟨h1, h1'⟩ <;> rcases h2 with h2 | ⟨h2, h2'⟩
      · exact .inl (ih a b c hb' h1 h2)
      · exact .inr ⟨ih a b j hb' h1 h2, h2'⟩
      · exact .inr ⟨h1, ih j b c hb' h1' h2⟩
      · exact .inr ⟨h1, h2'⟩
theorem lat_of_abv {cs : List S108} {rs : List S100} {a b : Nat} (h : abv cs rs a b = true) : lat cs rs a b = true := rch_le _ (Nat.zero_le _) h
theorem lat_tr {cs : List S108} {rs : List S100} {a b c : Nat} (hb : b < cs.length) (h1 : lat cs rs a b = true) (h2 : lat cs rs b c = true) : lat cs rs a c = true := rch_tr _ _ a b c hb h1 h2
theorem countP_lt {α : Type} {p q : α → Bool} : ∀ (l : List α), (∀ x ∈ l, p x = true → q x = true) → (∃ x ∈ l, q x = true ∧ p x = false) → l.countP p < l.countP q
  | [], _, h => by obtain ⟨x, hx, _⟩ := h; simp at hx
  | y :: r, hs, h => by
    have hle : r.countP p ≤ r.countP q := List.countP_mono_left (fun x hx => hs x (List.mem_cons_of_mem _ hx))
    have hy := hs y List.mem_cons_self
    simp only [List.countP_cons]
    by_cases hpy : p y = true
    · rw [if_pos hpy, if_pos (hy hpy)]
      have : ∃ x ∈ r, q x = true ∧ p x = false := by
        obtain ⟨x, hx, h1, h2⟩ := h
        rcases List.mem_cons.1 hx with rfl | hx
        · rw [hpy] at h2; cases h2
        · exact ⟨x, hx, h1, h2⟩
      have := countP_lt r (fun x hx => hs x (List.mem_cons_of_mem _ hx)) this
      omega
    · rw [if_neg hpy]
      by_cases hqy : q y = true
      · rw [if_pos hqy]; omega
      · rw [if_neg hqy]
        have : ∃ x ∈ r, q x = true ∧ p x = false := by
          obtain ⟨x, hx, h1, h2⟩ := h
          rcases List.mem_cons.1 hx with rfl | hx
          · exact absurd h1 hqy
          · exact ⟨x, hx, h1, h2⟩
        have := countP_lt r (fun x hx => hs x (List.mem_cons_of_mem _ hx)) this
        omega
theorem consB_at {n : Nat} {M : Nat → Nat → Bool} (h : consB n M = true) {i : Nat} (hi : i < n) : M i i = false := by
  unfold consB at h
  rw [List.all_eq_true] at h
  simpa using h i (List.mem_range.2 hi)
/-- How many lie before, or behind. -/
def rkUp (n : Nat) (M : Nat → Nat → Bool) (k : Nat) : Nat := (List.range n).countP fun j => M j k
theorem rkUp_lt {cs : List S108} {rs : List S100} (hc : consB cs.length (lat cs rs) = true) {i k : Nat} (hi : i < cs.length) (h : lat cs rs i k = true) : rkUp cs.length (lat cs rs) i < rkUp cs.length (lat cs rs) k :=
  countP_lt _ (fun _ _ hj => lat_tr hi hj h) ⟨i, List.mem_range.2 hi, h, consB_at hc hi⟩
theorem rkUp_n {cs : List S108} {rs : List S100} (hc : consB cs.length (lat cs rs) = true) {k : Nat} (hk : k < cs.length) : rkUp cs.length (lat cs rs) k < cs.length := by
  have := countP_lt (p := fun j => lat cs rs j k) (q := fun _ => true) (List.range cs.length) (fun _ _ _ => rfl) ⟨k, List.mem_range.2 hk, rfl, consB_at hc hk⟩
  simpa [rkUp] using this
/-! rounds of relaxing along edges (source, target) -/
def rounds (E : List (Nat × Nat)) (n r : Nat) : List Int := (List.range r).foldl (fun d _ => E.foldl updP d) (List.replicate n 0)
def Pth (E : List (Nat × Nat)) : Nat → Nat → Prop
  | 0, _ => True
  | j + 1, t => ∃ s, (s, t) ∈ E ∧ Pth E j s
theorem rounds_succ (E : List (Nat × Nat)) (n r : Nat) : rounds E n (r + 1) = E.foldl updP (rounds E n r) := by simp [rounds, List.range_succ, List.foldl_append]
theorem updP_at (d : List Int) (x : Nat × Nat) (k : Nat) : (updP d x).getD k 0 = if k = x.2 ∧ k < d.length then mx (d.getD k 0) (d.getD x.1 0 + 1) else d.getD k 0 := by
  unfold updP
  by_cases h : k = x.2
  · subst h
    by_cases hl : x.2 < d.length
    · rw [if_pos ⟨rfl, hl⟩]; simp [List.getD_eq_getElem?_getD, hl]
    · rw [if_neg (by omega), List.getD_eq_getElem?_getD, List.getD_eq_getElem?_getD, List.getElem?_eq_none (by rw [List.length_set]; omega), List.getElem?_eq_none (by omega)]
  · rw [if_neg (by omega)]
    simp only [List.getD_eq_getElem?_getD, List.getElem?_set_ne (fun e : x.2 = k => h e.symm)]
theorem mx_ge (a b : Int) : a ≤ mx a b ∧ b ≤ mx a b ∧ (mx a b = a ∨ mx a b = b) := by unfold mx; split <;> omega
theorem updP_mono (d : List Int) (x : Nat × Nat) (k : Nat) : d.getD k 0 ≤ (updP d x).getD k 0 := by
  rw [updP_at]
  split
  · exact (mx_ge _ _).1
  · exact Int.le_refl _
theorem updP_ge (d : List Int) (x : Nat × Nat) (h : x.2 < d.length) : d.getD x.1 0 + 1 ≤ (updP d x).getD x.2 0 := by
  rw [updP_at, if_pos ⟨rfl, h⟩]
  exact (mx_ge _ _).2.1
theorem foldP_len (E : List (Nat × Nat)) : ∀ d, (E.foldl updP d).length = d.length := by
  induction E with
  | nil => intro d; rfl
  | cons x r ih => intro d; rw [List.foldl_cons, ih, updP_len]
theorem rounds_len (E : List (Nat × Nat)) (n r : Nat) : (rounds E n r).length = n := by
  induction r with
  | zero => simp [rounds]
  | succ r ih => rw [rounds_succ, foldP_len, ih]
theorem foldP_mono (E : List (Nat × Nat)) (k : Nat) : ∀ d, d.getD k 0 ≤ (E.foldl updP d).getD k 0 := by
  induction E with
  | nil => intro d; exact Int.le_refl _
  | cons x r ih => intro d; exact Int.le_trans (updP_mono d x k) (ih _)
theorem foldP_ge (E : List (Nat × Nat)) : ∀ (d : List Int) (x : Nat × Nat), x ∈ E → x.2 < d.length → d.getD x.1 0 + 1 ≤ (E.foldl updP d).getD x.2 0 := by
  induction E with
  | nil => intro d x hx; simp at hx
  | cons y r ih =>
    intro d x hx hl
    rw [List.foldl_cons]
    rcases List.mem_cons.1 hx with rfl | hx
    · exact Int.le_trans (updP_ge d x hl) (foldP_mono r _ _)
    · have h1 := ih (updP d y) x hx (by rw [updP_len]; exact hl)
      have h2 := updP_mono d y x.1
      omega
def Told (E : List (Nat × Nat)) (d : List Int) : Prop := ∀ k, ∃ j : Nat, d.getD k 0 = (j : Int) ∧ Pth E j k
theorem told_upd {E : List (Nat × Nat)} {d : List Int} (h : Told E d) {x : Nat × Nat} (hx : x ∈ E) : Told E (updP d x) := by
  intro k
  rw [updP_at]
  split
  · rename_i hk
    rcases (mx_ge (d.getD k 0) (d.getD x.1 0 + 1)).2.2 with e | e
    · rw [e]; exact h k
    · rw [e]
      obtain ⟨j, hj, hp⟩ := h x.1
      exact ⟨j + 1, by rw [hj]; omega, x.1, by rw [hk.1]; exact hx, hp⟩
  · exact h k
theorem told_fold {E : List (Nat × Nat)} : ∀ (E' : List (Nat × Nat)), (∀ x ∈ E', x ∈ E) → ∀ d, Told E d → Told E (E'.foldl updP d)
  | [], _, _, h => h
  | x :: r, hs, d, h => told_fold r (fun y hy => hs y (List.mem_cons_of_mem _ hy)) _ (told_upd h (hs x List.mem_cons_self))
theorem told_rounds (E : List (Nat × Nat)) (n r : Nat) : Told E (rounds E n r) := by
  induction r with
  | zero =>
    intro k
    refine ⟨0, ?_, trivial⟩
    simp only [rounds, List.range_zero, List.foldl_nil, List.getD_eq_getElem?_getD, List.getElem?_replicate]
    split <;> rfl
  | succ r ih => rw [rounds_succ]; exact told_fold E (fun _ h => h) _ ih
theorem rounds_ge {E : List (Nat × Nat)} {n : Nat} (hE : ∀ x ∈ E, x.2 < n) (r : Nat) : ∀ (j t : Nat), j ≤ r → Pth E j t → (j : Int) ≤ (rounds E n r).getD t 0 := by
  induction r with
  | zero =>
    intro j t hj _
    obtain ⟨q, hq, _⟩ := told_rounds E n 0 t
    rw [hq]; omega
  | succ r ih =>
    intro j t hj hp
    cases j with
    | zero =>
      obtain ⟨q, hq, _⟩ := told_rounds E n (r + 1) t
      rw [hq]; omega
    | succ j =>
      obtain ⟨s, hs, hp⟩ := hp
      have h1 := ih j s (by omega) hp
      have h2 := foldP_ge E (rounds E n r) (s, t) hs (by rw [rounds_len]; exact hE _ hs)
      rw [rounds_succ]
      simp only at h2
      omega
theorem pth_rk {E : List (Nat × Nat)} {rk : Nat → Nat} (h : ∀ x ∈ E, rk x.1 < rk x.2) : ∀ (j t : Nat), Pth E j t → j ≤ rk t
  | 0, _, _ => Nat.zero_le _
  | j + 1, t, ⟨s, hs, hp⟩ => by have h1 := pth_rk h j s hp; have h2 := h _ hs; simp only at h2; omega
structure Fixed (E : List (Nat × Nat)) (n : Nat) (ds : List Int) : Prop where
  len : ds.length = n
  up : ∀ t, t < n → 0 ≤ ds.getD t 0 ∧ ds.getD t 0 < (n : Int)
  ge : ∀ x ∈ E, ds.getD x.1 0 + 1 ≤ ds.getD x.2 0
  pre : ∀ t, 0 < ds.getD t 0 → ∃ s, (s, t) ∈ E ∧ ds.getD t 0 = ds.getD s 0 + 1
theorem rounds_fixed {E : List (Nat × Nat)} {n : Nat} {rk : Nat → Nat} (hE : ∀ x ∈ E, x.2 < n) (h : ∀ x ∈ E, rk x.1 < rk x.2) (hn : ∀ t, t < n → rk t < n) : Fixed E n (rounds E n n) := by
  have hge : ∀ x ∈ E, (rounds E n n).getD x.1 0 + 1 ≤ (rounds E n n).getD x.2 0 := by
    intro x hx
    obtain ⟨j, hj, hp⟩ := told_rounds E n n x.1
    have hp2 : Pth E (j + 1) x.2 := ⟨x.1, hx, hp⟩
    have h1 := pth_rk h _ _ hp2
    have h2 := hn _ (hE x hx)
    have h3 := rounds_ge hE n (j + 1) x.2 (by omega) hp2
    rw [hj]; omega
  refine ⟨rounds_len E n n, fun t ht => ?_, hge, fun t ht => ?_⟩
  · obtain ⟨j, hj, hp⟩ := told_rounds E n n t
    have h1 := pth_rk h _ _ hp
    have h2 := hn t ht
    rw [hj]; omega
  · obtain ⟨j, hj, hp⟩ := told_rounds E n n t
    cases j with
    | zero => rw [hj] at ht; simp at ht
    | succ j =>
      obtain ⟨s, hs, hp⟩ := hp
      have h1 := hge _ hs
      have h2 := hn t (hE _ hs)
      have h3 := pth_rk h _ _ hp
      have h4 := h _ hs
      have h5 := rounds_ge hE n j s (by simp only at h4; omega) hp
      simp only at h1
      exact ⟨s, hs, by omega⟩
theorem mem_pairs {cs : List S108} {rs : List S100} {x : Nat × Nat} : x ∈ (allP cs.length).filter (fun x => abv cs rs x.1 x.2) ↔ (x.1 < cs.length ∧ x.2 < cs.length) ∧ abv cs rs x.1 x.2 = true := by
  rw [List.mem_filter, mem_allP]
theorem dAll_rounds (M : Nat → Nat → Bool) (n r : Nat) : dAll M n r = rounds ((allP n).filter fun x => M x.1 x.2) n r := by
  unfold dAll rounds
  congr 1
  funext d _
  exact dRound_eq M n d
theorem depths_fixed {cs : List S108} {rs : List S100} (hc : consB cs.length (lat cs rs) = true) : Fixed ((allP cs.length).filter fun x => abv cs rs x.1 x.2) cs.length (dAll (abv cs rs) cs.length cs.length) := by
  rw [dAll_rounds]
  refine rounds_fixed (rk := rkUp cs.length (lat cs rs)) (fun x hx => (mem_pairs.1 hx).1.2) (fun x hx => ?_) (fun t ht => rkUp_n hc ht)
  obtain ⟨⟨h1, h2⟩, h3⟩ := mem_pairs.1 hx
  exact rkUp_lt hc h1 (lat_of_abv h3)
theorem l5Good_ev (cs : List S108) (rs : List S100) : Ev (fun k => spec_l5Good.f k cs rs) (goodB cs rs && consB cs.length (lat cs rs)) := by
  unfold spec_l5Good.f
  simp only [spec_l2Good.f, Option.bind_some]
  cases hg : goodB cs rs with
  | false =>
    simp only [Bool.false_eq_true, if_false, Bool.false_and]
    exact Ev.now _
  | true =>
    obtain ⟨hn, hm, hin⟩ := goodB_parts hg
    simp only [if_true, Bool.true_and]
    first
      | exact l4Consistent_ev cs rs hn hm hin
      | exact Ev.bind (l4Consistent_ev cs rs hn hm hin) (Ev.now _)
theorem abv_iff (cs : List S108) (rs : List S100) (i k : Nat) : abv cs rs i k = true ↔ ∃ y, y ∈ rs ∧ find cs y.f0 = (i : Int) ∧ find cs y.f1 = (k : Int) := by
  unfold abv
  rw [List.any_eq_true]
  constructor
  · rintro ⟨y, hy, h⟩
    simp only [Bool.and_eq_true, decide_eq_true_eq] at h
    exact ⟨y, hy, h.1, h.2⟩
  · rintro ⟨y, hy, h1, h2⟩
    exact ⟨y, hy, by simp [h1, h2]⟩
/-- What the reference looks for. -/
def redY (cs : List S108) (M : Nat → Nat → Bool) (x y : S100) : Bool := y.f0 == x.f0 && !(y.f1 == x.f1) && M (find cs y.f1).toNat (find cs x.f1).toNat
theorem redY_eq (cs : List S108) (rs : List S100) (hin : relsIn cs rs) (hc : consB cs.length (lat cs rs) = true) (x : S100) (hx : x ∈ rs) : rs.any (redY cs (lat cs rs) x) = redB cs.length (abv cs rs) (lat cs rs) (find cs x.f0).toNat (find cs x.f1).toNat := by
  obtain ⟨a, ha, hal⟩ := find_nat cs x.f0 (hin x hx).1
  obtain ⟨b, hb, hbl⟩ := find_nat cs x.f1 (hin x hx).2
  rw [ha, hb, Int.toNat_natCast, Int.toNat_natCast]
  rw [Bool.eq_iff_iff, List.any_eq_true]
  unfold redB
  rw [List.any_eq_true]
  constructor
  · rintro ⟨y, hy, h⟩
    simp only [redY, Bool.and_eq_true, beq_iff_eq, hb, Int.toNat_natCast] at h
    obtain ⟨j, hj, hjl⟩ := find_nat cs y.f1 (hin y hy).2
    rw [hj, Int.toNat_natCast] at h
    refine ⟨j, List.mem_range.2 hjl, ?_⟩
    rw [h.2, Bool.and_true, abv_iff]
    exact ⟨y, hy, by rw [h.1.1]; exact ha, hj⟩
  · rintro ⟨j, hj, h⟩
    simp only [Bool.and_eq_true] at h
    obtain ⟨y, hy, h1, h2⟩ := (abv_iff cs rs a j).1 h.1
    refine ⟨y, hy, ?_⟩
    have e0 : y.f0 = x.f0 := find_inj cs y.f0 x.f0 a h1 ha
    have e1 : ¬ y.f1 = x.f1 := by
      intro e
      have : j = b := by rw [e] at h2; omega
      subst this
      have := consB_at hc hbl
      rw [this] at h
      exact absurd h.2 (by simp)
    simp [redY, e0, e1, hb, h2, h.2]
theorem l5Redundant_ev (cs : List S108) (rs : List S100) (hn : cs.length ≤ 10) (hm : rs.length ≤ 24) (hin : relsIn cs rs) (hc : consB cs.length (lat cs rs) = true) (x : S100) (hx : x ∈ rs) : Ev (fun k => spec_l5Redundant.f k cs rs x.f0 x.f1) (redB cs.length (abv cs rs) (lat cs rs) (find cs x.f0).toNat (find cs x.f1).toNat) := by
  rw [← redY_eq cs rs hin hc x hx]
  unfold spec_l5Redundant.f
  refine Ev.bind (l4Later_ev cs rs hn hm hin) ?_
  obtain ⟨b, hb, hbl⟩ := find_nat cs x.f1 (hin x hx).2
  simp only [find_f, Option.bind_some, hb]
  generalize hM : lat cs rs = M
  have key := Ev.down rs.length (fun k i => spec_l5Redundant.l0 k (masks cs.length M) (b : Int) (i : Int) cs rs x.f0 x.f1) (fun i => (rs.drop i).any (redY cs M x))
    (by
      refine Ev.step (fun k => by rw [spec_l5Redundant.l0]) ?_
      simp only [Int.lt_irrefl, if_false, List.drop_length, List.any_nil]
      exact Ev.now _)
    (fun i hi ih => by
      have a3 : (i : Int) < (rs.length : Int) := by omega
      have a4 : (0 : Int) ≤ (i : Int) := by omega
      refine Ev.step (fun k => by rw [spec_l5Redundant.l0]) ?_
      obtain ⟨j, hj, hjl⟩ := find_nat cs rs[i].f1 (hin _ (List.getElem_mem hi)).2
      have b3 : (j : Int) < (cs.length : Int) := by omega
      have b4 : (0 : Int) ≤ (j : Int) := by omega
      simp only [a3, a4, if_true, rdR rs i hi, w64 i (by omega), find_f, hj, Option.bind_some, masks_length, b3, b4]
      rw [l4Bit_masks cs.length j b M (by omega) hjl hbl, List.drop_eq_getElem_cons hi, List.any_cons]
      simp only [Option.bind_some]
      by_cases h0 : rs[i].f0 = x.f0
      · by_cases h1 : rs[i].f1 = x.f1
        · have e : redY cs M x rs[i] = false := by simp [redY, h1]
          simp only [h0, h1, if_true, e, Bool.false_or]
          exact ih
        · have e : redY cs M x rs[i] = M j b := by simp [redY, h0, h1, hj, hb]
          simp only [h0, h1, if_true, if_false, e]
          cases M j b with
          | true =>
            simp only [if_true, Bool.true_or]
            exact Ev.now _
          | false =>
            simp only [Bool.false_eq_true, if_false, Bool.false_or]
            exact ih
      · have e : redY cs M x rs[i] = false := by simp [redY, h0]
        simp only [h0, if_false, e, Bool.false_or]
        exact ih)
  have h0 := key 0 (Nat.zero_le _)
  simpa using h0
def rowTo (cs : List S108) (ds : List Int) (m k : Nat) : List Int := ((List.range m).filter fun i => ds.getD i 0 == (k : Int)).map fun i => (cs.getD i z108).f0
theorem rowTo_succ (cs : List S108) (ds : List Int) (m k : Nat) : rowTo cs ds (m + 1) k = if ds.getD m 0 = (k : Int) then rowTo cs ds m k ++ [(cs.getD m z108).f0] else rowTo cs ds m k := by
  unfold rowTo
  rw [List.range_succ, List.filter_append, List.map_append, List.filter_cons, List.filter_nil]
  by_cases h : ds.getD m 0 = (k : Int)
  · rw [if_pos h, if_pos (beq_iff_eq.2 h)]; rfl
  · rw [if_neg h, if_neg (by simpa using h)]; simp
theorem rowTo_len (cs : List S108) (ds : List Int) (m k : Nat) : (rowTo cs ds m k).length ≤ m := by
  unfold rowTo
  rw [List.length_map]
  exact Nat.le_trans (List.length_filter_le _ _) (by simp)
theorem padR_at (out : List (List Int)) (d k : Nat) : (padR out d).getD k [] = out.getD k [] := by
  unfold padR
  rw [List.getD_eq_getElem?_getD, List.getD_eq_getElem?_getD]
  by_cases h : k < out.length
  · rw [List.getElem?_append_left h]
  · rw [List.getElem?_append_right (by omega), List.getElem?_eq_none (l := out) (by omega), List.getElem?_replicate]
    split <;> rfl
theorem rowsL_at (cs : List S108) (ds : List Int) (hd : ∀ j, 0 ≤ ds.getD j 0) (m : Nat) : ∀ k, (rowsL cs ds m).getD k [] = rowTo cs ds m k := by
  induction m with
  | zero => intro k; simp [rowsL, rowTo]
  | succ m ih =>
    intro k
    simp only [rowsL, rowPut]
    have h0 := hd m
    rw [rowTo_succ]
    by_cases h : ds.getD m 0 = (k : Int)
    · rw [if_pos h, show (ds.getD m 0).toNat = k by omega]
      have hl : k < (padR (rowsL cs ds m) k).length := by rw [padR_len]; omega
      rw [List.getD_eq_getElem?_getD, List.getElem?_set_self hl, Option.getD_some, padR_at, ih]
    · rw [if_neg h, List.getD_eq_getElem?_getD, List.getElem?_set_ne (by omega), ← List.getD_eq_getElem?_getD, padR_at, ih]
theorem rowsL_top (cs : List S108) (ds : List Int) (m : Nat) : (rowsL cs ds m).length = 0 ∨ ∃ i, i < m ∧ (rowsL cs ds m).length = (ds.getD i 0).toNat + 1 := by
  induction m with
  | zero => left; rfl
  | succ m ih =>
    right
    simp only [rowsL, rowPut, List.length_set, padR_len]
    rcases ih with h | ⟨i, hi, h⟩
    · exact ⟨m, by omega, by omega⟩
    · by_cases h2 : (ds.getD m 0).toNat + 1 ≤ (ds.getD i 0).toNat + 1
      · exact ⟨i, by omega, by omega⟩
      · exact ⟨m, by omega, by omega⟩
def spR (cs : List S108) (ds : List Int) (n d : Nat) : List (List Int) := ((List.range d).map (rowTo cs ds n)).filter fun r => decide (0 < r.length)
theorem spR_succ (cs : List S108) (ds : List Int) (n d : Nat) : spR cs ds n (d + 1) = if 0 < (rowTo cs ds n d).length then spR cs ds n d ++ [rowTo cs ds n d] else spR cs ds n d := by
  unfold spR
  rw [List.range_succ, List.map_append, List.filter_append, List.map_cons, List.map_nil, List.filter_cons, List.filter_nil]
  by_cases h : 0 < (rowTo cs ds n d).length
  · rw [if_pos h, if_pos (decide_eq_true h)]
  · rw [if_neg h, if_neg (by simpa using h)]; simp
theorem rows_same {E : List (Nat × Nat)} {cs : List S108} {ds : List Int} {n : Nat} (hE : ∀ x ∈ E, x.1 < n) (hf : Fixed E n ds) : spR cs ds n n = rowsL cs ds n := by
  have hd : ∀ j, 0 ≤ ds.getD j 0 := by
    intro j
    by_cases h : j < n
    · exact (hf.up j h).1
    · rw [List.getD_eq_getElem?_getD, List.getElem?_eq_none (by rw [hf.len]; omega)]; simp
  have hat := rowsL_at cs ds hd n
  -- each value below a taken one is taken
  have down : ∀ (v i : Nat), i < n → ds.getD i 0 = (v : Int) → ∀ k, k ≤ v → ∃ j, j < n ∧ ds.getD j 0 = (k : Int) := by
    intro v
    induction v with
    | zero => intro i hi h k hk; exact ⟨i, hi, by rw [h]; omega⟩
    | succ v ih =>
      intro i hi h k hk
      by_cases e : k = v + 1
      · exact ⟨i, hi, by rw [h, e]⟩
      · obtain ⟨s, hs, h2⟩ := hf.pre i (by omega)
        exact ih s (hE _ hs) (by omega) k (by omega)
  have hne : ∀ k, k < (rowsL cs ds n).length → 0 < (rowTo cs ds n k).length := by
    intro k hk
    rcases rowsL_top cs ds n with h | ⟨i, hi, h⟩
    · omega
    · have h0 := hd i
      obtain ⟨j, hj, h2⟩ := down (ds.getD i 0).toNat i hi (by omega) k (by omega)
      unfold rowTo
      rw [List.length_map]
      exact List.length_pos_of_mem (List.mem_filter.2 ⟨List.mem_range.2 hj, beq_iff_eq.2 h2⟩)
  have hno : ∀ k, (rowsL cs ds n).length ≤ k → (rowTo cs ds n k).length = 0 := by
    intro k hk
    rw [← hat k, List.getD_eq_getElem?_getD, List.getElem?_eq_none hk]
    rfl
  have hln : (rowsL cs ds n).length ≤ n := by
    rcases rowsL_top cs ds n with h | ⟨i, hi, h⟩
    · omega
    · have := hf.up i hi; omega
  have key : ∀ d, (d ≤ (rowsL cs ds n).length → spR cs ds n d = (List.range d).map (rowTo cs ds n)) ∧ ((rowsL cs ds n).length ≤ d → spR cs ds n d = (List.range (rowsL cs ds n).length).map (rowTo cs ds n)) := by
    intro d
    induction d with
    | zero => exact ⟨fun _ => by simp [spR], fun h => by rw [show (rowsL cs ds n).length = 0 by omega]; simp [spR]⟩
    | succ d ih =>
      obtain ⟨i1, i2⟩ := ih
      rw [spR_succ]
      refine ⟨fun h => ?_, fun h => ?_⟩
      · rw [if_pos (hne d (by omega)), i1 (by omega), List.range_succ, List.map_append, List.map_cons, List.map_nil]
      · by_cases e : d < (rowsL cs ds n).length
        · rw [if_pos (hne d e), i1 (by omega), show (rowsL cs ds n).length = d + 1 by omega, List.range_succ, List.map_append, List.map_cons, List.map_nil]
        · rw [if_neg (by rw [hno d (by omega)]; omega), i2 (by omega)]
  rw [(key n).2 hln]
  apply List.ext_getElem (by simp)
  intro k h1 h2
  rw [List.getElem_map, List.getElem_range, ← hat k, List.getD_eq_getElem?_getD, List.getElem?_eq_getElem h2]
  rfl
theorem l5Rows_ev {cs : List S108} {rs : List S100} (hg : goodB cs rs = true) (hc : consB cs.length (lat cs rs) = true) : Ev (fun k => spec_l5Rows.f k cs rs) (rowsL cs (dAll (abv cs rs) cs.length cs.length) cs.length) := by
  obtain ⟨hn, _, _⟩ := goodB_parts hg
  have hf := depths_fixed hc
  rw [← rows_same (cs := cs) (fun x hx => (mem_pairs.1 hx).1.1) hf]
  have hl := hf.len
  unfold spec_l5Rows.f
  refine Ev.bind (l5Depths_ev hg) ?_
  generalize dAll (abv cs rs) cs.length cs.length = ds at hl
  have inner : ∀ (d : Nat) (x4 : List (List Int)), d < cs.length → x4.length ≤ 20 → Ev (fun k => spec_l5Rows.l0 k ds (if 0 < (rowTo cs ds cs.length d).length then x4 ++ [rowTo cs ds cs.length d] else x4) ((d + 1 : Nat) : Int) cs rs) (spR cs ds cs.length cs.length) → Ev (fun k => spec_l5Rows.l1 k ds x4 (d : Int) [] 0 cs rs) (spR cs ds cs.length cs.length) := by
    intro d x4 hd hx hnext
    have key := Ev.down cs.length (fun k i => spec_l5Rows.l1 k ds x4 (d : Int) (rowTo cs ds i d) (i : Int) cs rs) (fun _ => spR cs ds cs.length cs.length)
      (by
        refine Ev.step (fun k => by rw [spec_l5Rows.l1]) ?_
        simp only [hl, Int.lt_irrefl, if_false, w64 d (by omega)]
        by_cases h : 0 < (rowTo cs ds cs.length d).length
        · rw [if_pos h] at hnext
          have h2 : ((rowTo cs ds cs.length d).length : Int) > 0 := by omega
          simp only [h2, if_true, show x4.length < 5864062014805 by omega]
          exact hnext
        · rw [if_neg h] at hnext
          have h2 : ¬ ((rowTo cs ds cs.length d).length : Int) > 0 := by omega
          simp only [h2, if_false]
          exact hnext)
      (fun i hi ih => by
        refine Ev.step (fun k => by rw [spec_l5Rows.l1]) ?_
        have a3 : (i : Int) < (cs.length : Int) := by omega
        have a4 : (0 : Int) ≤ (i : Int) := by omega
        have a5 : (rowTo cs ds i d).length < 17592186044416 := by have := rowTo_len cs ds i d; omega
        rw [rowTo_succ] at ih
        simp only [hl, a3, a4, if_true, rdN, w64 i (by omega), rdC cs i hi, a5]
        rw [getDC cs i hi] at ih
        by_cases h : ds.getD i 0 = (d : Int)
        · rw [if_pos h] at ih
          simp only [h, if_true]
          exact ih
        · rw [if_neg h] at ih
          simp only [h, if_false]
          exact ih)
    have h0 := key 0 (Nat.zero_le _)
    exact h0
  have key := Ev.down cs.length (fun k d => spec_l5Rows.l0 k ds (spR cs ds cs.length d) (d : Int) cs rs) (fun _ => spR cs ds cs.length cs.length)
    (by
      refine Ev.step (fun k => by rw [spec_l5Rows.l0]) ?_
      simp only [hl, Int.lt_irrefl, if_false]
      exact Ev.now _)
    (fun d hd ih => by
      refine Ev.step (fun k => by rw [spec_l5Rows.l0]) ?_
      have a3 : (d : Int) < (cs.length : Int) := by omega
      simp only [hl, a3, if_true]
      refine inner d _ hd ?_ ?_
      · unfold spR
        exact Nat.le_trans (List.length_filter_le _ _) (by simp; omega)
      · rw [← spR_succ]; exact ih)
  exact key 0 (Nat.zero_le _)
theorem linkRels_snoc (cs : List S108) (rs : List S100) (M1 M2 : Nat → Nat → Bool) (i : Nat) (hi : i < rs.length) : linkRels cs (rs.take (i + 1)) M1 M2 = if (!(redB cs.length M1 M2 (find cs rs[i].f0).toNat (find cs rs[i].f1).toNat) && deepB cs (dAll M1 cs.length cs.length) rs[i]) = true then linkRels cs (rs.take i) M1 M2 ++ [rs[i]] else linkRels cs (rs.take i) M1 M2 := by
  unfold linkRels redRels
  rw [List.take_succ_eq_append_getElem hi, List.filter_append, List.filter_append, List.filter_cons, List.filter_nil]
  cases h : redB cs.length M1 M2 (find cs rs[i].f0).toNat (find cs rs[i].f1).toNat <;> cases h2 : deepB cs (dAll M1 cs.length cs.length) rs[i] <;> simp [h2]
theorem l5Links_ev {cs : List S108} {rs : List S100} (hg : goodB cs rs = true) (hc : consB cs.length (lat cs rs) = true) : Ev (fun k => spec_l5Links.f k cs rs) (linkRels cs rs (abv cs rs) (lat cs rs)) := by
  obtain ⟨hn, hm, hin⟩ := goodB_parts hg
  unfold spec_l5Links.f
  refine Ev.bind (l5Depths_ev hg) ?_
  have hup := dAt_up (M := abv cs rs) (n := cs.length) (r := cs.length) (i := 0) (k := 0) hn (Nat.le_refl _) (Nat.zero_le _) (Nat.zero_le _)
  rw [show dAt (abv cs rs) cs.length cs.length 0 0 = dAll (abv cs rs) cs.length cs.length from rfl] at hup
  have hdl := dAll_len (abv cs rs) cs.length cs.length
  have hsn := fun i hi => linkRels_snoc cs rs (abv cs rs) (lat cs rs) i hi
  generalize dAll (abv cs rs) cs.length cs.length = ds at hup hdl hsn
  have key := Ev.down rs.length (fun k i => spec_l5Links.l0 k ds (linkRels cs (rs.take i) (abv cs rs) (lat cs rs)) (i : Int) cs rs) (fun _ => linkRels cs rs (abv cs rs) (lat cs rs))
    (by
      refine Ev.step (fun k => by rw [spec_l5Links.l0]) ?_
      simp only [Int.lt_irrefl, if_false, List.take_length]
      exact Ev.now _)
    (fun i hi ih => by
      have a3 : (i : Int) < (rs.length : Int) := by omega
      have a4 : (0 : Int) ≤ (i : Int) := by omega
      have a5 : (linkRels cs (rs.take i) (abv cs rs) (lat cs rs)).length < 8796093022208 := by have := linkRels_le cs (rs.take i) (abv cs rs) (lat cs rs); rw [List.length_take] at this; omega
      obtain ⟨a, ha, hal⟩ := find_nat cs rs[i].f0 (hin _ (List.getElem_mem hi)).1
      obtain ⟨b, hb, hbl⟩ := find_nat cs rs[i].f1 (hin _ (List.getElem_mem hi)).2
      have b1 : (0 : Int) ≤ (a : Int) := by omega
      have b2 : (a : Int) < (cs.length : Int) := by omega
      have b3 : (0 : Int) ≤ (b : Int) := by omega
      have b4 : (b : Int) < (cs.length : Int) := by omega
      have hua := hup a
      have e1 : wrap64 (ds.getD a 0 + 1) = ds.getD a 0 + 1 := by
        generalize ds.getD a 0 = x at hua ⊢
        unfold wrap64; omega
      have hs := hsn i hi
      have hdp : deepB cs ds rs[i] = (ds.getD b 0 == ds.getD a 0 + 1) := by unfold deepB; rw [ha, hb, Int.toNat_natCast, Int.toNat_natCast]
      have hrd := l5Redundant_ev cs rs hn hm hin hc rs[i] (List.getElem_mem hi)
      rw [hdp] at hs
      refine Ev.step (fun k => by rw [spec_l5Links.l0]) ?_
      simp only [a3, a4, if_true, rdR rs i hi, find_f, ha, hb, Option.bind_some, hdl, b1, b2, b3, b4, rdN, e1, w64 i (by omega)]
      by_cases hd : ds.getD b 0 = ds.getD a 0 + 1
      · simp only [hd, if_true]
        refine Ev.bind hrd ?_
        rw [show (ds.getD b 0 == ds.getD a 0 + 1) = true from by rw [hd]; exact beq_self_eq_true _, Bool.and_true] at hs
        cases hb2 : redB cs.length (abv cs rs) (lat cs rs) (find cs rs[i].f0).toNat (find cs rs[i].f1).toNat with
        | true =>
          rw [hb2, if_neg (by decide)] at hs
          simp only [if_true]
          rw [← hs]
          exact ih
        | false =>
          rw [hb2, if_pos (by rfl)] at hs
          simp only [Bool.false_eq_true, if_false, a5, if_true]
          rw [← hs]
          exact ih
      · simp only [hd, if_false]
        rw [show (ds.getD b 0 == ds.getD a 0 + 1) = false from beq_eq_false_iff_ne.2 hd, Bool.and_false, if_neg (by decide)] at hs
        rw [← hs]
        exact ih)
  exact key 0 (Nat.zero_le _)
theorem rdI2 (l : List Int) (i : Nat) : rd l (i : Int) = l.getD i 0 := by simp [rd]
theorem w64b (i : Nat) (h : i ≤ 4000000) : wrap64 ((i : Int) + 1) = ((i + 1 : Nat) : Int) := by unfold wrap64; omega
theorem at_ev (l : List Int) (n : Int) (hl : l.length ≤ 4000000) : Ev (fun k => spec_l5At.f k l n) (cIx l n) := by
  have key : ∀ d i, l.length - i = d → i ≤ l.length → (∀ j, j < i → (n == l.getD j 0) = false) → Ev (fun k => spec_l5At.l0 k l n (i : Int)) (cIx l n) := by
    intro d
    induction d with
    | zero =>
      intro i hd hi hA
      obtain rfl : i = l.length := by omega
      refine Ev.step (fun k => by rw [spec_l5At.l0]) ?_
      simp only [Int.lt_irrefl, if_false]
      rw [show cIx l n = -1 from idxI_miss _ 0 l hA]
      exact Ev.now _
    | succ d ih =>
      intro i hd hi hA
      have a3 : (i : Int) < (l.length : Int) := by omega
      have a4 : (0 : Int) ≤ (i : Int) := by omega
      refine Ev.step (fun k => by rw [spec_l5At.l0]) ?_
      simp only [a3, a4, if_true, rdI2, w64b i (by omega)]
      by_cases h : l.getD i 0 = n
      · simp only [h, if_true]
        rw [show cIx l n = (i : Int) from idxI_hit _ 0 l i (by omega) (by rw [h]; exact beq_self_eq_true _) hA]
        exact Ev.now _
      · simp only [h, if_false]
        exact ih (i + 1) (by omega) (by omega) (fun j hj => by
          by_cases e : j = i
          · subst e; exact beq_eq_false_iff_ne.2 (fun e2 => h e2.symm)
          · exact hA j (by omega))
  exact key l.length 0 (by omega) (by omega) (fun j hj => absurd hj (Nat.not_lt_zero _))
theorem cIx_mem (l : List Int) (n : Int) : 0 ≤ cIx l n ↔ n ∈ l := by
  constructor
  · intro h
    by_cases e : cIx l n = -1
    · omega
    · obtain ⟨k, hk, _, h3, _⟩ := idxI_found (fun y => n == y) 0 l e
      have h4 : n = l.getD k 0 := by simpa using h3
      rw [h4, List.getD_eq_getElem?_getD, List.getElem?_eq_getElem hk]
      exact List.getElem_mem hk
  · intro h
    obtain ⟨k, hk, e⟩ := List.getElem_of_mem h
    by_cases e2 : cIx l n = -1
    · have := idxI_all (fun y => n == y) 0 l e2 n h
      simp at this
    · have := cIx_range l n; omega
theorem ats_ev (up lo : List Int) (hu : up.length ≤ 4000000) (hv : lo.length ≤ 4000000) : ∀ ls : List S100, ∃ K, ∀ k, K ≤ k → ∀ x ∈ ls, spec_l5At.f k up x.f0 = some (cIx up x.f0) ∧ spec_l5At.f k lo x.f1 = some (cIx lo x.f1)
  | [] => ⟨0, fun _ _ x hx => by simp at hx⟩
  | y :: r => by
    obtain ⟨K, hK⟩ := ats_ev up lo hu hv r
    obtain ⟨K1, h1⟩ := at_ev up y.f0 hu
    obtain ⟨K2, h2⟩ := at_ev lo y.f1 hv
    refine ⟨K + K1 + K2, fun k hk x hx => ?_⟩
    rcases List.mem_cons.1 hx with rfl | hx
    · exact ⟨h1 k (by omega), h2 k (by omega)⟩
    · exact hK k (by omega) x hx
theorem between_ev (ls : List S100) (up lo : List Int) (hl : ls.length ≤ 1000) (hu : up.length ≤ 4000000) (hv : lo.length ≤ 4000000) : Ev (fun k => spec_l5Between.f k ls up lo) ((crsTo ls up lo ls.length : Nat) : Int) := by
  obtain ⟨K, hK⟩ := ats_ev up lo hu hv ls
  refine ⟨K, fun k hk => if_pos ?_⟩
  unfold btOk
  rw [Bool.and_eq_true, List.all_eq_true]
  refine ⟨decide_eq_true ⟨hl, hu, hv⟩, fun x hx => ?_⟩
  have h := hK k hk x hx
  rw [Bool.and_eq_true, decide_eq_true_eq, decide_eq_true_eq]
  exact h
/-! ### arrangements -/
theorem contains_mem2 (l : List Int) (a : Int) : l.contains a = true ↔ a ∈ l := List.contains_iff_mem
theorem has2_ev (l : List Int) (a : Int) (hl : l.length ≤ 4000000) : Ev (fun k => spec_l1Has.f k l a) (l.contains a) := by
  have key : ∀ d i, l.length - i = d → i ≤ l.length → (∀ j, j < i → l.getD j 0 ≠ a) → Ev (fun k => spec_l1Has.l0 k l a (i : Int)) (l.contains a) := by
    intro d
    induction d with
    | zero =>
      intro i hd hi hA
      obtain rfl : i = l.length := by omega
      refine Ev.step (fun k => by rw [spec_l1Has.l0]) ?_
      simp only [Int.lt_irrefl, if_false]
      rw [show l.contains a = false from by
        cases h : l.contains a with
        | false => rfl
        | true =>
          obtain ⟨k, hk, e⟩ := List.getElem_of_mem ((contains_mem2 l a).1 h)
          exact absurd (by rw [List.getD_eq_getElem?_getD, List.getElem?_eq_getElem hk]; exact e) (hA k hk)]
      exact Ev.now _
    | succ d ih =>
      intro i hd hi hA
      have a3 : (i : Int) < (l.length : Int) := by omega
      have a4 : (0 : Int) ≤ (i : Int) := by omega
      refine Ev.step (fun k => by rw [spec_l1Has.l0]) ?_
      simp only [a3, a4, if_true, rdI2, w64b i (by omega)]
      by_cases h : l.getD i 0 = a
      · simp only [h, if_true]
        rw [show l.contains a = true from (contains_mem2 l a).2 (by rw [← h, List.getD_eq_getElem?_getD, List.getElem?_eq_getElem (by omega : i < l.length)]; exact List.getElem_mem _)]
        exact Ev.now _
      · simp only [h, if_false]
        exact ih (i + 1) (by omega) (by omega) (fun j hj => by
          by_cases e : j = i
          · subst e; exact h
          · exact hA j (by omega))
  exact key l.length 0 (by omega) (by omega) (fun j hj => absurd hj (Nat.not_lt_zero _))
theorem perm_of_sub : ∀ (r w : List Int), r.Nodup → (∀ a ∈ r, a ∈ w) → w.length = r.length → r.Perm w
  | [], w, _, _, hl => by rw [List.length_eq_zero_iff.1 hl]
  | x :: r, w, hn, hs, hl => by
    have h1 := List.nodup_cons.1 hn
    have hx := hs x List.mem_cons_self
    have h2 := perm_of_sub r (w.erase x) h1.2 (fun a ha => (List.mem_erase_of_ne (fun e => h1.1 (by rw [← e]; exact ha))).2 (hs a (List.mem_cons_of_mem _ ha))) (by rw [List.length_erase_of_mem hx, hl]; simp)
    exact (h2.cons x).trans (List.perm_cons_erase hx).symm
def arOk (want row : List Int) : Bool := (List.range row.length).all fun j => decide (0 ≤ cIx want (row.getD j 0)) && !((row.take j).contains (row.getD j 0))
theorem srt_sorted (r : List Int) : (srt r).Pairwise (· ≤ ·) := by
  have h1 := List.pairwise_mergeSort (le := fun x y : Int => decide (x ≤ y)) (fun a b c h1 h2 => by simp only [decide_eq_true_eq] at h1 h2 ⊢; omega) (fun a b => by simp only [Bool.or_eq_true, decide_eq_true_eq]; omega) r
  exact h1.imp (fun h => of_decide_eq_true h)
theorem row_same {want row : List Int} (hw : want.Pairwise (· < ·)) : decide (srt row = want) = (decide (row.length = want.length) && arOk want row) := by
  rw [Bool.eq_iff_iff, Bool.and_eq_true, decide_eq_true_eq, decide_eq_true_eq]
  constructor
  · intro h
    have hp : row.Perm want := by rw [← h]; exact (List.mergeSort_perm _ _).symm
    refine ⟨hp.length_eq, ?_⟩
    have hnd : row.Nodup := hp.symm.nodup_iff.1 (hw.imp (fun h => Int.ne_of_lt h))
    unfold arOk
    rw [List.all_eq_true]
    intro j hj
    have hj := List.mem_range.1 hj
    have hm : row.getD j 0 = row[j] := by rw [List.getD_eq_getElem?_getD, List.getElem?_eq_getElem hj]; rfl
    rw [Bool.and_eq_true, decide_eq_true_eq, cIx_mem, hm]
    refine ⟨hp.subset (List.getElem_mem hj), ?_⟩
    rw [Bool.not_eq_true']
    cases hc : (row.take j).contains row[j] with
    | false => rfl
    | true =>
      obtain ⟨q, hq, e⟩ := List.getElem_of_mem ((contains_mem2 _ _).1 hc)
      rw [List.length_take] at hq
      rw [List.getElem_take] at e
      exact absurd e ((List.pairwise_iff_getElem.1 hnd) q j (by omega) hj (by omega))
  · rintro ⟨hl, h⟩
    unfold arOk at h
    rw [List.all_eq_true] at h
    have hat : ∀ j (hj : j < row.length), row[j] ∈ want ∧ row[j] ∉ row.take j := by
      intro j hj
      have h1 := h j (List.mem_range.2 hj)
      have hm : row.getD j 0 = row[j] := by rw [List.getD_eq_getElem?_getD, List.getElem?_eq_getElem hj]; rfl
      rw [Bool.and_eq_true, decide_eq_true_eq, cIx_mem, hm, Bool.not_eq_true'] at h1
      exact ⟨h1.1, fun hc => by rw [(contains_mem2 _ _).2 hc] at h1; cases h1.2⟩
    have hnd : row.Nodup := List.pairwise_iff_getElem.2 (fun i j hi hj hij e => (hat j hj).2 (by rw [← e]; exact List.mem_iff_getElem.2 ⟨i, by rw [List.length_take]; omega, by rw [List.getElem_take]⟩))
    have hp := perm_of_sub row want hnd (fun a ha => by obtain ⟨j, hj, e⟩ := List.getElem_of_mem ha; rw [← e]; exact (hat j hj).1) hl.symm
    exact List.Perm.eq_of_pairwise (le := fun a b : Int => a ≤ b) (fun a b _ _ h1 h2 => by omega) (srt_sorted row) (hw.imp (fun h => Int.le_of_lt h)) ((List.mergeSort_perm _ _).trans hp)
theorem arRow_ev (want row : List Int) (hw : want.length ≤ 4000000) (hr : row.length ≤ 4000000) : ∀ d i, row.length - i = d → i ≤ row.length → Ev (fun k => arRow k want row d i) ((List.range' i d).all fun j => decide (0 ≤ cIx want (row.getD j 0)) && !((row.take j).contains (row.getD j 0))) := by
  intro d
  induction d with
  | zero => intro i _ _; exact Ev.now _
  | succ d ih =>
    intro i hd hi
    simp only [arRow, List.range'_succ, List.all_cons]
    refine Ev.bind (at_ev want _ hw) ?_
    by_cases h : cIx want (row.getD i 0) < 0
    · simp only [h, if_true, decide_eq_false (show ¬ 0 ≤ cIx want (row.getD i 0) by omega), Bool.false_and]
      exact Ev.now _
    · simp only [h, if_false, decide_eq_true (show 0 ≤ cIx want (row.getD i 0) by omega), Bool.true_and]
      refine Ev.bind (has2_ev (row.take i) _ (by rw [List.length_take]; omega)) ?_
      cases hc : (row.take i).contains (row.getD i 0) with
      | true => simp only [if_true, Bool.not_true, Bool.false_and]; exact Ev.now _
      | false =>
        simp only [Bool.false_eq_true, if_false, Bool.not_false, Bool.true_and]
        exact ih (i + 1) (by omega) (by omega)
theorem arAll_ev (own rows : List (List Int)) (ho : ∀ i, (own.getD i []).length ≤ 4000000) (hr : ∀ i, (rows.getD i []).length ≤ 4000000) (hs : ∀ i, (own.getD i []).Pairwise (· < ·)) : ∀ d i, rows.length - i = d → i ≤ rows.length → Ev (fun k => arAll k own rows d i) ((List.range' i d).all fun j => decide (srt (rows.getD j []) = own.getD j [])) := by
  intro d
  induction d with
  | zero => intro i _ _; exact Ev.now _
  | succ d ih =>
    intro i hd hi
    simp only [arAll, List.range'_succ, List.all_cons, row_same (hs i)]
    by_cases h : (rows.getD i []).length = (own.getD i []).length
    · simp only [h, if_true, decide_true, Bool.true_and]
      have h1 := arRow_ev (own.getD i []) (rows.getD i []) (ho i) (hr i) (rows.getD i []).length 0 (by omega) (by omega)
      rw [← List.range_eq_range'] at h1
      rw [← h]
      refine Ev.bind h1 ?_
      show Ev _ (arOk (own.getD i []) (rows.getD i []) && _)
      cases hc : arOk (own.getD i []) (rows.getD i []) with
      | false =>
        unfold arOk at hc
        simp only [hc, Bool.false_eq_true, if_false, Bool.false_and]
        exact Ev.now _
      | true =>
        unfold arOk at hc
        simp only [hc, if_true, Bool.true_and]
        have h2 := ih (i + 1) (by omega) (by omega)
        simp only [row_same (hs _)] at h2 ⊢
        exact h2
    · simp only [h, if_false, decide_false, Bool.false_and]
      exact Ev.now _
theorem arranged_ev (own rows : List (List Int)) (hr : rows.length ≤ 4000000) (hrr : ∀ r ∈ rows, r.length ≤ 4000000) (ho : ∀ i, (own.getD i []).length ≤ 4000000) (hs : ∀ i, (own.getD i []).Pairwise (· < ·)) : Ev (fun k => spec_l5Arranged.f k own rows) (arrB rows own) := by
  unfold spec_l5Arranged.f arrB eqFB
  simp only [if_pos (show rows.length ≤ 4000000 ∧ (∀ r ∈ rows, r.length ≤ 4000000) from ⟨hr, hrr⟩)]
  by_cases h : rows.length = own.length
  · simp only [h, if_true, decide_true, Bool.true_and]
    have h1 := arAll_ev own rows ho (fun i => by
      by_cases hi : i < rows.length
      · rw [List.getD_eq_getElem?_getD, List.getElem?_eq_getElem hi]; exact hrr _ (List.getElem_mem hi)
      · rw [List.getD_eq_getElem?_getD, List.getElem?_eq_none (by omega)]; simp) hs rows.length 0 (by omega) (by omega)
    rw [← List.range_eq_range', h] at h1
    exact h1
  · simp only [h, if_false, decide_false, Bool.false_and]
    exact Ev.now _
theorem rowTo_rise {cs : List S108} (h : cs.Pairwise (fun a b => a.f0 < b.f0)) (ds : List Int) (m k : Nat) (hm : m ≤ cs.length) : (rowTo cs ds m k).Pairwise (· < ·) := by
  unfold rowTo
  rw [List.pairwise_map]
  refine (List.pairwise_lt_range.filter _).imp_of_mem ?_
  intro a b ha hb hab
  have h1 := List.mem_range.1 (List.mem_filter.1 ha).1
  have h2 := List.mem_range.1 (List.mem_filter.1 hb).1
  have h3 := (List.pairwise_iff_getElem.1 h) a b (by omega) (by omega) hab
  simpa [List.getD_eq_getElem?_getD, show a < cs.length by omega, show b < cs.length by omega] using h3
theorem own_rows {cs : List S108} {rs : List S100} (hg : goodB cs rs = true) (hc : consB cs.length (lat cs rs) = true) (i : Nat) : ((rowsL cs (dAll (abv cs rs) cs.length cs.length) cs.length).getD i []).Pairwise (· < ·) ∧ ((rowsL cs (dAll (abv cs rs) cs.length cs.length) cs.length).getD i []).length ≤ cs.length := by
  have hf := depths_fixed hc
  rw [rowsL_at cs _ (fun j => by
    by_cases hj : j < cs.length
    · exact (hf.up j hj).1
    · rw [List.getD_eq_getElem?_getD, List.getElem?_eq_none (by rw [hf.len]; omega)]; simp) cs.length i]
  exact ⟨rowTo_rise (goodB_sorted hg).1 _ _ _ (Nat.le_refl _), rowTo_len _ _ _ _⟩
theorem rowsOk_of {rows : List (List Int)} (h : rows.length ≤ 1048576) (hr : ∀ r ∈ rows, r.length ≤ 1048576) : rowsOk rows = true := by
  unfold rowsOk
  rw [Bool.and_eq_true, List.all_eq_true]
  exact ⟨decide_eq_true h, fun r h => decide_eq_true (hr r h)⟩
theorem cross_l0 (rows : List (List Int)) (ls : List S100) (hr : rows.length ≤ 1048576) (hrr : ∀ r ∈ rows, r.length ≤ 1048576) (hl : ls.length ≤ 24) : ∀ d i, rows.length - (i + 1) = d → i + 1 ≤ rows.length → Ev (fun k => spec_CountCrossings.l0 k rows ls ((ccTo rows ls (i + 1) : Nat) : Int) ((i + 1 : Nat) : Int)) (((ccTo rows ls rows.length : Nat) : Int), true) := by
  intro d
  induction d with
  | zero =>
    intro i hd hi
    have e : i + 1 = rows.length := by omega
    refine Ev.step (fun k => by rw [spec_CountCrossings.l0]) ?_
    rw [e]
    simp only [Int.lt_irrefl, if_false]
    exact Ev.now _
  | succ d ih =>
    intro i hd hi
    have a3 : ((i + 1 : Nat) : Int) < (rows.length : Int) := by omega
    have a4 : (0 : Int) ≤ ((i + 1 : Nat) : Int) := by omega
    have a5 : (0 : Int) ≤ (i : Int) := by omega
    have a6 : (i : Int) < (rows.length : Int) := by omega
    have hw : wrap64 (((i + 1 : Nat) : Int) - 1) = (i : Int) := by unfold wrap64; omega
    have e1 : rd_L9 rows (i : Int) = rows.getD i [] := by simp [rd_L9]
    have e2 : rd_L9 rows ((i + 1 : Nat) : Int) = rows.getD (i + 1) [] := by simp [rd_L9]
    have hx : ∀ j, (rows.getD j []).length ≤ 1048576 := by
      intro j
      by_cases hj : j < rows.length
      · rw [List.getD_eq_getElem?_getD, List.getElem?_eq_getElem hj]; exact hrr _ (List.getElem_mem hj)
      · rw [List.getD_eq_getElem?_getD, List.getElem?_eq_none (by omega)]; simp
    refine Ev.step (fun k => by rw [spec_CountCrossings.l0]) ?_
    simp only [a3, a4, a5, a6, if_true, hw, e1, e2]
    refine Ev.bind (between_ev ls _ _ (by omega) (by have := hx i; omega) (by have := hx (i + 1); omega)) ?_
    have nx := ih (i + 1) (by omega) (by omega)
    have hs : ccTo rows ls (i + 1 + 1) = ccTo rows ls (i + 1) + crsTo ls (rows.getD i []) (rows.getD (i + 1) []) ls.length := rfl
    have h1 := ccTo_le rows ls (i + 1)
    have h2 := crsTo_le ls (rows.getD i []) (rows.getD (i + 1) []) ls.length
    have h3 : ls.length * ls.length ≤ 24 * 24 := Nat.mul_le_mul hl hl
    have h4 : (i + 1) * (ls.length * ls.length) ≤ 1048576 * (24 * 24) := Nat.mul_le_mul (by omega) h3
    rw [hs] at nx
    generalize ccTo rows ls (i + 1) = x at nx h1 ⊢
    generalize crsTo ls (rows.getD i []) (rows.getD (i + 1) []) ls.length = y at nx h2 ⊢
    have hww : wrap64 ((x : Int) + (y : Int)) = ((x + y : Nat) : Int) := by unfold wrap64; omega
    rw [hww, w64b (i + 1) (by omega)]
    exact nx
def ccAns (cs : List S108) (rs : List S100) (rows : List (List Int)) : Int × Bool := if goodB cs rs && consB cs.length (lat cs rs) then ccRes cs rs rows else (0, false)
theorem ccSpec_ev (cs : List S108) (rs : List S100) (rows : List (List Int)) (hr : rows.length ≤ 1048576) (hrr : ∀ r ∈ rows, r.length ≤ 1048576) : Ev (fun k => spec_CountCrossings.f k cs rs rows) (ccAns cs rs rows) := by
  unfold spec_CountCrossings.f ccAns
  refine Ev.bind (l5Good_ev cs rs) ?_
  by_cases h : (goodB cs rs && consB cs.length (lat cs rs)) = true
  · have h2 := h
    rw [Bool.and_eq_true] at h2
    simp only [h, if_true]
    obtain ⟨hn, hm, _⟩ := goodB_parts h2.1
    refine Ev.bind (l5Rows_ev h2.1 h2.2) ?_
    refine Ev.bind (arranged_ev _ rows (by omega) (fun r h => by have := hrr r h; omega) (fun i => by have := (own_rows h2.1 h2.2 i).2; omega) (fun i => (own_rows h2.1 h2.2 i).1)) ?_
    unfold ccRes
    refine Ev.step (fun k => by rw [spec_CountCrossings.j0]) ?_
    cases ha : arrB rows (rowsL cs (dAll (abv cs rs) cs.length cs.length) cs.length) with
    | false =>
      simp only [Bool.not_false, if_true, Bool.false_eq_true, if_false]
      exact Ev.now _
    | true =>
      simp only [Bool.not_true, Bool.false_eq_true, if_false, if_true]
      refine Ev.bind (l5Links_ev h2.1 h2.2) ?_
      by_cases h0 : rows.length = 0
      · obtain rfl := List.length_eq_zero_iff.1 h0
        refine Ev.step (fun k => by rw [spec_CountCrossings.l0]) ?_
        simp only [List.length_nil, show ¬ (1 : Int) < ((0 : Nat) : Int) by decide, if_false]
        exact Ev.now _
      · have hz := cross_l0 rows (linkRels cs rs (abv cs rs) (lat cs rs)) hr hrr (Nat.le_trans (linkRels_le _ _ _ _) hm) (rows.length - 1) 0 (by omega) (by omega)
        exact hz
  · simp only [h, if_false]
    refine Ev.step (fun k => by rw [spec_CountCrossings.j0]) ?_
    simp only [if_true]
    exact Ev.now _
theorem toIntS2_ev (l : List Int) (hl : l.length ≤ 1048576) : Ev (fun k => laws_toIntS.f k l) l := by
  unfold laws_toIntS.f
  have h1 : (0 : Int) ≤ (l.length : Int) := by omega
  have h2 : l.length ≤ 35184372088832 := by omega
  simp only [h1, if_true, Int.toNat_natCast, h2]
  have key := Ev.down l.length (fun k i => laws_toIntS.l0 k l ((l.take i).map id ++ List.replicate (l.length - i) 0) (i : Int)) (fun _ => l)
    (by
      refine Ev.step (fun k => by rw [laws_toIntS.l0]) ?_
      simp only [Int.lt_irrefl, if_false, List.take_length, Nat.sub_self, List.replicate_zero, List.append_nil, List.map_id]
      exact Ev.now _)
    (fun i hi ih => by
      refine Ev.step (fun k => by rw [laws_toIntS.l0]) ?_
      have a1 : (i : Int) < (l.length : Int) := by omega
      have a2 : (0 : Int) ≤ (i : Int) := by omega
      have a3 : (i : Int) < ((((l.take i).map id ++ List.replicate (l.length - i) 0).length : Nat) : Int) := by
        rw [List.length_append, List.length_map, List.length_take, List.length_replicate]
        omega
      have e := acc_step id 0 l i hi
      simp only [a1, a2, a3, if_true, rdI l i hi, w64 i (by omega), Int.toNat_natCast]
      rw [show l[i] = id l[i] from rfl, e]
      exact ih)
  have h0 := key 0 (Nat.zero_le _)
  simpa using h0
theorem rdL9 (l : List (List Int)) (i : Nat) (h : i < l.length) : rd_L9 l (i : Int) = l[i] := by simp [rd_L9, List.getD_eq_getElem?_getD, List.getElem?_eq_getElem h]
theorem toIntSS_ev (l : List (List Int)) (hl : l.length ≤ 1048576) (hm : ∀ r ∈ l, r.length ≤ 1048576) : Ev (fun k => laws_toIntSS.f k l) l := by
  unfold laws_toIntSS.f
  have h1 : (0 : Int) ≤ (l.length : Int) := by omega
  have h2 : l.length ≤ 11728124029610 := by omega
  simp only [h1, if_true, Int.toNat_natCast, h2]
  have key := Ev.down l.length (fun k i => laws_toIntSS.l0 k l ((l.take i).map id ++ List.replicate (l.length - i) []) (i : Int)) (fun _ => l)
    (by
      refine Ev.step (fun k => by rw [laws_toIntSS.l0]) ?_
      simp only [Int.lt_irrefl, if_false, List.take_length, Nat.sub_self, List.replicate_zero, List.append_nil, List.map_id]
      exact Ev.now _)
    (fun i hi ih => by
      refine Ev.step (fun k => by rw [laws_toIntSS.l0]) ?_
      have a1 : (i : Int) < (l.length : Int) := by omega
      have a2 : (0 : Int) ≤ (i : Int) := by omega
      have a3 : (i : Int) < ((((l.take i).map id ++ List.replicate (l.length - i) ([] : List Int)).length : Nat) : Int) := by
        rw [List.length_append, List.length_map, List.length_take, List.length_replicate]
        omega
      have e := acc_step id ([] : List Int) l i hi
      simp only [a1, a2, a3, if_true, rdL9 l i hi, w64 i (by omega), Int.toNat_natCast]
      refine Ev.bind (toIntS2_ev l[i] (hm _ (List.getElem_mem hi))) ?_
      rw [show l[i] = id l[i] from rfl, e]
      exact ih)
  have h0 := key 0 (Nat.zero_le _)
  simpa using h0
theorem eqIntSS2_ev (a : List (List Int)) (ha : a.length ≤ 1048576) (hr : ∀ r ∈ a, r.length ≤ 1048576) : Ev (fun k => laws_eqIntSS.f k a a) true := by
  unfold laws_eqIntSS.f
  simp only [if_true]
  have key := Ev.down a.length (fun k i => laws_eqIntSS.l0 k a a (i : Int)) (fun _ => true)
    (by
      refine Ev.step (fun k => by rw [laws_eqIntSS.l0]) ?_
      simp only [Int.lt_irrefl, if_false]
      exact Ev.now _)
    (fun i hi ih => by
      refine Ev.step (fun k => by rw [laws_eqIntSS.l0]) ?_
      have a3 : (i : Int) < (a.length : Int) := by omega
      have a4 : (0 : Int) ≤ (i : Int) := by omega
      simp only [a3, a4, if_true, w64 i (by omega), rdL9 a i hi]
      refine Ev.bind (eqIntS_ev a[i] (hr _ (List.getElem_mem hi))) ?_
      simp only [if_true]
      exact ih)
  exact key 0 (Nat.zero_le _)
theorem szIntSS_ev (l : List (List Int)) (x : Int) (hx : 0 ≤ x ∧ x ≤ 1048576) (hl : l.length ≤ 9223372036854775807) (hm : ∀ r ∈ l, r.length ≤ 9223372036854775807) :
    ∃ t, Ev (fun k => laws_szIntSS.f k l x) t ∧ (t < 0 ∨ (0 ≤ t ∧ l.length ≤ 1048576 ∧ ∀ r ∈ l, r.length ≤ 1048576)) := by
  unfold laws_szIntSS.f
  have e0 : wrap64 (x - (l.length : Int)) = x - (l.length : Int) := by unfold wrap64; omega
  simp only [e0]
  by_cases h0 : (x - (l.length : Int)) < 0
  · exact ⟨-1, by simp only [h0, if_true]; exact Ev.now _, .inl (by omega)⟩
  · simp only [h0, if_false]
    have key : ∀ d i y, l.length - i = d → i ≤ l.length → 0 ≤ y ∧ y ≤ 1048576 → ∃ t, Ev (fun k => laws_szIntSS.l0 k l y (i : Int)) t ∧ (t < 0 ∨ (0 ≤ t ∧ ∀ j, i ≤ j → (hj : j < l.length) → l[j].length ≤ 1048576)) := by
      intro d
      induction d with
      | zero =>
        intro i y hd hi hy
        obtain rfl : i = l.length := by omega
        refine ⟨y, ?_, .inr ⟨hy.1, fun j h1 h2 => by omega⟩⟩
        refine Ev.step (fun k => by rw [laws_szIntSS.l0]) ?_
        simp only [Int.lt_irrefl, if_false]
        exact Ev.now _
      | succ d ih =>
        intro i y hd hi hy
        have hil : i < l.length := by omega
        have a3 : (i : Int) < (l.length : Int) := by omega
        have a4 : (0 : Int) ≤ (i : Int) := by omega
        have hmi := hm _ (List.getElem_mem hil)
        have e1 : wrap64 (y - (l[i].length : Int)) = y - (l[i].length : Int) := by unfold wrap64; omega
        by_cases h1 : y - (l[i].length : Int) < 0
        · refine ⟨-1, ?_, .inl (by omega)⟩
          refine Ev.step (fun k => by rw [laws_szIntSS.l0]) ?_
          simp only [a3, a4, if_true, rdL9 l i hil, laws_szIntS.f, e1, h1, Option.bind_some, show (-1 : Int) < 0 by decide]
          exact Ev.now _
        · obtain ⟨u, hu, hcu⟩ := ih (i + 1) (y - (l[i].length : Int)) (by omega) (by omega) (by omega)
          refine ⟨u, ?_, ?_⟩
          · refine Ev.step (fun k => by rw [laws_szIntSS.l0]) ?_
            simp only [a3, a4, if_true, rdL9 l i hil, laws_szIntS.f, e1, h1, if_false, Option.bind_some, w64 i (by omega)]
            exact hu
          · rcases hcu with hcu | ⟨k1, k2⟩
            · exact .inl hcu
            · refine .inr ⟨k1, fun j h3 h4 => ?_⟩
              by_cases e : j = i
              · subst e; omega
              · exact k2 j (by omega) h4
    obtain ⟨t, ht, hc⟩ := key l.length 0 (x - (l.length : Int)) (by omega) (by omega) (by omega)
    refine ⟨t, ht, ?_⟩
    rcases hc with hc | ⟨k1, k2⟩
    · exact .inl hc
    · refine .inr ⟨k1, by omega, fun r hr => ?_⟩
      obtain ⟨j, hj, e⟩ := List.mem_iff_getElem.1 hr
      have := k2 j (by omega) hj
      rwa [e] at this
theorem FnExactCountCrossings : ∀ (l0_0 : List (S118)) (l0_1 : List (S120)) (l1 : List (List Int)), ((l0_0.length ≤ 9223372036854775807) ∧ ∀ y4 ∈ l0_0, ((Lit.int .i64 y4.f0).wf = true) ∧ ((Lit.int .i64 y4.f1).wf = true)) → ((l0_1.length ≤ 9223372036854775807) ∧ ∀ y4 ∈ l0_1, ((Lit.int .i64 y4.f0).wf = true) ∧ ((Lit.int .i64 y4.f1).wf = true)) → ((l1.length ≤ 9223372036854775807) ∧ ∀ y2 ∈ l1, (y2.length ≤ 9223372036854775807) ∧ ∀ y2y ∈ y2, (Lit.int .i64 y2y).wf = true) → ∃ k, laws_FnExactCountCrossings.f k l0_0 l0_1 l1 = some true := by
  intro l0 l1 l2 g0 g1 g2
  obtain ⟨t, ht, hc⟩ := szRecord_eq l0 l1 g0.1 g1.1
  refine Ev.rounds ?_
  unfold laws_FnExactCountCrossings.f
  rw [ht]
  simp only [Option.bind_some]
  rcases hc with hc | ⟨h0, h0', hl0, hl1⟩
  · simp only [hc, if_true]
    exact Ev.now _
  · have hn : ¬ t < 0 := by omega
    simp only [hn, if_false]
    obtain ⟨u, hu, hc⟩ := szIntSS_ev l2 t ⟨h0, h0'⟩ g2.1 (fun p hp => (g2.2 p hp).1)
    refine Ev.bind hu ?_
    rcases hc with hc | ⟨k0, hl2, hp⟩
    · simp only [hc, if_true]
      exact Ev.now _
    · have hn2 : ¬ u < 0 := by omega
      have hC : (l0.map cvC).length ≤ 1048576 := by rw [List.length_map]; exact hl0
      have hR : (l1.map cvR).length ≤ 1048576 := by rw [List.length_map]; exact hl1
      have hts := toIntSS_ev l2 hl2 hp
      have hto := toRecord_ev l0 l1 hl0 hl1
      generalize l0.map cvC = cs at hto hC ⊢
      generalize l1.map cvR = rs at hto hR ⊢
      have himpl : impl_CountCrossings.f cs rs l2 = some (ccAns cs rs l2) := if_pos (rowsOk_of hl2 hp)
      simp only [hn2, if_false]
      refine Ev.bind hto ?_
      refine Ev.bind hts ?_
      refine Ev.bind (ccSpec_ev cs rs l2 hl2 hp) ?_
      refine Ev.bind hto ?_
      refine Ev.bind hts ?_
      simp only [himpl, Option.bind_some, bne_self_eq_false, if_true]
      refine Ev.step (fun k => by rw [laws_FnExactCountCrossings.j0]) ?_
      simp only [Bool.false_eq_true, if_false]
      refine Ev.bind hto ?_
      refine Ev.bind (eqRecord_ev _ _ hC hR) ?_
      simp only [if_true]
      refine Ev.bind hts ?_
      refine Ev.bind (eqIntSS2_ev _ hl2 hp) ?_
      simp only [if_true]
      exact Ev.now _
end Go.Proofs.Ytlbkoejpjpcgaaa.Pure
