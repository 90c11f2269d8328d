/- The law FnExactPhaseRecord answers true at every record and list of phases: PhaseRecord of the program and of the reference agree. No conditions. -/
import Derived.Test.YtenphfagdpkjaaaQ0
import Derived.Test.YtenphfagdpkjaaaQF51
import Derived.Test.YtenphfagdpkjaaaQB0
import Derived.Test.YtenphfagdpkjaaaQB2
import Derived.Test.YtenphfagdpkjaaaQF56
import Derived.Test.YtenphfagdpkjaaaQF57
import Derived.Test.YtenphfagdpkjaaaQF99
import Derived.Test.YtenphfagdpkjaaaQF97
import Derived.Test.YtenphfagdpkjaaaQF100
import Derived.Test.YtenphfagdpkjaaaQF76
import Derived.Test.YtenphfagdpkjaaaQF43
import Derived.Test.YtenphfagdpkjaaaQV2
import Derived.Test.YtenphfagdpkjaaaQF16
import Derived.Test.YtenphfagdpkjaaaQF83
import Derived.Test.YtenphfagdpkjaaaQF54
import Derived.Test.YtenphfagdpkjaaaQF66
import Derived.Test.YtenphfagdpkjaaaQF67
import Derived.Test.YtenphfagdpkjaaaQF23
import Derived.Test.YtenphfagdpkjaaaQF24
import Derived.Test.YtenphfagdpkjaaaQF9
import Derived.Test.YtenphfagdpkjaaaQF34
import Derived.Test.YtenphfagdpkjaaaQF35
namespace Go.Proofs.Ytenphfagdpkjaaa.Pure
open Go.RowKit Go.Proofs.Ytenphfagdpkjaaa.Q Go.Proofs.YtenphfagdpkjaaaW.PrintWords
set_option linter.unusedVariables false
set_option linter.unusedSimpArgs false
/-- Going down from the end of a loop. -/
theorem Ev.down {α : Type} (n : Nat) (F : Nat → Nat → Option α) (R : Nat → α) (hend : Ev (fun k => F k n) (R n)) (hstep : ∀ i, i < n → Ev (fun k => F k (i + 1)) (R (i + 1)) → Ev (fun k => F k i) (R i)) : ∀ i, i ≤ n → Ev (fun k => F k i) (R i) := by
  have key : ∀ d i, n - i = d → i ≤ n → Ev (fun k => F k i) (R i) := by
    intro d
    induction d with
    | zero =>
      intro i hd hi
      obtain rfl : i = n := by omega
      exact hend
    | succ d ih => intro i hd hi; exact hstep i (by omega) (ih (i + 1) (by omega) (by omega))
  intro i hi
  exact key (n - i) i rfl hi
theorem Ev.some {α : Type} (r : α) : Ev (fun _ => Option.some r) r := Ev.now r
theorem w64 (i : Nat) (h : i ≤ 4611686018427387904) : wrap64 ((i : Int) + 1) = ((i + 1 : Nat) : Int) := by unfold wrap64; omega
theorem w64p (i : Nat) (h : i ≤ 4611686018427387904) : wrap64 (((i + 1 : Nat) : Int) - 1) = (i : Int) := by unfold wrap64; omega
theorem rdC (l : List S77) (i : Nat) (h : i < l.length) : rd_T77 l (i : Int) = l[i] := by simp [rd_T77, List.getD_eq_getElem?_getD, List.getElem?_eq_getElem h]
theorem rdR (l : List S91) (i : Nat) (h : i < l.length) : rd_T91 l (i : Int) = l[i] := by simp [rd_T91, List.getD_eq_getElem?_getD, List.getElem?_eq_getElem h]
theorem getDC (cs : List S77) (i : Nat) (h : i < cs.length) : cs.getD i z77 = cs[i] := by simp [List.getD_eq_getElem?_getD, List.getElem?_eq_getElem h]
def cvC (x : S100) : S77 := ⟨x.f0, x.f1⟩
def cvR (x : S102) : S91 := ⟨x.f0, x.f1⟩
theorem acc_step {α β : Type} (f : α → β) (z : β) (l : List α) (i : Nat) (hi : i < l.length) : ((l.take i).map f ++ List.replicate (l.length - i) z).set i (f l[i]) = (l.take (i + 1)).map f ++ List.replicate (l.length - (i + 1)) z := by
  have h1 : ((l.take i).map f).length = i := by rw [List.length_map, List.length_take]; omega
  rw [List.set_append_right _ _ (by omega), h1, Nat.sub_self]
  obtain ⟨m, hm⟩ : ∃ m, l.length - i = m + 1 := ⟨l.length - i - 1, by omega⟩
  rw [hm, List.replicate_succ, List.set_cons_zero, List.take_succ_eq_append_getElem hi, List.map_append, show l.length - (i + 1) = m by omega]
  simp
/-- What the law's first test lets by: at most 2^20 contexts and relations. -/
theorem szRecord_eq (l0 : List S100) (l1 : List S102) (g0 : l0.length ≤ 9223372036854775807) (g1 : l1.length ≤ 9223372036854775807) :
    ∃ t, laws_szRecord.f l0 l1 1048576 = some t ∧ (t < 0 ∨ (0 ≤ t ∧ t ≤ 1048576 ∧ l0.length ≤ 1048576 ∧ l1.length ≤ 1048576)) := by
  unfold laws_szRecord.f laws_szContextS.f laws_szRelationS.f
  have e0 : wrap64 (1048576 - (l0.length : Int)) = 1048576 - (l0.length : Int) := by unfold wrap64; omega
  rw [e0]
  by_cases h0 : (1048576 - (l0.length : Int)) < 0
  · exact ⟨-1, by simp [h0], .inl (by omega)⟩
  · have e1 : wrap64 (1048576 - (l0.length : Int) - (l1.length : Int)) = 1048576 - (l0.length : Int) - (l1.length : Int) := by unfold wrap64; omega
    simp only [h0, if_false, Option.bind_some, e1]
    by_cases h1 : (1048576 - (l0.length : Int) - (l1.length : Int)) < 0
    · exact ⟨-1, by simp [h1], .inl (by omega)⟩
    · exact ⟨1048576 - (l0.length : Int) - (l1.length : Int), by simp [h1], .inr (by omega)⟩
theorem rdI (l : List Int) (i : Nat) (h : i < l.length) : rd l (i : Int) = l[i] := by simp [rd, List.getD_eq_getElem?_getD, List.getElem?_eq_getElem h]
theorem eqIntS_ev (a : List Int) (ha : a.length ≤ 1048576) : Ev (fun k => laws_eqIntS.f k a a) true := by
  unfold laws_eqIntS.f
  simp only [if_true]
  exact Ev.down a.length (fun k i => laws_eqIntS.l0 k a a (i : Int)) (fun _ => true)
    (by
      refine Ev.step (fun k => by rw [laws_eqIntS.l0]) ?_
      simp only [Int.lt_irrefl, if_false]
      exact Ev.now _)
    (fun i hi ih => by
      refine Ev.step (fun k => by rw [laws_eqIntS.l0]) ?_
      have a3 : (i : Int) < (a.length : Int) := by omega
      have a4 : (0 : Int) ≤ (i : Int) := by omega
      simp only [a3, a4, if_true, w64 i (by omega)]
      exact ih) 0 (Nat.zero_le _)
/-- A matrix as a list of sets, each as bits. -/
def masks (n : Nat) (M : Nat → Nat → Bool) : List Int := (List.range n).map fun i => ((mask n (M i) : Nat) : Int)
theorem masks_length (n : Nat) (M : Nat → Nat → Bool) : (masks n M).length = n := by simp [masks]
theorem masks_ext {n : Nat} {M M' : Nat → Nat → Bool} (h : ∀ a b, a < n → b < n → M a b = M' a b) : masks n M = masks n M' := by
  unfold masks
  apply List.map_congr_left
  intro a ha
  rw [mask_ext (fun b hb => h a b (List.mem_range.1 ha) hb)]
theorem masks_rd {n : Nat} {M : Nat → Nat → Bool} {a : Nat} (ha : a < n) : rd (masks n M) (a : Int) = ((mask n (M a) : Nat) : Int) := by
  simp [rd, masks, List.getD_eq_getElem?_getD, ha]
theorem masks_set {n : Nat} {M : Nat → Nat → Bool} {a : Nat} (p : Nat → Bool) : (masks n M).set a ((mask n p : Nat) : Int) = masks n (fun x => if x = a then p else M x) := by
  apply List.ext_getElem (by simp [masks])
  intro i h1 h2
  simp only [masks, List.length_map, List.length_range, List.length_set] at h1 h2
  simp only [masks, List.getElem_set, List.getElem_map, List.getElem_range]
  by_cases e : a = i
  · subst e; simp
  · have e2 : ¬ i = a := fun h => e h.symm
    simp [e, e2]
theorem masks_none (n : Nat) : masks n (fun _ _ => false) = List.replicate n 0 := by
  apply List.ext_getElem (by simp [masks])
  intro i h1 h2
  simp [masks, mask_zero]
theorem wrap_i64_small (n : Int) (h0 : 0 ≤ n) (h1 : n < 2 ^ 62) : IntKind.i64.wrap n = n := by
  have h2 : n < 4611686018427387904 := h1
  rw [IntKind.wrap_i64]; omega
theorem mask_lt62 (n : Nat) (p : Nat → Bool) (hn : n ≤ 62) : mask n p < 2 ^ 62 := Nat.lt_of_lt_of_le (mask_lt n p) (Nat.pow_le_pow_right (by decide) hn)
theorem or_masks (n : Nat) (p q : Nat → Bool) (hn : n ≤ 62) : Go.bits .or .i64 ((mask n p : Nat) : Int) ((mask n q : Nat) : Int) = ((mask n (fun i => p i || q i) : Nat) : Int) := by
  rw [(bits_nat .i64 62 (by decide) wrap_i64_small _ _ (mask_lt62 n p hn) (mask_lt62 n q hn)).2, mask_or]
theorem u64_small (i : Nat) (hi : i < 64) : IntKind.u64.wrap (i : Int) = (i : Int) := by
  simp only [IntKind.wrap, IntKind.bits, IntKind.signed]
  simp
  omega
theorem shl_mask (n b : Nat) (hb : b < n) (hn : n ≤ 62) : shl .i64 1 (b : Int) = ((mask n (fun i => decide (i = b)) : Nat) : Int) := by
  rw [← mask_one hb]
  unfold shl
  have h1 : min (b : Int).toNat IntKind.i64.bits = b := by
    have : IntKind.i64.bits = 64 := rfl
    rw [this, Int.toNat_natCast]; omega
  rw [h1, Int.one_mul, Nat.one_shiftLeft]
  have h2 : (2 : Int) ^ b = ((2 ^ b : Nat) : Int) := by simp
  rw [h2]
  apply wrap_i64_small _ (Int.natCast_nonneg _)
  have h3 : 2 ^ b < 2 ^ 62 := Nat.pow_lt_pow_right (by decide) (by omega)
  exact_mod_cast h3
theorem bit_mask (n i : Nat) (p : Nat → Bool) (hn : n ≤ 62) (hi : i < 64) : Go.bits .and .i64 (shr .i64 ((mask n p : Nat) : Int) (i : Int)) 1 = if decide (i < n) && p i then 1 else 0 := by
  unfold shr
  have h1 : min (i : Int).toNat IntKind.i64.bits = i := by
    have : IntKind.i64.bits = 64 := rfl
    rw [this, Int.toNat_natCast]; omega
  rw [h1]
  have h2 : (2 : Int) ^ i = ((2 ^ i : Nat) : Int) := by simp
  rw [h2, ← Int.natCast_ediv]
  have h3 : mask n p / 2 ^ i < 2 ^ 62 := Nat.lt_of_le_of_lt (Nat.div_le_self _ _) (mask_lt62 n p hn)
  have h4 := (bits_nat .i64 62 (by decide) wrap_i64_small (mask n p / 2 ^ i) 1 h3 (by decide)).1
  rw [show ((1 : Nat) : Int) = 1 from rfl] at h4
  rw [h4, Nat.and_one_is_mod]
  have h5 := mask_bit p n i
  rw [Nat.testBit_eq_decide_div_mod_eq] at h5
  rw [← h5]
  by_cases h6 : mask n p / 2 ^ i % 2 = 1
  · simp [h6]
  · have : mask n p / 2 ^ i % 2 = 0 := by omega
    simp [this]
theorem l4Bit_mask (n i : Nat) (p : Nat → Bool) (hn : n ≤ 62) (hi : i < 64) : spec_l4Bit.f ((mask n p : Nat) : Int) (i : Int) = some (decide (i < n) && p i) := by
  unfold spec_l4Bit.f
  rw [u64_small i hi, if_pos (by omega), bit_mask n i p hn hi]
  cases (decide (i < n) && p i) <;> rfl
theorem l4Bit_masks (n i k : Nat) (M : Nat → Nat → Bool) (hn : n ≤ 62) (hi : i < n) (hk : k < n) : spec_l4Bit.f (rd (masks n M) (i : Int)) (k : Int) = some (M i k) := by
  rw [masks_rd hi, l4Bit_mask n k (M i) hn (by omega)]
  simp [hk]
theorem later_l1 (A : Nat → Nat → Bool) (n : Nat) (hn : n ≤ 10) : ∀ (d j : Nat), n - j = d → j ≤ n → Ev (fun k => spec_l4Later.l1 k (masks n (rch A j)) (j : Int)) (masks n (rch A n)) := by
  intro d
  induction d with
  | zero =>
    intro j hd hj
    obtain rfl : j = n := by omega
    refine Ev.step (fun q => by rw [spec_l4Later.l1]) ?_
    simp only [masks_length, Int.lt_irrefl, if_false]
    exact Ev.now _
  | succ d ih =>
    intro j hd hj
    have h1 : (j : Int) < (n : Int) := by omega
    refine Ev.step (fun q => by rw [spec_l4Later.l1]) ?_
    simp only [masks_length, h1, if_true]
    have inner : ∀ (e i : Nat), n - i = e → i ≤ n → Ev (fun k => spec_l4Later.l2 k (masks n (fun x => if x < i then rch A (j + 1) x else rch A j x)) (j : Int) (i : Int)) (masks n (rch A n)) := by
      intro e
      induction e with
      | zero =>
        intro i he hi
        obtain rfl : i = n := by omega
        refine Ev.step (fun q => by rw [spec_l4Later.l2]) ?_
        simp only [masks_length, Int.lt_irrefl, if_false, w64 j (by omega)]
        rw [masks_ext (M' := rch A (j + 1)) (fun a b ha _ => by simp [ha])]
        exact ih (j + 1) (by omega) (by omega)
      | succ e ih2 =>
        intro i he hi
        have hil : i < n := by omega
        have h2 : (i : Int) < (n : Int) := by omega
        have h3 : (0 : Int) ≤ (i : Int) := by omega
        have h4 : (0 : Int) ≤ (j : Int) := by omega
        refine Ev.step (fun q => by rw [spec_l4Later.l2]) ?_
        simp only [masks_length, h1, h2, h3, h4, if_true, u64_small j (by omega), masks_rd hil, masks_rd (show j < n by omega), w64 i (by omega), Int.toNat_natCast]
        rw [if_neg (show ¬ i < i by omega), bit_mask n j _ (by omega) (by omega)]
        have hjn : decide (j < n) = true := decide_eq_true (by omega)
        rw [hjn, Bool.true_and]
        have next := ih2 (i + 1) (by omega) (by omega)
        by_cases hb : rch A j i j = true
        · simp only [hb, if_true, or_masks n _ _ (show n ≤ 62 by omega), masks_set]
          rw [masks_ext (M' := fun x => if x < i + 1 then rch A (j + 1) x else rch A j x) (fun a b _ _ => ?_)]
          · exact next
          · by_cases e1 : a = i
            · subst e1
              have e2 : (if j < a then rch A (j + 1) j else rch A j j) b = rch A j j b := by
                split
                · exact rch_row A j b
                · rfl
              simp only [eq_self, if_true]
              rw [e2, if_pos (show a < a + 1 by omega)]
              simp only [rch, hb, Bool.true_and]
            · by_cases e2 : a < i
              · simp [e1, e2, show a < i + 1 by omega]
              · simp [e1, e2, show ¬ a < i + 1 by omega]
        · have hb' : rch A j i j = false := by simpa using hb
          simp only [hb', Bool.false_eq_true, if_false, show ¬ (0 : Int) = 1 by decide]
          rw [masks_ext (M' := fun x => if x < i + 1 then rch A (j + 1) x else rch A j x) (fun a b _ _ => ?_)]
          · exact next
          · by_cases e1 : a = i
            · subst e1
              simp [rch, hb']
            · by_cases e2 : a < i
              · simp [e2, show a < i + 1 by omega]
              · simp [e2, show ¬ a < i + 1 by omega]
    have h0 := inner n 0 (by omega) (by omega)
    simpa using h0
theorem l4Later_ev (cs : List S77) (rs : List S91) (hn : cs.length ≤ 10) (hm : rs.length ≤ 24) (hin : relsIn cs rs) : Ev (fun k => spec_l4Later.f k cs rs) (masks cs.length (lat cs rs)) := by
  unfold spec_l4Later.f
  simp only [show (0 : Int) ≤ (cs.length : Int) by omega, if_true, Int.toNat_natCast, show cs.length ≤ 35184372088832 by omega]
  have key := Ev.down rs.length (fun k i => spec_l4Later.l0 k (masks cs.length (abv cs (rs.take i))) (i : Int) cs rs) (fun _ => masks cs.length (lat cs rs))
    (by
      refine Ev.step (fun k => by rw [spec_l4Later.l0]) ?_
      simp only [Int.lt_irrefl, if_false, List.take_length]
      exact later_l1 (abv cs rs) cs.length hn cs.length 0 (by omega) (by omega))
    (fun i hi ih => by
      refine Ev.step (fun k => by rw [spec_l4Later.l0]) ?_
      have h1 : (i : Int) < (rs.length : Int) := by omega
      have h2 : (0 : Int) ≤ (i : Int) := by omega
      obtain ⟨a, ha, hal⟩ := find_nat cs rs[i].f0 (hin _ (List.getElem_mem hi)).1
      obtain ⟨b, hb, hbl⟩ := find_nat cs rs[i].f1 (hin _ (List.getElem_mem hi)).2
      have h3 : (0 : Int) ≤ (a : Int) := by omega
      have h4 : (a : Int) < (cs.length : Int) := by omega
      have h5 : (0 : Int) ≤ (b : Int) := by omega
      simp only [h1, h2, if_true, rdR rs i hi, find_f, ha, hb, Option.bind_some, h3, masks_length, h4, u64_small b (by omega), h5, w64 i (by omega), Int.toNat_natCast, masks_rd hal, shl_mask cs.length b hbl (by omega), or_masks cs.length _ _ (show cs.length ≤ 62 by omega), masks_set]
      have hs := abv_snoc cs (rs.take i) rs[i] a b ha hb
      rw [← List.take_succ_eq_append_getElem hi] at hs
      rw [masks_ext (M' := abv cs (rs.take (i + 1))) (fun x y _ _ => ?_)]
      · exact ih
      · rw [← hs]
        by_cases e1 : x = a
        · subst e1
          by_cases e2 : y = b
          · subst e2; simp
          · simp [e2]
        · simp [e1])
  have h0 := key 0 (Nat.zero_le _)
  have e0 : abv cs (rs.take 0) = fun _ _ => false := by
    funext a b; simp [abv]
  simp only [e0, masks_none] at h0
  exact h0
theorem l4Consistent_ev (cs : List S77) (rs : List S91) (hn : cs.length ≤ 10) (hm : rs.length ≤ 24) (hin : relsIn cs rs) : Ev (fun k => spec_l4Consistent.f k cs rs) (consB cs.length (lat cs rs)) := by
  unfold spec_l4Consistent.f
  refine Ev.bind (l4Later_ev cs rs hn hm hin) ?_
  generalize lat cs rs = M
  have key : ∀ (d i : Nat), cs.length - i = d → i ≤ cs.length → (∀ j, j < i → M j j = false) → Ev (fun k => spec_l4Consistent.l0 k (masks cs.length M) (i : Int)) (consB cs.length M) := by
    intro d
    induction d with
    | zero =>
      intro i hd hi hA
      obtain rfl : i = cs.length := by omega
      refine Ev.step (fun q => by rw [spec_l4Consistent.l0]) ?_
      simp only [masks_length, Int.lt_irrefl, if_false]
      rw [consB_good hA]
      exact Ev.now _
    | succ d ih =>
      intro i hd hi hA
      have hlt : i < cs.length := by omega
      have a3 : (i : Int) < (cs.length : Int) := by omega
      have a4 : (0 : Int) ≤ (i : Int) := by omega
      refine Ev.step (fun q => by rw [spec_l4Consistent.l0]) ?_
      simp only [masks_length, a3, a4, if_true, w64 i (by omega)]
      rw [l4Bit_masks cs.length i i M (by omega) hlt hlt]
      simp only [Option.bind_some]
      cases hb : M i i with
      | true =>
        simp only [if_true]
        rw [consB_bad hlt hb]
        exact Ev.now _
      | false =>
        simp only [Bool.false_eq_true, if_false]
        exact ih (i + 1) (by omega) (by omega) (fun j hj => by
          by_cases e : j = i
          · subst e; exact hb
          · exact hA j (by omega))
  exact key cs.length 0 (by omega) (by omega) (fun j hj => absurd hj (Nat.not_lt_zero _))
theorem l5Good_ev (cs : List S77) (rs : List S91) : Ev (fun k => spec_l5Good.f k cs rs) (goodB cs rs && consB cs.length (lat cs rs)) := by
  unfold spec_l5Good.f
  simp only [spec_l2Good.f, Option.bind_some]
  cases hg : goodB cs rs with
  | false =>
    simp only [Bool.false_eq_true, if_false, Bool.false_and]
    exact Ev.now _
  | true =>
    obtain ⟨hn, hm, hin⟩ := goodB_parts hg
    simp only [if_true, Bool.true_and]
    first
      | exact l4Consistent_ev cs rs hn hm hin
      | exact Ev.bind (l4Consistent_ev cs rs hn hm hin) (Ev.now _)
def allF (p : Nat → Bool) (i : Nat) : Nat → Bool
  | 0 => true
  | d + 1 => p i && allF p (i + 1) d
theorem allF_iff (p : Nat → Bool) : ∀ (d i : Nat), allF p i d = true ↔ ∀ j, i ≤ j → j < i + d → p j = true
  | 0, i => by simp only [allF, true_iff]; intro j h1 h2; omega
  | d + 1, i => by
    rw [allF, Bool.and_eq_true, allF_iff p d (i + 1)]
    constructor
    · rintro ⟨h1, h2⟩ j h3 h4
      by_cases e : j = i
      · subst e; exact h1
      · exact h2 j (by omega) (by omega)
    · intro h
      exact ⟨h i (by omega) (by omega), fun j h1 h2 => h j (by omega) (by omega)⟩
theorem allF_range (p : Nat → Bool) (n : Nat) : (List.range n).all p = allF p 0 n := by
  rw [Bool.eq_iff_iff, allF_iff, List.all_eq_true]
  simp only [List.mem_range]
  exact ⟨fun h j _ hj => h j (by omega), fun h j hj => h j (by omega) (by omega)⟩
theorem not_allF {p : Nat → Bool} {i d : Nat} (h : allF p i d = false) : ∃ j, i ≤ j ∧ j < i + d ∧ p j = false := by
  induction d generalizing i with
  | zero => simp [allF] at h
  | succ d ih =>
    rw [allF] at h
    cases hp : p i with
    | false => exact ⟨i, by omega, by omega, hp⟩
    | true =>
      rw [hp, Bool.true_and] at h
      obtain ⟨j, h1, h2, h3⟩ := ih h
      exact ⟨j, by omega, by omega, h3⟩
/-- Going down a loop that stands for 'all from i on, then R'. -/
theorem Ev.all {n : Nat} (F : Nat → Nat → Option Bool) (p : Nat → Bool) (R : Bool) (hend : Ev (fun k => F k n) R) (hstep : ∀ i, i < n → ∀ X, Ev (fun k => F k (i + 1)) X → Ev (fun k => F k i) (p i && X)) : Ev (fun k => F k 0) (allF p 0 n && R) := by
  have key := Ev.down n F (fun i => allF p i (n - i) && R) (by rw [Nat.sub_self]; simpa [allF] using hend)
    (fun i hi ih => by
      obtain ⟨d, hd⟩ : ∃ d, n - i = d + 1 := ⟨n - i - 1, by omega⟩
      have hd2 : n - (i + 1) = d := by omega
      rw [hd, allF, Bool.and_assoc]
      rw [hd2] at ih
      exact hstep i hi _ ih)
  exact key 0 (Nat.zero_le _)
/-! ### lists -/
theorem contains_iff (l : List Int) (a : Int) : l.contains a = true ↔ ∃ k, k < l.length ∧ l.getD k 0 = a := by
  rw [List.contains_iff_mem, List.mem_iff_getElem]
  constructor
  · rintro ⟨k, hk, e⟩
    exact ⟨k, hk, by rw [List.getD_eq_getElem?_getD, List.getElem?_eq_getElem hk]; exact e⟩
  · rintro ⟨k, hk, e⟩
    rw [List.getD_eq_getElem?_getD, List.getElem?_eq_getElem hk] at e
    exact ⟨k, hk, e⟩
theorem contains_allF (l : List Int) (a : Int) : l.contains a = !allF (fun k => !decide (l.getD k 0 = a)) 0 l.length := by
  cases h : allF (fun k => !decide (l.getD k 0 = a)) 0 l.length with
  | false =>
    obtain ⟨j, _, hj, he⟩ := not_allF h
    rw [Bool.not_false, contains_iff]
    exact ⟨j, by omega, by simpa using he⟩
  | true =>
    rw [Bool.not_true]
    cases hc : l.contains a with
    | false => rfl
    | true =>
      obtain ⟨k, hk, e⟩ := (contains_iff l a).1 hc
      have := (allF_iff _ _ _).1 h k (by omega) (by omega)
      simp only [e, decide_true, Bool.not_true] at this
      cases this
theorem has_ev (l : List Int) (a : Int) (hl : l.length ≤ 1048576) : Ev (fun k => spec_l1Has.f k l a) (l.contains a) := by
  rw [contains_allF]
  have key := Ev.down l.length (fun k i => spec_l1Has.l0 k l a (i : Int)) (fun i => !allF (fun k => !decide (l.getD k 0 = a)) i (l.length - i))
    (by
      refine Ev.step (fun k => by rw [spec_l1Has.l0]) ?_
      simp only [Int.lt_irrefl, if_false, Nat.sub_self, allF, Bool.not_true]
      exact Ev.now _)
    (fun i hi ih => by
      refine Ev.step (fun k => by rw [spec_l1Has.l0]) ?_
      have a3 : (i : Int) < (l.length : Int) := by omega
      have a4 : (0 : Int) ≤ (i : Int) := by omega
      obtain ⟨d, hd⟩ : ∃ d, l.length - i = d + 1 := ⟨l.length - i - 1, by omega⟩
      have hd2 : l.length - (i + 1) = d := by omega
      rw [hd2] at ih
      have e : rd l (i : Int) = l.getD i 0 := by simp [rd]
      simp only [a3, a4, if_true, e, hd, allF, w64 i (by omega)]
      by_cases h : l.getD i 0 = a
      · simp only [h, if_true, decide_true, Bool.not_true, Bool.false_and, Bool.not_false]
        exact Ev.now _
      · simp only [h, if_false, decide_false, Bool.not_false, Bool.true_and]
        exact ih)
  exact key 0 (Nat.zero_le _)
def idxA {α : Type} (p : α → Bool) (l : List α) (i : Nat) : Int := if idxI p (l.drop i) = -1 then -1 else idxI p (l.drop i) + i
theorem idxA_end {α : Type} (p : α → Bool) (l : List α) : idxA p l l.length = -1 := by simp [idxA, idxI]
theorem idxA_zero {α : Type} (p : α → Bool) (l : List α) : idxA p l 0 = idxI p l := by
  unfold idxA
  rw [List.drop_zero]
  split
  · rename_i h; exact h.symm
  · simp
theorem idxA_step {α : Type} (p : α → Bool) (l : List α) (i : Nat) (h : i < l.length) : idxA p l i = if p l[i] then (i : Int) else idxA p l (i + 1) := by
  unfold idxA
  rw [List.drop_eq_getElem_cons h, idxI]
  have hr := idxI_range p (l.drop (i + 1))
  cases hp : p l[i] with
  | true => simp
  | false =>
    simp only [Bool.false_eq_true, if_false]
    by_cases h1 : idxI p (l.drop (i + 1)) = -1
    · simp [h1]
    · simp only [h1, if_false]
      rw [if_neg (by omega)]
      omega
theorem rdP (l : List S64) (i : Nat) (h : i < l.length) : rd_T64 l (i : Int) = l[i] := by simp [rd_T64, List.getD_eq_getElem?_getD, List.getElem?_eq_getElem h]
theorem getDP (l : List S64) (i : Nat) (h : i < l.length) : l.getD i z64 = l[i] := by simp [List.getD_eq_getElem?_getD, List.getElem?_eq_getElem h]
/-- What the size check lets in. -/
def Smalls (l : List S64) : Prop := l.length ≤ 1048576 ∧ ∀ p ∈ l, p.f0.size ≤ 1048576 ∧ p.f1.length ≤ 1048576
theorem Smalls.small {l : List S64} (h : Smalls l) : smallP l = true := List.all_eq_true.2 fun p hp => decide_eq_true (h.2 p hp).1
theorem phase_ev (l : List S64) (n : Int) (h : Smalls l) : Ev (fun k => spec_l7Phase.f k l n) (phI l n) := by
  unfold phI
  rw [← idxA_zero]
  have hl := h.1
  have key := Ev.down l.length (fun k i => spec_l7Phase.l0 k l n (i : Int)) (fun i => idxA (fun p : S64 => p.f1.contains n) l i)
    (by
      refine Ev.step (fun k => by rw [spec_l7Phase.l0]) ?_
      simp only [Int.lt_irrefl, if_false, idxA_end]
      exact Ev.now _)
    (fun i hi ih => by
      refine Ev.step (fun k => by rw [spec_l7Phase.l0]) ?_
      have a3 : (i : Int) < (l.length : Int) := by omega
      have a4 : (0 : Int) ≤ (i : Int) := by omega
      simp only [a3, a4, if_true, rdP l i hi, w64 i (by omega)]
      refine Ev.bind (has_ev l[i].f1 n (h.2 _ (List.getElem_mem hi)).2) ?_
      rw [idxA_step _ l i hi]
      cases hc : l[i].f1.contains n with
      | true => simp only [if_true]; exact Ev.now _
      | false => simp only [Bool.false_eq_true, if_false]; exact ih)
  exact key 0 (Nat.zero_le _)
def risAt (ms : List Int) (k : Nat) : Bool := (decide (1 ≤ ms.getD k 0) && decide (ms.getD k 0 ≤ 999)) && (decide (k = 0) || decide (ms.getD (k - 1) 0 < ms.getD k 0))
theorem rising_ev (ms : List Int) (hl : ms.length ≤ 1048576) : Ev (fun k => spec_l1Rising.f k ms 1 999) (allF (risAt ms) 0 ms.length) := by
  have h := Ev.all (n := ms.length) (fun k i => spec_l1Rising.l0 k ms 1 999 (i : Int)) (risAt ms) true
    (by
      refine Ev.step (fun k => by rw [spec_l1Rising.l0]) ?_
      simp only [Int.lt_irrefl, if_false]
      exact Ev.now _)
    (fun i hi X ih => by
      refine Ev.step (fun k => by rw [spec_l1Rising.l0]) ?_
      have a3 : (i : Int) < (ms.length : Int) := by omega
      have a4 : (0 : Int) ≤ (i : Int) := by omega
      have e : rd ms (i : Int) = ms.getD i 0 := by simp [rd]
      simp only [a3, a4, if_true, e, w64 i (by omega), spec_l1In.f]
      unfold risAt
      generalize hx : ms.getD i 0 = x
      by_cases h1 : 1 ≤ x <;> by_cases h2 : x ≤ 999
      · simp only [ge_iff_le, h1, h2, if_true, decide_true, Option.bind_some, Bool.and_self, Bool.true_and]
        by_cases h0 : i = 0
        · subst h0
          simp only [show ¬ ((0 : Nat) : Int) > 0 by omega, if_false, decide_true, Bool.true_or, Bool.true_and]
          exact ih
        · obtain ⟨j, rfl⟩ : ∃ j, i = j + 1 := ⟨i - 1, by omega⟩
          have hw : wrap64 (((j + 1 : Nat) : Int) - 1) = (j : Int) := w64p j (by omega)
          have b1 : ((j + 1 : Nat) : Int) > 0 := by omega
          have b2 : (0 : Int) ≤ (j : Int) := by omega
          have b3 : (j : Int) < (ms.length : Int) := by omega
          have e2 : rd ms (j : Int) = ms.getD j 0 := by simp [rd]
          simp only [b1, hw, b2, b3, if_true, e2, h0, decide_false, Bool.false_or, Nat.add_sub_cancel]
          by_cases h3 : x ≤ ms.getD j 0
          · simp only [h3, if_true, show ¬ ms.getD j 0 < x by omega, decide_false, Bool.false_and]
            exact Ev.now _
          · simp only [h3, if_false, show ms.getD j 0 < x by omega, decide_true, Bool.true_and]
            exact ih
      · simp only [ge_iff_le, h1, h2, if_true, decide_true, decide_false, Option.bind_some, Bool.and_false, Bool.false_and, Bool.false_eq_true, if_false]
        exact Ev.now _
      · simp only [ge_iff_le, h1, if_false, decide_false, Option.bind_some, Bool.false_and, Bool.false_eq_true]
        exact Ev.now _
      · simp only [ge_iff_le, h1, if_false, decide_false, Option.bind_some, Bool.false_and, Bool.false_eq_true]
        exact Ev.now _)
  rw [Bool.and_true] at h
  exact h
/-! ### names -/
theorem nmB_eq (s : ByteArray) : nmB s = (allF (nmAt s) 0 s.size && (decide (1 ≤ s.size) && decide (s.size ≤ 8))) := by
  unfold nmB nmFrom
  rw [allF_range]
  congr 1
  congr 1
  funext q
  rw [Nat.zero_add]
def loAt (s : ByteArray) (i : Nat) : Bool := (decide (97 ≤ bt s (i : Int)) && decide (bt s (i : Int) ≤ 122)) || (decide (48 ≤ bt s (i : Int)) && decide (bt s (i : Int) ≤ 57))
theorem name_ev (s : ByteArray) (hs : s.size ≤ 1048576) : Ev (fun k => spec_l7Name.f k s) (nmB s) := by
  have hl : Ev (fun k => spec_l7Name.l0 k s 0) (allF (loAt s) 0 s.size) := by
    have h := Ev.all (n := s.size) (fun k i => spec_l7Name.l0 k s (i : Int)) (loAt s) true
      (by
        refine Ev.step (fun k => by rw [spec_l7Name.l0]) ?_
        simp only [Int.lt_irrefl, if_false]
        exact Ev.now _)
      (fun i hi X ih => by
        refine Ev.step (fun k => by rw [spec_l7Name.l0]) ?_
        have a3 : (i : Int) < (s.size : Int) := by omega
        have a4 : (0 : Int) ≤ (i : Int) := by omega
        simp only [a3, a4, if_true, w64 i (by omega)]
        unfold loAt
        generalize bt s (i : Int) = c
        by_cases h97 : 97 ≤ c <;> by_cases h48 : 48 ≤ c <;> by_cases h122 : c ≤ 122 <;> by_cases h57 : c ≤ 57
        all_goals (first | (exfalso; omega) | skip)
        all_goals
          have r97 : (c < 97) = ¬ (97 ≤ c) := propext (by omega)
          have r48 : (c < 48) = ¬ (48 ≤ c) := propext (by omega)
          have r122 : (c > 122) = ¬ (c ≤ 122) := propext (by omega)
          have r57 : (c > 57) = ¬ (c ≤ 57) := propext (by omega)
          simp only [r97, r48, r122, r57, h97, h48, h122, h57, if_true, if_false, decide_true, decide_false, Bool.true_and, Bool.and_true, Bool.false_and, Bool.and_false, Bool.or_true, Bool.or_false, Bool.true_or, Bool.false_or, not_true_eq_false, not_false_eq_true]
          first
            | exact Ev.now _
            | exact ih)
    rw [Bool.and_true] at h
    exact h
  have hj : ∀ b, Ev (fun k => spec_l7Name.j0 k s b) (!b && allF (loAt s) 0 s.size) := by
    intro b
    refine Ev.step (fun k => by rw [spec_l7Name.j0]) ?_
    cases b with
    | true => simp only [if_true, Bool.not_true, Bool.false_and]; exact Ev.now _
    | false => simp only [Bool.false_eq_true, if_false, Bool.not_false, Bool.true_and]; exact hl
  have hjt := hj true
  rw [Bool.not_true, Bool.false_and] at hjt
  unfold spec_l7Name.f
  simp only [spec_l1In.f, ge_iff_le]
  rw [nmB_eq]
  by_cases h1 : 1 ≤ s.size
  · have h1' : (1 : Int) ≤ (s.size : Int) := by omega
    have h0' : (0 : Int) < (s.size : Int) := by omega
    by_cases h8 : s.size ≤ 8
    · have h8' : (s.size : Int) ≤ 8 := by omega
      have key : allF (nmAt s) 0 s.size = (!(!decide (97 ≤ bt s 0) || decide (bt s 0 > 122)) && allF (loAt s) 0 s.size) := by
        rw [Bool.eq_iff_iff, Bool.and_eq_true, allF_iff, allF_iff]
        constructor
        · intro h
          have h0 := h 0 (by omega) (by omega)
          refine ⟨?_, fun j h2 h3 => ?_⟩
          · unfold nmAt at h0
            have h0a : (97 ≤ bt s 0 ∧ bt s 0 ≤ 122) := by simpa using h0
            have h0b : ¬ bt s 0 > 122 := by omega
            rw [decide_eq_true h0a.1, decide_eq_false h0b]; rfl
          · have h4 := h j h2 h3
            unfold nmAt at h4
            unfold loAt
            rw [Bool.or_eq_true] at h4 ⊢
            rcases h4 with h4 | h4
            · exact .inl h4
            · exact .inr (Bool.and_eq_true _ _ ▸ h4 : _ ∧ _).2
        · rintro ⟨h0, h⟩ j h2 h3
          have h4 := h j h2 h3
          unfold loAt at h4
          unfold nmAt
          by_cases e : j = 0
          · subst e
            have hb : 97 ≤ bt s 0 ∧ bt s 0 ≤ 122 := by
              by_cases g1 : 97 ≤ bt s 0
              · by_cases g2 : bt s 0 > 122
                · rw [decide_eq_true g1, decide_eq_true g2] at h0; cases h0
                · omega
              · rw [decide_eq_false g1] at h0; cases h0
            rw [show ((0 : Nat) : Int) = 0 from rfl, decide_eq_true hb.1, decide_eq_true hb.2]; rfl
          · rw [decide_eq_true e, Bool.true_and]; exact h4
      simp only [h1', h8', h0', h1, h8, if_true, decide_true, Option.bind_some, Bool.and_self, Bool.and_true]
      rw [key]
      by_cases g1 : bt s 0 < 97
      · simp only [g1, if_true, show ¬ 97 ≤ bt s 0 by omega, decide_false, Bool.not_false, Bool.true_or, Bool.not_true, Bool.false_and]
        exact hjt
      · simp only [g1, if_false, show 97 ≤ bt s 0 by omega, decide_true, Bool.not_true, Bool.false_or]
        exact hj _
    · have h8' : ¬ (s.size : Int) ≤ 8 := by omega
      simp only [h1', h8', h8, if_true, decide_false, Option.bind_some, Bool.and_false, Bool.false_eq_true, if_false]
      exact hjt
  · have h1' : ¬ (1 : Int) ≤ (s.size : Int) := by omega
    simp only [h1', h1, if_false, decide_false, Option.bind_some, Bool.and_false, Bool.false_and, Bool.false_eq_true]
    exact hjt
/-! ### the reference's check of a grouping -/
def spMem (cs : List S77) (l : List S64) (i : Nat) (ms : List Int) (k : Nat) : Bool := decide (0 ≤ find cs (ms.getD k 0)) && decide (phI l (ms.getD k 0) = (i : Int))
def spDup (l : List S64) (s : ByteArray) (j : Nat) : Bool := !decide ((l.getD j z64).f0.toList = s.toList)
def spPh (cs : List S77) (l : List S64) (i : Nat) : Bool := (nmB (l.getD i z64).f0 && (!decide ((l.getD i z64).f1.length = 0) && allF (risAt (l.getD i z64).f1) 0 (l.getD i z64).f1.length)) && (allF (spDup l (l.getD i z64).f0) 0 i && allF (spMem cs l i (l.getD i z64).f1) 0 (l.getD i z64).f1.length)
theorem mem_loop (cs : List S77) (rs : List S91) (l : List S64) (i : Nat) (s : ByteArray) (ms : List Int) (hS : Smalls l) (hm : ms.length ≤ 1048576) (hi : i < l.length) (X : Bool) (hX : Ev (fun k => spec_l7Good.l0 k l ((i + 1 : Nat) : Int) cs rs) X) :
    Ev (fun k => spec_l7Good.l2 k l (i : Int) 0 cs rs s ms) (allF (spMem cs l i ms) 0 ms.length && X) := by
  have hl := hS.1
  exact Ev.all (n := ms.length) (fun k j => spec_l7Good.l2 k l (i : Int) (j : Int) cs rs s ms) (spMem cs l i ms) X
    (by
      refine Ev.step (fun k => by rw [spec_l7Good.l2]) ?_
      simp only [Int.lt_irrefl, if_false, w64 i (by omega)]
      exact hX)
    (fun j hj Y ih => by
      refine Ev.step (fun k => by rw [spec_l7Good.l2]) ?_
      have a3 : (j : Int) < (ms.length : Int) := by omega
      have a4 : (0 : Int) ≤ (j : Int) := by omega
      have e : rd ms (j : Int) = ms.getD j 0 := by simp [rd]
      simp only [a3, a4, if_true, e, find_f, Option.bind_some, w64 j (by omega)]
      unfold spMem
      by_cases h : find cs (ms.getD j 0) < 0
      · simp only [h, if_true, show ¬ 0 ≤ find cs (ms.getD j 0) by omega, decide_false, Bool.false_and]
        exact Ev.now _
      · simp only [h, if_false, show 0 ≤ find cs (ms.getD j 0) by omega, decide_true, Bool.true_and]
        refine Ev.bind (phase_ev l _ hS) ?_
        by_cases h2 : phI l (ms.getD j 0) = (i : Int)
        · simp only [h2, if_true, decide_true, Bool.true_and]
          exact ih
        · simp only [h2, if_false, decide_false, Bool.false_and]
          exact Ev.now _)
theorem dup_loop (cs : List S77) (rs : List S91) (l : List S64) (i : Nat) (s : ByteArray) (ms : List Int) (hS : Smalls l) (hi : i < l.length) (Y : Bool) (hY : Ev (fun k => spec_l7Good.l2 k l (i : Int) 0 cs rs s ms) Y) :
    Ev (fun k => spec_l7Good.l1 k l (i : Int) 0 cs rs s ms) (allF (spDup l s) 0 i && Y) := by
  have hl := hS.1
  exact Ev.all (n := i) (fun k j => spec_l7Good.l1 k l (i : Int) (j : Int) cs rs s ms) (spDup l s) Y
    (by
      refine Ev.step (fun k => by rw [spec_l7Good.l1]) ?_
      simp only [Int.lt_irrefl, if_false]
      exact hY)
    (fun j hj Z ih => by
      refine Ev.step (fun k => by rw [spec_l7Good.l1]) ?_
      have a3 : (j : Int) < (i : Int) := by omega
      have a5 : (j : Int) < (l.length : Int) := by omega
      have a4 : (0 : Int) ≤ (j : Int) := by omega
      simp only [a3, a4, a5, if_true, rdP l j (by omega), w64 j (by omega)]
      unfold spDup
      rw [getDP l j (by omega)]
      by_cases h : l[j].f0.toList = s.toList
      · simp only [h, if_true, decide_true, Bool.not_true, Bool.false_and]
        exact Ev.now _
      · simp only [h, if_false, decide_false, Bool.not_false, Bool.true_and]
        exact ih)
theorem good_loop (cs : List S77) (rs : List S91) (l : List S64) (hS : Smalls l) : Ev (fun k => spec_l7Good.l0 k l 0 cs rs) (allF (spPh cs l) 0 l.length) := by
  have hl := hS.1
  have h := Ev.all (n := l.length) (fun k i => spec_l7Good.l0 k l (i : Int) cs rs) (spPh cs l) true
    (by
      refine Ev.step (fun k => by rw [spec_l7Good.l0]) ?_
      simp only [Int.lt_irrefl, if_false]
      exact Ev.now _)
    (fun i hi X ih => by
      refine Ev.step (fun k => by rw [spec_l7Good.l0]) ?_
      have a3 : (i : Int) < (l.length : Int) := by omega
      have a4 : (0 : Int) ≤ (i : Int) := by omega
      simp only [a3, a4, if_true, rdP l i hi]
      have hsm := hS.2 _ (List.getElem_mem hi)
      unfold spPh
      rw [getDP l i hi]
      generalize l[i].f0 = s at hsm ⊢
      generalize l[i].f1 = ms at hsm ⊢
      have hd := dup_loop cs rs l i s ms hS hi _ (mem_loop cs rs l i s ms hS hsm.2 hi X ih)
      have hj : ∀ b, Ev (fun k => spec_l7Good.j2 k l (i : Int) b cs rs s ms) (!b && (allF (spDup l s) 0 i && (allF (spMem cs l i ms) 0 ms.length && X))) := by
        intro b
        refine Ev.step (fun k => by rw [spec_l7Good.j2]) ?_
        cases b with
        | true => simp only [if_true, Bool.not_true, Bool.false_and]; exact Ev.now _
        | false => simp only [Bool.false_eq_true, if_false, Bool.not_false, Bool.true_and]; exact hd
      have hjt := hj true
      rw [Bool.not_true, Bool.false_and] at hjt
      refine Ev.bind (name_ev s hsm.1) ?_
      cases nmB s with
      | false => simp only [Bool.false_eq_true, if_false, Bool.false_and]; exact hjt
      | true =>
        simp only [if_true, Bool.true_and]
        by_cases h0 : ms.length = 0
        · simp only [h0, show ((0 : Nat) : Int) = 0 from rfl, if_true, decide_true, Bool.not_true, Bool.false_and]
          exact hjt
        · have h0' : ¬ (ms.length : Int) = 0 := by omega
          simp only [h0, h0', if_false, decide_false, Bool.not_false, Bool.true_and]
          refine Ev.bind (rising_ev ms hsm.2) ?_
          have h3 := hj (!allF (risAt ms) 0 ms.length)
          rw [Bool.not_not] at h3
          simp only [Bool.and_assoc] at h3 ⊢
          exact h3)
  rw [Bool.and_true] at h
  exact h
theorem flatM_mem (l : List S64) (i : Nat) (a : Int) (hi : i ≤ l.length) : a ∈ flatM (l.take i) ↔ ∃ j, j < i ∧ a ∈ (l.getD j z64).f1 := by
  unfold flatM
  rw [List.mem_flatMap]
  constructor
  · rintro ⟨p, hp, ha⟩
    obtain ⟨j, hj, e⟩ := List.mem_iff_getElem.1 hp
    rw [List.length_take] at hj
    rw [List.getElem_take] at e
    exact ⟨j, by omega, by rw [getDP l j (by omega), e]; exact ha⟩
  · rintro ⟨j, hj, ha⟩
    rw [getDP l j (by omega)] at ha
    exact ⟨l[j], List.mem_iff_getElem.2 ⟨j, by rw [List.length_take]; omega, by rw [List.getElem_take]⟩, ha⟩
theorem phI_eq (l : List S64) (i : Nat) (a : Int) (hi : i < l.length) (hm : a ∈ (l.getD i z64).f1) (hn : ∀ j, j < i → a ∉ (l.getD j z64).f1) : phI l a = (i : Int) :=
  idxI_hit _ z64 l i hi (List.contains_iff_mem.2 hm) (fun j hj => by
    cases h : (l.getD j z64).f1.contains a with
    | false => rfl
    | true => exact absurd (List.contains_iff_mem.1 h) (hn j hj))
theorem phI_ne (l : List S64) (i j : Nat) (a : Int) (hj : j < i) (hi : i < l.length) (hm : a ∈ (l.getD j z64).f1) : phI l a ≠ (i : Int) := by
  intro h
  have key : ∀ d j, j + d = i → a ∈ (l.getD j z64).f1 → d ≠ 0 → False := by
    intro d j hd hm hd0
    obtain ⟨q, hq, e, hp, hno⟩ := idxI_found (fun p : S64 => p.f1.contains a) z64 l (by show phI l a ≠ -1; omega)
    have e2 : phI l a = (q : Int) := e
    have hqi : q = i := by omega
    have := hno j (by omega)
    rw [List.contains_iff_mem.2 hm] at this
    cases this
  exact key (i - j) j (by omega) hm (by omega)
theorem ris_chain {ms : List Int} (h : allF (risAt ms) 0 ms.length = true) : ∀ d j, j + (d + 1) < ms.length → ms.getD j 0 < ms.getD (j + (d + 1)) 0 := by
  have h1 : ∀ j, j + 1 < ms.length → ms.getD j 0 < ms.getD (j + 1) 0 := by
    intro j hj
    have h2 := (allF_iff _ _ _).1 h (j + 1) (by omega) (by omega)
    unfold risAt at h2
    rw [Bool.and_eq_true, Bool.or_eq_true] at h2
    rcases h2.2 with h3 | h3
    · have := of_decide_eq_true h3; omega
    · exact of_decide_eq_true h3
  intro d
  induction d with
  | zero => exact h1
  | succ d ih =>
    intro j hj
    have a := ih j (by omega)
    have b := h1 (j + (d + 1)) (by omega)
    rw [show j + (d + 1 + 1) = j + (d + 1) + 1 by omega]
    omega
theorem mem_getD {ms : List Int} {k : Nat} (hk : k < ms.length) : ms.getD k 0 ∈ ms := by
  rw [List.getD_eq_getElem?_getD, List.getElem?_eq_getElem hk]
  exact List.getElem_mem hk
theorem take_mem {ms : List Int} {k : Nat} {a : Int} (hk : k ≤ ms.length) : a ∈ ms.take k ↔ ∃ j, j < k ∧ ms.getD j 0 = a := by
  rw [List.mem_iff_getElem]
  constructor
  · rintro ⟨j, hj, e⟩
    rw [List.length_take] at hj
    rw [List.getElem_take] at e
    exact ⟨j, by omega, by rw [List.getD_eq_getElem?_getD, List.getElem?_eq_getElem (by omega)]; exact e⟩
  · rintro ⟨j, hj, e⟩
    rw [List.getD_eq_getElem?_getD, List.getElem?_eq_getElem (by omega)] at e
    exact ⟨j, by rw [List.length_take]; omega, by rw [List.getElem_take]; exact e⟩
/-- The two ways of looking at phase i agree. -/
theorem ph_same {cs : List S77} {rs : List S91} (hg : goodB cs rs = true) (l : List S64) (i : Nat) (hi : i < l.length) : phOk cs l i = spPh cs l i := by
  unfold phOk spPh
  have hdup : (!((l.take i).any fun q => q.f0.toList == (l.getD i z64).f0.toList)) = allF (spDup l (l.getD i z64).f0) 0 i := by
    generalize (l.getD i z64).f0 = s
    rw [Bool.eq_iff_iff, allF_iff, Bool.not_eq_true', List.any_eq_false]
    constructor
    · intro h j _ hj
      unfold spDup
      rw [getDP l j (by omega)]
      have := h l[j] (List.mem_iff_getElem.2 ⟨j, by rw [List.length_take]; omega, by rw [List.getElem_take]⟩)
      simpa using this
    · intro h q hq
      obtain ⟨j, hj, e⟩ := List.mem_iff_getElem.1 hq
      rw [List.length_take] at hj
      rw [List.getElem_take] at e
      have := h j (by omega) (by omega)
      unfold spDup at this
      rw [getDP l j (by omega), e] at this
      simpa using this
  rw [hdup, allF_range]
  obtain ⟨ms, hms⟩ : ∃ ms, (l.getD i z64).f1 = ms := ⟨_, rfl⟩
  rw [hms]
  have key : allF (memOk cs (flatM (l.take i)) ms) 0 ms.length = (allF (risAt ms) 0 ms.length && allF (spMem cs l i ms) 0 ms.length) := by
    rw [Bool.eq_iff_iff, Bool.and_eq_true, allF_iff, allF_iff, allF_iff]
    constructor
    · intro h
      have hk : ∀ k, k < ms.length → 0 ≤ find cs (ms.getD k 0) ∧ ms.getD k 0 ∉ flatM (l.take i) ++ ms.take k ∧ ¬ (0 < k ∧ ms.getD k 0 ≤ ms.getD (k - 1) 0) := by
        intro k hk
        have := h k (by omega) (by omega)
        unfold memOk at this
        rw [Bool.and_eq_true, Bool.and_eq_true, Bool.not_eq_true', Bool.not_eq_true'] at this
        refine ⟨of_decide_eq_true this.1.1, fun hm => ?_, fun hc => ?_⟩
        · rw [List.contains_iff_mem.2 hm] at this; cases this.1.2
        · rw [decide_eq_true hc.1, decide_eq_true hc.2] at this; cases this.2
      refine ⟨fun k _ hk2 => ?_, fun k _ hk2 => ?_⟩
      · obtain ⟨h1, h2, h3⟩ := hk k (by omega)
        have hn := find_num hg h1
        unfold risAt
        rw [decide_eq_true hn.1, decide_eq_true hn.2]
        by_cases e : k = 0
        · rw [decide_eq_true e]; rfl
        · rw [decide_eq_true (show ms.getD (k - 1) 0 < ms.getD k 0 by omega), Bool.or_true]; rfl
      · obtain ⟨h1, h2, h3⟩ := hk k (by omega)
        unfold spMem
        rw [decide_eq_true h1, Bool.true_and]
        refine decide_eq_true (phI_eq l i _ hi (by rw [hms]; exact mem_getD (by omega)) (fun j hj hm => h2 ?_))
        exact List.mem_append.2 (.inl ((flatM_mem l i _ (by omega)).2 ⟨j, hj, hm⟩))
    · rintro ⟨hr, hm⟩ k _ hk
      have hc := ris_chain ((allF_iff _ _ _).2 hr)
      have h1 := hm k (by omega) (by omega)
      unfold spMem at h1
      rw [Bool.and_eq_true] at h1
      have h2 := of_decide_eq_true h1.2
      have h3 : ms.getD k 0 ∉ flatM (l.take i) ++ ms.take k := by
        intro hmem
        rcases List.mem_append.1 hmem with h4 | h4
        · obtain ⟨j, hj, h5⟩ := (flatM_mem l i _ (by omega)).1 h4
          exact phI_ne l i j _ hj hi h5 h2
        · obtain ⟨j, hj, h5⟩ := (take_mem (by omega)).1 h4
          have := hc (k - j - 1) j (by omega)
          rw [show j + (k - j - 1 + 1) = k by omega] at this
          omega
      unfold memOk
      have h4 : (flatM (l.take i) ++ ms.take k).contains (ms.getD k 0) = false := by
        cases h : (flatM (l.take i) ++ ms.take k).contains (ms.getD k 0) with
        | false => rfl
        | true => exact absurd (List.contains_iff_mem.1 h) h3
      rw [h1.1, h4]
      by_cases e : 0 < k
      · have := hc 0 (k - 1) (by omega)
        rw [show k - 1 + (0 + 1) = k by omega] at this
        rw [decide_eq_true e, decide_eq_false (show ¬ ms.getD k 0 ≤ ms.getD (k - 1) 0 by omega)]; rfl
      · rw [decide_eq_false e]; rfl
  rw [key]
  generalize nmB (l.getD i z64).f0 = a
  generalize decide (ms.length = 0) = b
  generalize allF (spDup l (l.getD i z64).f0) 0 i = c
  generalize allF (risAt ms) 0 ms.length = d
  generalize allF (spMem cs l i ms) 0 ms.length = e
  cases a <;> cases b <;> cases c <;> cases d <;> cases e <;> rfl
theorem allF_congr {p q : Nat → Bool} (n : Nat) (h : ∀ i, i < n → p i = q i) : allF p 0 n = allF q 0 n := by
  rw [Bool.eq_iff_iff, allF_iff, allF_iff]
  exact ⟨fun g j h1 h2 => by rw [← h j (by omega)]; exact g j h1 h2, fun g j h1 h2 => by rw [h j (by omega)]; exact g j h1 h2⟩
theorem l7Good_ev (cs : List S77) (rs : List S91) (l : List S64) (hS : Smalls l) : Ev (fun k => spec_l7Good.f k cs rs l) (validG cs rs l) := by
  have hj : ∀ b, Ev (fun k => spec_l7Good.j0 k l b cs rs) (!b && allF (spPh cs l) 0 l.length) := by
    intro b
    refine Ev.step (fun k => by rw [spec_l7Good.j0]) ?_
    cases b with
    | true => simp only [if_true, Bool.not_true, Bool.false_and]; exact Ev.now _
    | false => simp only [Bool.false_eq_true, if_false, Bool.not_false, Bool.true_and]; exact good_loop cs rs l hS
  have hjt := hj true
  rw [Bool.not_true, Bool.false_and] at hjt
  unfold spec_l7Good.f validG
  refine Ev.bind (l5Good_ev cs rs) ?_
  cases hg : goodB cs rs with
  | false => simp only [Bool.false_and, Bool.false_eq_true, if_false]; exact hjt
  | true =>
    cases hc : consB cs.length (lat cs rs) with
    | false => simp only [Bool.and_false, Bool.false_and, Bool.false_eq_true, if_false]; exact hjt
    | true =>
      simp only [Bool.and_self, Bool.true_and, if_true]
      have h := hj (decide ((l.length : Int) > 6))
      have e : grpB cs l = (!decide ((l.length : Int) > 6) && allF (spPh cs l) 0 l.length) := by
        unfold grpB
        rw [allF_range, allF_congr l.length (fun i hi => ph_same hg l i hi), Bool.and_comm]
        congr 1
        by_cases h6 : l.length ≤ 6
        · rw [decide_eq_true h6, decide_eq_false (show ¬ (l.length : Int) > 6 by omega)]; rfl
        · rw [decide_eq_false h6, decide_eq_true (show (l.length : Int) > 6 by omega)]; rfl
      rw [e]
      exact h
/-! ### the law's own helpers -/
def cvP (x : S61) : S64 := ⟨x.f0, x.f1⟩
theorem rdPl (l : List S61) (i : Nat) (h : i < l.length) : rd_T61 l (i : Int) = l[i] := by simp [rd_T61, List.getD_eq_getElem?_getD, List.getElem?_eq_getElem h]
theorem toIntS_ev (l : List Int) (hl : l.length ≤ 1048576) : Ev (fun k => laws_toIntS.f k l) l := by
  unfold laws_toIntS.f
  have h1 : (0 : Int) ≤ (l.length : Int) := by omega
  have h2 : l.length ≤ 35184372088832 := by omega
  simp only [h1, if_true, Int.toNat_natCast, h2]
  have key := Ev.down l.length (fun k i => laws_toIntS.l0 k l ((l.take i).map id ++ List.replicate (l.length - i) 0) (i : Int)) (fun _ => l)
    (by
      refine Ev.step (fun k => by rw [laws_toIntS.l0]) ?_
      simp only [Int.lt_irrefl, if_false, List.take_length, Nat.sub_self, List.replicate_zero, List.append_nil, List.map_id]
      exact Ev.now _)
    (fun i hi ih => by
      refine Ev.step (fun k => by rw [laws_toIntS.l0]) ?_
      have a1 : (i : Int) < (l.length : Int) := by omega
      have a2 : (0 : Int) ≤ (i : Int) := by omega
      have a3 : (i : Int) < ((((l.take i).map id ++ List.replicate (l.length - i) 0).length : Nat) : Int) := by
        rw [List.length_append, List.length_map, List.length_take, List.length_replicate]
        omega
      have e := acc_step id 0 l i hi
      simp only [a1, a2, a3, if_true, rdI l i hi, w64 i (by omega), Int.toNat_natCast]
      rw [show l[i] = id l[i] from rfl, e]
      exact ih)
  have h0 := key 0 (Nat.zero_le _)
  simpa using h0
theorem toPhaseS_ev (l : List S61) (hl : l.length ≤ 1048576) (hm : ∀ p ∈ l, p.f1.length ≤ 1048576) : Ev (fun k => laws_toPhaseS.f k l) (l.map cvP) := by
  unfold laws_toPhaseS.f
  have h1 : (0 : Int) ≤ (l.length : Int) := by omega
  have h2 : l.length ≤ 7036874417766 := by omega
  simp only [h1, if_true, Int.toNat_natCast, h2]
  have key := Ev.down l.length (fun k i => laws_toPhaseS.l0 k l ((l.take i).map cvP ++ List.replicate (l.length - i) z64) (i : Int)) (fun _ => l.map cvP)
    (by
      refine Ev.step (fun k => by rw [laws_toPhaseS.l0]) ?_
      simp only [Int.lt_irrefl, if_false, List.take_length, Nat.sub_self, List.replicate_zero, List.append_nil]
      exact Ev.now _)
    (fun i hi ih => by
      refine Ev.step (fun k => by rw [laws_toPhaseS.l0]) ?_
      have a1 : (i : Int) < (l.length : Int) := by omega
      have a2 : (0 : Int) ≤ (i : Int) := by omega
      have a3 : (i : Int) < ((((l.take i).map cvP ++ List.replicate (l.length - i) z64).length : Nat) : Int) := by
        rw [List.length_append, List.length_map, List.length_take, List.length_replicate]
        omega
      simp only [a1, a2, a3, if_true, rdPl l i hi, w64 i (by omega), Int.toNat_natCast]
      have h : Ev (fun k => laws_toPhase.f k l[i].f0 l[i].f1) (l[i].f0, l[i].f1) := by
        unfold laws_toPhase.f
        refine Ev.bind (toIntS_ev l[i].f1 (hm _ (List.getElem_mem hi))) ?_
        exact Ev.now _
      refine Ev.bind h ?_
      have e := acc_step cvP z64 l i hi
      unfold cvP at e ih ⊢
      rw [e]
      exact ih)
  have h0 := key 0 (Nat.zero_le _)
  simpa using h0
theorem eqPh_ev (a : List S64) (h : Smalls a) : Ev (fun k => laws_eqPhaseS.f k a a) true := by
  have ha := h.1
  unfold laws_eqPhaseS.f
  simp only [if_true]
  have key := Ev.down a.length (fun k i => laws_eqPhaseS.l0 k a a (i : Int)) (fun _ => true)
    (by
      refine Ev.step (fun k => by rw [laws_eqPhaseS.l0]) ?_
      simp only [Int.lt_irrefl, if_false]
      exact Ev.now _)
    (fun i hi ih => by
      refine Ev.step (fun k => by rw [laws_eqPhaseS.l0]) ?_
      have a3 : (i : Int) < (a.length : Int) := by omega
      have a4 : (0 : Int) ≤ (i : Int) := by omega
      simp only [a3, a4, if_true, w64 i (by omega), rdP a i hi]
      have h1 : Ev (fun k => laws_eqPhase.f k a[i].f0 a[i].f1 a[i].f0 a[i].f1) true := by
        unfold laws_eqPhase.f
        simp only [if_true]
        refine Ev.bind (eqIntS_ev a[i].f1 (h.2 _ (List.getElem_mem hi)).2) ?_
        simp only [if_true]
        exact Ev.now _
      refine Ev.bind h1 ?_
      simp only [if_true]
      exact ih)
  exact key 0 (Nat.zero_le _)
theorem szPhase_eq (s : ByteArray) (ms : List Int) (x : Int) (hx : 0 ≤ x ∧ x ≤ 1048576) (hs : s.size ≤ 9223372036854775807) (hm : ms.length ≤ 9223372036854775807) :
    ∃ t, laws_szPhase.f s ms x = some t ∧ (t < 0 ∨ (0 ≤ t ∧ t ≤ 1048576 ∧ s.size ≤ 1048576 ∧ ms.length ≤ 1048576 ∧ t + ms.length ≤ x)) := by
  unfold laws_szPhase.f laws_szIntS.f
  have e0 : wrap64 (x - (s.size : Int)) = x - (s.size : Int) := by unfold wrap64; omega
  rw [e0]
  by_cases h0 : (x - (s.size : Int)) < 0
  · exact ⟨-1, by simp [h0], .inl (by omega)⟩
  · have e1 : wrap64 (x - (s.size : Int) - (ms.length : Int)) = x - (s.size : Int) - (ms.length : Int) := by unfold wrap64; omega
    simp only [h0, if_false, e1]
    by_cases h1 : (x - (s.size : Int) - (ms.length : Int)) < 0
    · exact ⟨-1, by simp [h1], .inl (by omega)⟩
    · exact ⟨x - (s.size : Int) - (ms.length : Int), by simp [h1], .inr (by omega)⟩
def sumM : List S61 → Nat
  | [] => 0
  | p :: r => p.f1.length + sumM r
theorem szPhaseS_ev (l : List S61) (x : Int) (hx : 0 ≤ x ∧ x ≤ 1048576) (hl : l.length ≤ 9223372036854775807) (hm : ∀ p ∈ l, p.f0.size ≤ maxLen ∧ p.f1.length ≤ 9223372036854775807) :
    ∃ t, Ev (fun k => laws_szPhaseS.f k l x) t ∧ (t < 0 ∨ (0 ≤ t ∧ t ≤ 1048576 ∧ l.length ≤ 1048576 ∧ (∀ p ∈ l, p.f0.size ≤ 1048576 ∧ p.f1.length ≤ 1048576) ∧ sumM l ≤ 1048576)) := by
  unfold laws_szPhaseS.f
  have e0 : wrap64 (x - (l.length : Int)) = x - (l.length : Int) := by unfold wrap64; omega
  simp only [e0]
  by_cases h0 : (x - (l.length : Int)) < 0
  · exact ⟨-1, by simp only [h0, if_true]; exact Ev.now _, .inl (by omega)⟩
  · simp only [h0, if_false]
    have hl2 : l.length ≤ 1048576 := by omega
    have key : ∀ d i y, l.length - i = d → i ≤ l.length → 0 ≤ y ∧ y ≤ 1048576 → ∃ t, Ev (fun k => laws_szPhaseS.l0 k l y (i : Int)) t ∧ (t < 0 ∨ (0 ≤ t ∧ t ≤ 1048576 ∧ (∀ j, i ≤ j → (hj : j < l.length) → (l[j].f0.size ≤ 1048576 ∧ l[j].f1.length ≤ 1048576)) ∧ ((sumM (l.drop i) : Nat) : Int) ≤ y)) := by
      intro d
      induction d with
      | zero =>
        intro i y hd hi hy
        obtain rfl : i = l.length := by omega
        refine ⟨y, ?_, .inr ⟨hy.1, hy.2, fun j h1 h2 => by omega, by rw [List.drop_length]; show ((0 : Nat) : Int) ≤ y; omega⟩⟩
        refine Ev.step (fun k => by rw [laws_szPhaseS.l0]) ?_
        simp only [Int.lt_irrefl, if_false]
        exact Ev.now _
      | succ d ih =>
        intro i y hd hi hy
        have hil : i < l.length := by omega
        have a3 : (i : Int) < (l.length : Int) := by omega
        have a4 : (0 : Int) ≤ (i : Int) := by omega
        have hmi := hm _ (List.getElem_mem hil)
        obtain ⟨t, ht, hc⟩ := szPhase_eq l[i].f0 l[i].f1 y hy (by have := hmi.1; unfold maxLen at this; omega) hmi.2
        rcases hc with hc | ⟨g1, g2, g3, g4, g5⟩
        · refine ⟨-1, ?_, .inl (by omega)⟩
          refine Ev.step (fun k => by rw [laws_szPhaseS.l0]) ?_
          simp only [a3, a4, if_true, rdPl l i hil, ht, Option.bind_some, hc]
          exact Ev.now _
        · obtain ⟨u, hu, hcu⟩ := ih (i + 1) t (by omega) (by omega) ⟨g1, g2⟩
          refine ⟨u, ?_, ?_⟩
          · refine Ev.step (fun k => by rw [laws_szPhaseS.l0]) ?_
            simp only [a3, a4, if_true, rdPl l i hil, ht, Option.bind_some, show ¬ t < 0 by omega, if_false, w64 i (by omega)]
            exact hu
          · rcases hcu with hcu | ⟨k1, k2, k3, k4⟩
            · exact .inl hcu
            · refine .inr ⟨k1, k2, fun j h1 h2 => ?_, by rw [List.drop_eq_getElem_cons hil, sumM]; omega⟩
              by_cases e : j = i
              · subst e; exact ⟨g3, g4⟩
              · exact k3 j (by omega) h2
    obtain ⟨t, ht, hc⟩ := key l.length 0 (x - (l.length : Int)) (by omega) (by omega) (by omega)
    refine ⟨t, ht, ?_⟩
    rcases hc with hc | ⟨k1, k2, k3, k4⟩
    · exact .inl hc
    · rw [List.drop_zero] at k4
      refine .inr ⟨k1, k2, hl2, fun p hp => ?_, by omega⟩
      obtain ⟨j, hj, e⟩ := List.mem_iff_getElem.1 hp
      have := k3 j (by omega) hj
      rwa [e] at this
theorem smalls_cv {l : List S61} (hl : l.length ≤ 1048576) (h : ∀ p ∈ l, p.f0.size ≤ 1048576 ∧ p.f1.length ≤ 1048576) : Smalls (l.map cvP) := by
  refine ⟨by rw [List.length_map]; exact hl, fun p hp => ?_⟩
  obtain ⟨q, hq, rfl⟩ := List.mem_map.1 hp
  exact h q hq
theorem totPH_cv : ∀ l : List S61, LB.totPH (l.map cvP) = l.length + sumM l
  | [] => rfl
  | p :: r => by
    rw [List.map_cons, LB.totPH, totPH_cv r, sumM, List.length_cons]
    show 1 + p.f1.length + (r.length + sumM r) = _
    omega
theorem phI_range (l : List S64) (y : Int) : -1 ≤ phI l y ∧ phI l y < l.length := idxI_range _ l
theorem above_step (m : Nat) (hm : m ≤ 62) (cs : List S77) (l : List S64) (M : Nat → Nat → Bool) (i k : Nat) (T : Nat → Nat → Bool) (pn qn : Nat) (hp : pn < m) (hq : qn < m) (e1 : phI l (cs.getD i z77).f0 = (pn : Int)) (e2 : phI l (cs.getD k z77).f0 = (qn : Int)) (hb : lpB cs l M i k = true) :
    (masks m T).set pn (Go.bits .or .i64 (rd (masks m T) (pn : Int)) (shl .i64 1 (qn : Int))) = masks m (lpSet cs l M i k T) := by
  rw [masks_rd hp, shl_mask m qn hq hm, or_masks m _ _ hm, masks_set]
  refine masks_ext (fun a b ha hbm => ?_)
  unfold lpSet
  rw [e1, e2, hb, Int.toNat_natCast, Int.toNat_natCast]
  by_cases ha2 : a = pn
  · subst ha2
    by_cases hb2 : b = qn
    · subst hb2; simp
    · simp [hb2]
  · simp [ha2]
theorem lpSet_no {cs : List S77} {l : List S64} {M : Nat → Nat → Bool} {i k : Nat} (T : Nat → Nat → Bool) (h : lpB cs l M i k = false) : lpSet cs l M i k T = T := by
  funext a b
  unfold lpSet
  rw [h, if_neg (fun h => by cases h.1)]
theorem above_ev {cs : List S77} {rs : List S91} (hg : goodB cs rs = true) (l : List S64) (hS : Smalls l) (hl6 : l.length ≤ 6) : Ev (fun k => spec_l7Above.f k cs rs l) (masks l.length (lpM cs l (lat cs rs))) := by
  obtain ⟨hn, hm, hin⟩ := goodB_parts hg
  unfold spec_l7Above.f
  refine Ev.bind (l4Later_ev cs rs hn hm hin) ?_
  have h1 : (0 : Int) ≤ (l.length : Int) := by omega
  have h2 : l.length ≤ 35184372088832 := by omega
  simp only [h1, h2, if_true, Int.toNat_natCast, ← masks_none]
  generalize lat cs rs = M
  unfold lpM
  exact Ev.down cs.length (fun k i => spec_l7Above.l0 k l (masks cs.length M) (masks l.length (lpAll cs l M i)) (i : Int) cs rs) (fun _ => masks l.length (lpAll cs l M cs.length))
    (by
      refine Ev.step (fun k => by rw [spec_l7Above.l0]) ?_
      simp only [masks_length, Int.lt_irrefl, if_false]
      exact Ev.now _)
    (fun i hi ih => by
      refine Ev.step (fun k => by rw [spec_l7Above.l0]) ?_
      have a3 : (i : Int) < (cs.length : Int) := by omega
      have a4 : (0 : Int) ≤ (i : Int) := by omega
      simp only [masks_length, a3, if_true]
      have ih' : Ev (fun k => spec_l7Above.l0 k l (masks cs.length M) (masks l.length (lpRow cs l M i (lpAll cs l M i) cs.length)) ((i + 1 : Nat) : Int) cs rs) (masks l.length (lpAll cs l M cs.length)) := ih
      generalize lpAll cs l M i = T0 at ih'
      exact Ev.down cs.length (fun k j => spec_l7Above.l1 k l (masks cs.length M) (masks l.length (lpRow cs l M i T0 j)) (i : Int) (j : Int) cs rs) (fun _ => masks l.length (lpAll cs l M cs.length))
        (by
          refine Ev.step (fun k => by rw [spec_l7Above.l1]) ?_
          simp only [masks_length, Int.lt_irrefl, if_false, w64 i (by omega)]
          exact ih')
        (fun j hj ih2 => by
          refine Ev.step (fun k => by rw [spec_l7Above.l1]) ?_
          have b3 : (j : Int) < (cs.length : Int) := by omega
          have b4 : (0 : Int) ≤ (j : Int) := by omega
          simp only [masks_length, a3, a4, b3, b4, if_true, rdC cs i hi, rdC cs j hj, w64 j (by omega)]
          refine Ev.bind (phase_ev l _ hS) ?_
          refine Ev.bind (phase_ev l _ hS) ?_
          rw [l4Bit_masks cs.length i j M (by omega) hi hj]
          simp only [Option.bind_some]
          have ih3 : Ev (fun k => spec_l7Above.l1 k l (masks cs.length M) (masks l.length (lpSet cs l M i j (lpRow cs l M i T0 j))) (i : Int) ((j + 1 : Nat) : Int) cs rs) (masks l.length (lpAll cs l M cs.length)) := ih2
          generalize lpRow cs l M i T0 j = T at ih3
          have hb : lpB cs l M i j = (M i j && (decide (0 ≤ phI l cs[i].f0) && (decide (0 ≤ phI l cs[j].f0) && !decide (phI l cs[i].f0 = phI l cs[j].f0)))) := by unfold lpB; rw [getDC cs i hi, getDC cs j hj]
          have r1 := phI_range l cs[i].f0
          have r2 := phI_range l cs[j].f0
          have e1 : phI l (cs.getD i z77).f0 = phI l cs[i].f0 := by rw [getDC cs i hi]
          have e2 : phI l (cs.getD j z77).f0 = phI l cs[j].f0 := by rw [getDC cs j hj]
          generalize phI l cs[i].f0 = pa at hb r1 e1 ⊢
          generalize phI l cs[j].f0 = pb at hb r2 e2 ⊢
          cases hmm : M i j with
          | false =>
            rw [hmm, Bool.false_and] at hb
            rw [lpSet_no _ hb] at ih3
            simp only [Bool.false_eq_true, if_false]
            exact ih3
          | true =>
            rw [hmm, Bool.true_and] at hb
            simp only [if_true, ge_iff_le]
            by_cases h1 : 0 ≤ pa
            · by_cases h2 : 0 ≤ pb
              · by_cases h3 : pa = pb
                · rw [decide_eq_true h3, Bool.not_true, Bool.and_false, Bool.and_false] at hb
                  rw [lpSet_no _ hb] at ih3
                  simp only [h1, h2, h3, if_true]
                  exact ih3
                · rw [decide_eq_true h1, decide_eq_true h2, decide_eq_false h3] at hb
                  obtain ⟨pn, rfl⟩ : ∃ q : Nat, pa = (q : Int) := ⟨pa.toNat, by omega⟩
                  obtain ⟨qn, rfl⟩ : ∃ q : Nat, pb = (q : Int) := ⟨pb.toNat, by omega⟩
                  have hpn : pn < l.length := by omega
                  have hqn : qn < l.length := by omega
                  have c1 : (pn : Int) < (l.length : Int) := by omega
                  simp only [h1, h2, h3, if_true, if_false, c1, u64_small qn (by omega), Int.toNat_natCast, above_step l.length (by omega) cs l M i j T pn qn hpn hqn e1 e2 hb]
                  exact ih3
              · rw [decide_eq_false h2, Bool.false_and, Bool.and_false] at hb
                rw [lpSet_no _ hb] at ih3
                simp only [h1, h2, if_true, if_false]
                exact ih3
            · rw [decide_eq_false h1, Bool.false_and] at hb
              rw [lpSet_no _ hb] at ih3
              simp only [h1, if_false]
              exact ih3) 0 (Nat.zero_le _)) 0 (Nat.zero_le _)
def fuRest (cs : List S77) (l : List S64) (M : Nat → Nat → Bool) (i : Nat) : Int × Int × Bool × Bool := fuRes cs (fuAll (fuAt cs l M) cs.length i (cs.length - i))
def fuIn (cs : List S77) (l : List S64) (M : Nat → Nat → Bool) (i k : Nat) : Int × Int × Bool × Bool := match fuRow (fuAt cs l M i) k (cs.length - k) with
  | some j => fuRes cs (some (i, j))
  | none => fuRest cs l M (i + 1)
theorem fuIn_zero (cs : List S77) (l : List S64) (M : Nat → Nat → Bool) (i : Nat) (hi : i < cs.length) : fuRest cs l M i = fuIn cs l M i 0 := by
  unfold fuRest fuIn
  obtain ⟨d, hd⟩ : ∃ d, cs.length - i = d + 1 := ⟨cs.length - i - 1, by omega⟩
  rw [hd, fuAll, Nat.sub_zero]
  cases h : fuRow (fuAt cs l M i) 0 cs.length with
  | some j => rfl
  | none =>
    simp only [fuRest]
    rw [show cs.length - (i + 1) = d by omega]
theorem fuIn_end (cs : List S77) (l : List S64) (M : Nat → Nat → Bool) (i : Nat) : fuIn cs l M i cs.length = fuRest cs l M (i + 1) := by
  unfold fuIn
  rw [Nat.sub_self, fuRow]
theorem fuIn_yes (cs : List S77) (l : List S64) (M : Nat → Nat → Bool) (i k : Nat) (hk : k < cs.length) (h : fuAt cs l M i k = true) : fuIn cs l M i k = fuRes cs (some (i, k)) := by
  unfold fuIn
  rw [fuRow_yes _ k (cs.length - (k + 1)) (by omega) h]
theorem fuIn_no (cs : List S77) (l : List S64) (M : Nat → Nat → Bool) (i k : Nat) (hk : k < cs.length) (h : fuAt cs l M i k = false) : fuIn cs l M i k = fuIn cs l M i (k + 1) := by
  unfold fuIn
  rw [fuRow_no _ k (cs.length - (k + 1)) (by omega) h]
theorem fu_ev (cs : List S77) (rs : List S91) (l : List S64) (M : Nat → Nat → Bool) (hn : cs.length ≤ 10) (hS : Smalls l) : Ev (fun k => spec_FirstUnsound.l0 k l (masks cs.length M) 0 cs rs) (fuRest cs l M 0) := by
  exact Ev.down cs.length (fun k i => spec_FirstUnsound.l0 k l (masks cs.length M) (i : Int) cs rs) (fun i => fuRest cs l M i)
    (by
      refine Ev.step (fun k => by rw [spec_FirstUnsound.l0]) ?_
      simp only [masks_length, Int.lt_irrefl, if_false]
      unfold fuRest
      rw [Nat.sub_self]
      exact Ev.now _)
    (fun i hi ih => by
      refine Ev.step (fun k => by rw [spec_FirstUnsound.l0]) ?_
      have a3 : (i : Int) < (cs.length : Int) := by omega
      have a4 : (0 : Int) ≤ (i : Int) := by omega
      simp only [masks_length, a3, if_true]
      rw [fuIn_zero cs l M i hi]
      exact Ev.down cs.length (fun k j => spec_FirstUnsound.l1 k l (masks cs.length M) (i : Int) (j : Int) cs rs) (fun j => fuIn cs l M i j)
        (by
          refine Ev.step (fun k => by rw [spec_FirstUnsound.l1]) ?_
          simp only [masks_length, Int.lt_irrefl, if_false, w64 i (by omega), fuIn_end]
          exact ih)
        (fun j hj ih2 => by
          refine Ev.step (fun k => by rw [spec_FirstUnsound.l1]) ?_
          have b3 : (j : Int) < (cs.length : Int) := by omega
          have b4 : (0 : Int) ≤ (j : Int) := by omega
          simp only [masks_length, a3, a4, b3, b4, if_true, rdC cs i hi, rdC cs j hj, w64 j (by omega)]
          refine Ev.bind (phase_ev l _ hS) ?_
          refine Ev.bind (phase_ev l _ hS) ?_
          rw [l4Bit_masks cs.length i j M (by omega) hi hj]
          simp only [Option.bind_some]
          have hat : fuAt cs l M i j = (M i j && (decide (0 ≤ phI l cs[j].f0) && decide (phI l cs[j].f0 < phI l cs[i].f0))) := by unfold fuAt; rw [getDC cs i hi, getDC cs j hj]
          cases hm : M i j with
          | false =>
            rw [hm, Bool.false_and] at hat
            rw [fuIn_no cs l M i j hj hat]
            simp only [Bool.false_eq_true, if_false]
            exact ih2
          | true =>
            rw [hm, Bool.true_and] at hat
            simp only [if_true, ge_iff_le]
            by_cases h1 : 0 ≤ phI l cs[j].f0
            · by_cases h2 : phI l cs[j].f0 < phI l cs[i].f0
              · rw [decide_eq_true h1, decide_eq_true h2] at hat
                rw [fuIn_yes cs l M i j hj hat]
                simp only [h1, h2, if_true, fuRes, getDC cs i hi, getDC cs j hj]
                exact Ev.now _
              · rw [decide_eq_false h2, Bool.and_false] at hat
                rw [fuIn_no cs l M i j hj hat]
                simp only [h1, h2, if_true, if_false]
                exact ih2
            · rw [decide_eq_false h1, Bool.false_and] at hat
              rw [fuIn_no cs l M i j hj hat]
              simp only [h1, if_false]
              exact ih2) 0 (Nat.zero_le _)) 0 (Nat.zero_le _)
def fuAns (cs : List S77) (rs : List S91) (l : List S64) : Int × Int × Bool × Bool := if validG cs rs l then fuRes cs (fuAll (fuAt cs l (lat cs rs)) cs.length 0 cs.length) else (0, 0, false, false)
theorem fuSpec_ev (cs : List S77) (rs : List S91) (l : List S64) (hS : Smalls l) : Ev (fun k => spec_FirstUnsound.f k cs rs l) (fuAns cs rs l) := by
  unfold spec_FirstUnsound.f fuAns
  refine Ev.bind (l7Good_ev _ _ _ hS) ?_
  by_cases hv : validG cs rs l = true
  · have hg : goodB cs rs = true := by unfold validG at hv; rw [Bool.and_eq_true] at hv; exact hv.1
    obtain ⟨hn, hm, hin⟩ := goodB_parts hg
    simp only [hv, if_true]
    refine Ev.bind (l4Later_ev cs rs hn hm hin) ?_
    have h := fu_ev cs rs l (lat cs rs) hn hS
    unfold fuRest at h
    rw [Nat.sub_zero] at h
    exact h
  · simp only [hv, if_false]; exact Ev.now _
theorem lpRow_true (cs : List S77) (l : List S64) (M : Nat → Nat → Bool) (i : Nat) (T : Nat → Nat → Bool) (a b : Nat) : ∀ k, lpRow cs l M i T k a b = true ↔ (T a b = true ∨ ∃ j, j < k ∧ lpB cs l M i j = true ∧ a = (phI l (cs.getD i z77).f0).toNat ∧ b = (phI l (cs.getD j z77).f0).toNat)
  | 0 => by
    constructor
    · intro h; exact .inl h
    · rintro (h | ⟨j, hj, _⟩)
      · exact h
      · omega
  | k + 1 => by
    have ih := lpRow_true cs l M i T a b k
    show lpSet cs l M i k (lpRow cs l M i T k) a b = true ↔ _
    unfold lpSet
    by_cases hc : lpB cs l M i k = true ∧ a = (phI l (cs.getD i z77).f0).toNat ∧ b = (phI l (cs.getD k z77).f0).toNat
    · rw [if_pos hc]
      exact ⟨fun _ => .inr ⟨k, Nat.lt_succ_self k, hc⟩, fun _ => rfl⟩
    · rw [if_neg hc, ih]
      constructor
      · rintro (h | ⟨j, hj, h⟩)
        · exact .inl h
        · exact .inr ⟨j, by omega, h⟩
      · rintro (h | ⟨j, hj, h⟩)
        · exact .inl h
        · by_cases e : j = k
          · subst e; exact absurd h hc
          · exact .inr ⟨j, by omega, h⟩
theorem lpAll_true (cs : List S77) (l : List S64) (M : Nat → Nat → Bool) (a b : Nat) : ∀ k, lpAll cs l M k a b = true ↔ ∃ i, i < k ∧ ∃ j, j < cs.length ∧ lpB cs l M i j = true ∧ a = (phI l (cs.getD i z77).f0).toNat ∧ b = (phI l (cs.getD j z77).f0).toNat
  | 0 => by
    constructor
    · intro h; cases h
    · rintro ⟨i, hi, _⟩; omega
  | k + 1 => by
    have ih := lpAll_true cs l M a b k
    show lpRow cs l M k (lpAll cs l M k) cs.length a b = true ↔ _
    rw [lpRow_true, ih]
    constructor
    · rintro (⟨i, hi, h⟩ | h)
      · exact ⟨i, by omega, h⟩
      · exact ⟨k, by omega, h⟩
    · rintro ⟨i, hi, h⟩
      by_cases e : i = k
      · subst e; exact .inr h
      · exact .inl ⟨i, by omega, h⟩
theorem fuRow_none {p : Nat → Bool} : ∀ (d k : Nat), fuRow p k d = none ↔ ∀ j, k ≤ j → j < k + d → p j = false
  | 0, k => by
    constructor
    · intro _ j h1 h2; omega
    · intro _; rfl
  | d + 1, k => by
    cases h : p k with
    | true =>
      rw [fuRow_yes p k d rfl h]
      constructor
      · intro e; cases e
      · intro hh; rw [hh k (Nat.le_refl _) (by omega)] at h; cases h
    | false =>
      rw [fuRow_no p k d rfl h, fuRow_none d (k + 1)]
      constructor
      · intro hh j h1 h2
        by_cases e : j = k
        · subst e; exact h
        · exact hh j (by omega) (by omega)
      · intro hh j h1 h2; exact hh j (by omega) (by omega)
theorem fuAll_none {p : Nat → Nat → Bool} {n : Nat} : ∀ (d i : Nat), fuAll p n i d = none ↔ ∀ a, i ≤ a → a < i + d → ∀ b, b < n → p a b = false
  | 0, i => by
    constructor
    · intro _ a h1 h2; omega
    · intro _; rfl
  | d + 1, i => by
    cases h : fuRow (p i) 0 n with
    | some k =>
      rw [fuAll_yes p n i d rfl h]
      constructor
      · intro e; cases e
      · intro hh
        have := (fuRow_none (p := p i) n 0).2 (fun j _ hj => hh i (Nat.le_refl _) (by omega) j (by omega))
        rw [this] at h; cases h
    | none =>
      rw [fuAll_no p n i d rfl h, fuAll_none d (i + 1)]
      have hr := (fuRow_none (p := p i) n 0).1 h
      constructor
      · intro hh a h1 h2
        by_cases e : a = i
        · subst e; intro b hb; exact hr b (Nat.zero_le _) (by omega)
        · exact hh a (by omega) (by omega)
      · intro hh a h1 h2; exact hh a (by omega) (by omega)
theorem phGood_iff (cs : List S77) (l : List S64) (M : Nat → Nat → Bool) : phGood (lpM cs l M) l.length = true ↔ fuAll (fuAt cs l M) cs.length 0 cs.length = none := by
  rw [fuAll_none]
  constructor
  · intro hg a _ ha b hb
    by_cases hf : fuAt cs l M a b = true
    · exfalso
      unfold fuAt at hf
      simp only [Bool.and_eq_true, decide_eq_true_eq] at hf
      have r1 := phI_range l (cs.getD a z77).f0
      have hT : lpM cs l M (phI l (cs.getD a z77).f0).toNat (phI l (cs.getD b z77).f0).toNat = true := (lpAll_true cs l M _ _ cs.length).2 ⟨a, by omega, b, hb, by
        unfold lpB
        simp only [Bool.and_eq_true, decide_eq_true_eq, Bool.not_eq_true', decide_eq_false_iff_not]
        exact ⟨hf.1, by omega, hf.2.1, by omega⟩, rfl, rfl⟩
      rw [phGood_no (T := lpM cs l M) (m := l.length) (by omega) (by omega) hT (by omega)] at hg
      cases hg
    · simpa using hf
  · intro hn
    refine phGood_yes (fun i hi k hk hT hlt => ?_)
    obtain ⟨a, ha, b, hb, hB, e1, e2⟩ := (lpAll_true cs l M _ _ cs.length).1 hT
    unfold lpB at hB
    simp only [Bool.and_eq_true, decide_eq_true_eq, Bool.not_eq_true', decide_eq_false_iff_not] at hB
    have := hn a (Nat.zero_le _) (by omega) b hb
    unfold fuAt at this
    simp only [Bool.and_eq_false_iff, decide_eq_false_iff_not] at this
    rcases this with h | h | h
    · rw [hB.1] at h; cases h
    · exact h hB.2.2.1
    · apply h; have := hB.2.1; have := hB.2.2.1; omega
theorem pr_loops (m : Nat) (hm : m ≤ 6) (T : Nat → Nat → Bool) : Ev (fun k => spec_PhaseRecord.l0 k (masks m T) 0 [] []) (phCtx m, phRel T m m 0, true) := by
  have h0 : ([] : List S77) = phCtx 0 := rfl
  have h1 : ([] : List S91) = phRel T m 0 0 := rfl
  rw [h0, h1]
  exact Ev.down m (fun k i => spec_PhaseRecord.l0 k (masks m T) (i : Int) (phCtx i) (phRel T m i 0)) (fun _ => (phCtx m, phRel T m m 0, true))
    (by
      refine Ev.step (fun k => by rw [spec_PhaseRecord.l0]) ?_
      simp only [masks_length, Int.lt_irrefl, if_false]
      exact Ev.now _)
    (fun i hi ih => by
      refine Ev.step (fun k => by rw [spec_PhaseRecord.l0]) ?_
      have a3 : (i : Int) < (m : Int) := by omega
      have a4 : (0 : Int) ≤ (i : Int) := by omega
      have b1 : (phCtx i).length < 8796093022208 := by rw [phCtx_len]; omega
      have e1 : phCtx i ++ [(⟨((i + 1 : Nat) : Int), 1⟩ : S77)] = phCtx (i + 1) := by rw [phCtx_succ]; rfl
      simp only [masks_length, a3, if_true, b1, w64 i (by omega), e1]
      exact Ev.down m (fun k j => spec_PhaseRecord.l1 k (masks m T) (i : Int) (j : Int) (phCtx (i + 1)) (phRel T m i j)) (fun _ => (phCtx m, phRel T m m 0, true))
        (by
          refine Ev.step (fun k => by rw [spec_PhaseRecord.l1]) ?_
          simp only [masks_length, Int.lt_irrefl, if_false, w64 i (by omega), phRel_row]
          exact ih)
        (fun j hj ih2 => by
          refine Ev.step (fun k => by rw [spec_PhaseRecord.l1]) ?_
          have b3 : (j : Int) < (m : Int) := by omega
          have hle := phRel_le T m i j
          have him : i * m ≤ 36 := Nat.le_trans (Nat.mul_le_mul (Nat.le_of_lt hi) (Nat.le_refl m)) (Nat.le_trans (Nat.mul_le_mul hm hm) (by decide))
          have b2 : (phRel T m i j).length < 8796093022208 := by omega
          simp only [masks_length, a3, a4, b3, b2, if_true, w64 j (by omega), w64 i (by omega), l4Bit_masks m i j T (by omega) hi hj, Option.bind_some]
          cases hT : T i j with
          | false =>
            rw [phRel_succ, hT] at ih2
            simp only [Bool.false_eq_true, if_false] at ih2 ⊢
            exact ih2
          | true =>
            rw [phRel_succ, hT] at ih2
            simp only [if_true] at ih2 ⊢
            exact ih2) 0 (Nat.zero_le _)) 0 (Nat.zero_le _)
def prAns (cs : List S77) (rs : List S91) (l : List S64) : List S77 × List S91 × Bool := if validG cs rs l then phRes (lpM cs l (lat cs rs)) l.length else ([], [], false)
theorem prSpec_ev (cs : List S77) (rs : List S91) (l : List S64) (hS : Smalls l) : Ev (fun k => spec_PhaseRecord.f k cs rs l) (prAns cs rs l) := by
  unfold spec_PhaseRecord.f prAns
  refine Ev.bind (fuSpec_ev cs rs l hS) ?_
  unfold fuAns
  by_cases hv : validG cs rs l = true
  · have hv' := hv
    unfold validG grpB at hv'
    simp only [Bool.and_eq_true, decide_eq_true_eq] at hv'
    have hl6 := hv'.2.2.2
    simp only [hv, if_true]
    unfold phRes
    have hiff := phGood_iff cs l (lat cs rs)
    cases hf : fuAll (fuAt cs l (lat cs rs)) cs.length 0 cs.length with
    | none =>
      rw [hf] at hiff
      simp only [hiff.2 rfl, fuRes, if_true, Bool.false_eq_true, if_false, Bool.not_true]
      refine Ev.step (fun k => by rw [spec_PhaseRecord.j0]) ?_
      simp only [Bool.false_eq_true, if_false]
      refine Ev.bind (above_ev hv'.1 l hS hl6) ?_
      exact pr_loops l.length hl6 _
    | some p =>
      rw [hf] at hiff
      have hg : phGood (lpM cs l (lat cs rs)) l.length = false := by
        by_cases h : phGood (lpM cs l (lat cs rs)) l.length = true
        · cases hiff.1 h
        · simpa using h
      simp only [hg, fuRes, if_true, Bool.false_eq_true, if_false]
      refine Ev.step (fun k => by rw [spec_PhaseRecord.j0]) ?_
      simp only [if_true]
      exact Ev.now _
  · simp only [hv, if_false, Bool.false_eq_true]
    refine Ev.step (fun k => by rw [spec_PhaseRecord.j0]) ?_
    simp only [Bool.not_false, if_true]
    exact Ev.now _
theorem prAns_len (cs : List S77) (rs : List S91) (l : List S64) : (prAns cs rs l).1.length ≤ 1000 ∧ (prAns cs rs l).2.1.length ≤ 1000 := by
  unfold prAns
  by_cases hv : validG cs rs l = true
  · rw [if_pos hv]
    unfold validG grpB at hv
    simp only [Bool.and_eq_true, decide_eq_true_eq] at hv
    have hl6 := hv.2.2.2
    unfold phRes
    split
    · have h1 := phCtx_len l.length
      have h2 := phRel_le (lpM cs l (lat cs rs)) l.length l.length 0
      have h3 : l.length * l.length ≤ 36 := Nat.le_trans (Nat.mul_le_mul hl6 hl6) (by decide)
      exact ⟨by show (phCtx l.length).length ≤ _; omega, by show (phRel _ _ _ _).length ≤ _; omega⟩
    · exact ⟨by simp, by simp⟩
  · rw [if_neg hv]; exact ⟨by simp, by simp⟩
theorem FnExactPhaseRecord : ∀ (l0_0 : List (S100)) (l0_1 : List (S102)) (l1 : List (S61)), ((l0_0.length ≤ 9223372036854775807) ∧ ∀ y4 ∈ l0_0, ((Lit.int .i64 y4.f0).wf = true) ∧ ((Lit.int .i64 y4.f1).wf = true)) → ((l0_1.length ≤ 9223372036854775807) ∧ ∀ y4 ∈ l0_1, ((Lit.int .i64 y4.f0).wf = true) ∧ ((Lit.int .i64 y4.f1).wf = true)) → ((l1.length ≤ 9223372036854775807) ∧ ∀ y2 ∈ l1, (y2.f0.size ≤ maxLen) ∧ ((y2.f1.length ≤ 9223372036854775807) ∧ ∀ y5 ∈ y2.f1, (Lit.int .i64 y5).wf = true)) → ∃ k, laws_FnExactPhaseRecord.f k l0_0 l0_1 l1 = some true := by
  intro l0 l1 l2 g0 g1 g2
  obtain ⟨t, ht, hc⟩ := szRecord_eq l0 l1 g0.1 g1.1
  refine Ev.rounds ?_
  unfold laws_FnExactPhaseRecord.f
  rw [ht]
  simp only [Option.bind_some]
  rcases hc with hc | ⟨h0, h0', hl0, hl1⟩
  · simp only [hc, if_true]
    exact Ev.now _
  · have hn : ¬ t < 0 := by omega
    simp only [hn, if_false]
    obtain ⟨u, hu, hc⟩ := szPhaseS_ev l2 t ⟨h0, h0'⟩ g2.1 (fun p hp => ⟨(g2.2 p hp).1, (g2.2 p hp).2.1⟩)
    refine Ev.bind hu ?_
    rcases hc with hc | ⟨k0, _, hl2, hp, htot⟩
    · simp only [hc, if_true]
      exact Ev.now _
    · have hn2 : ¬ u < 0 := by omega
      have hS := smalls_cv hl2 hp
      have htp := toPhaseS_ev l2 hl2 (fun p hp' => (hp p hp').2)
      have hok : laws_FnExactPhaseRecord.Ok l0 l1 (l2.map cvP) := ⟨hl0, hl1, by rw [List.length_map]; exact hl2, by rw [totPH_cv]; omega⟩
      simp only [hn2, if_false]
      refine Ev.bind htp ?_
      have himpl : impl_PhaseRecord.f (l0.map LB.cvC) (l1.map LB.cvR) (l2.map cvP) = some (prAns (l0.map LB.cvC) (l1.map LB.cvR) (l2.map cvP)) := if_pos hS.small
      simp only [himpl]
      refine Ev.bind (prSpec_ev _ _ _ hS) ?_
      refine Ev.bind (eqPh_ev _ hS) ?_
      have hlen := prAns_len (l0.map LB.cvC) (l1.map LB.cvR) (l2.map cvP)
      simp only [hok, hlen, true_and, if_true, and_self]
      exact Ev.now _
end Go.Proofs.Ytenphfagdpkjaaa.Pure
