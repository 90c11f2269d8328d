/- The law FnExactMergePhases answers true at every record, list of phases and pair of indices: MergePhases of the program and of the reference agree. No conditions. -/
import Derived.Test.YtenphfagdpkjaaaQ0
import Derived.Test.YtenphfagdpkjaaaQF51
import Derived.Test.YtenphfagdpkjaaaQB0
import Derived.Test.YtenphfagdpkjaaaQB2
import Derived.Test.YtenphfagdpkjaaaQF56
import Derived.Test.YtenphfagdpkjaaaQF57
import Derived.Test.YtenphfagdpkjaaaQF99
import Derived.Test.YtenphfagdpkjaaaQF97
import Derived.Test.YtenphfagdpkjaaaQF100
import Derived.Test.YtenphfagdpkjaaaQF76
import Derived.Test.YtenphfagdpkjaaaQF43
import Derived.Test.YtenphfagdpkjaaaQV2
import Derived.Test.YtenphfagdpkjaaaQF16
import Derived.Test.YtenphfagdpkjaaaQF83
import Derived.Test.YtenphfagdpkjaaaQF54
import Derived.Test.YtenphfagdpkjaaaQF10
import Derived.Test.YtenphfagdpkjaaaQF37
import Derived.Test.YtenphfagdpkjaaaQF38
namespace Go.Proofs.Ytenphfagdpkjaaa.Pure
open Go.RowKit Go.Proofs.Ytenphfagdpkjaaa.Q Go.Proofs.YtenphfagdpkjaaaW.PrintWords
set_option linter.unusedVariables false
set_option linter.unusedSimpArgs false
/-- Going down from the end of a loop. -/
theorem Ev.down {α : Type} (n : Nat) (F : Nat → Nat → Option α) (R : Nat → α) (hend : Ev (fun k => F k n) (R n)) (hstep : ∀ i, i < n → Ev (fun k => F k (i + 1)) (R (i + 1)) → Ev (fun k => F k i) (R i)) : ∀ i, i ≤ n → Ev (fun k => F k i) (R i) := by
  have key : ∀ d i, n - i = d → i ≤ n → Ev (fun k => F k i) (R i) := by
    intro d
    induction d with
    | zero =>
      intro i hd hi
      obtain rfl : i = n := by omega
      exact hend
    | succ d ih => intro i hd hi; exact hstep i (by omega) (ih (i + 1) (by omega) (by omega))
  intro i hi
  exact key (n - i) i rfl hi
theorem Ev.some {α : Type} (r : α) : Ev (fun _ => Option.some r) r := Ev.now r
theorem w64 (i : Nat) (h : i ≤ 4611686018427387904) : wrap64 ((i : Int) + 1) = ((i + 1 : Nat) : Int) := by unfold wrap64; omega
theorem w64p (i : Nat) (h : i ≤ 4611686018427387904) : wrap64 (((i + 1 : Nat) : Int) - 1) = (i : Int) := by unfold wrap64; omega
theorem rdR (l : List S91) (i : Nat) (h : i < l.length) : rd_T91 l (i : Int) = l[i] := by simp [rd_T91, List.getD_eq_getElem?_getD, List.getElem?_eq_getElem h]
def cvC (x : S100) : S77 := ⟨x.f0, x.f1⟩
def cvR (x : S102) : S91 := ⟨x.f0, x.f1⟩
theorem acc_step {α β : Type} (f : α → β) (z : β) (l : List α) (i : Nat) (hi : i < l.length) : ((l.take i).map f ++ List.replicate (l.length - i) z).set i (f l[i]) = (l.take (i + 1)).map f ++ List.replicate (l.length - (i + 1)) z := by
  have h1 : ((l.take i).map f).length = i := by rw [List.length_map, List.length_take]; omega
  rw [List.set_append_right _ _ (by omega), h1, Nat.sub_self]
  obtain ⟨m, hm⟩ : ∃ m, l.length - i = m + 1 := ⟨l.length - i - 1, by omega⟩
  rw [hm, List.replicate_succ, List.set_cons_zero, List.take_succ_eq_append_getElem hi, List.map_append, show l.length - (i + 1) = m by omega]
  simp
/-- What the law's first test lets by: at most 2^20 contexts and relations. -/
theorem szRecord_eq (l0 : List S100) (l1 : List S102) (g0 : l0.length ≤ 9223372036854775807) (g1 : l1.length ≤ 9223372036854775807) :
    ∃ t, laws_szRecord.f l0 l1 1048576 = some t ∧ (t < 0 ∨ (0 ≤ t ∧ t ≤ 1048576 ∧ l0.length ≤ 1048576 ∧ l1.length ≤ 1048576)) := by
  unfold laws_szRecord.f laws_szContextS.f laws_szRelationS.f
  have e0 : wrap64 (1048576 - (l0.length : Int)) = 1048576 - (l0.length : Int) := by unfold wrap64; omega
  rw [e0]
  by_cases h0 : (1048576 - (l0.length : Int)) < 0
  · exact ⟨-1, by simp [h0], .inl (by omega)⟩
  · have e1 : wrap64 (1048576 - (l0.length : Int) - (l1.length : Int)) = 1048576 - (l0.length : Int) - (l1.length : Int) := by unfold wrap64; omega
    simp only [h0, if_false, Option.bind_some, e1]
    by_cases h1 : (1048576 - (l0.length : Int) - (l1.length : Int)) < 0
    · exact ⟨-1, by simp [h1], .inl (by omega)⟩
    · exact ⟨1048576 - (l0.length : Int) - (l1.length : Int), by simp [h1], .inr (by omega)⟩
theorem rdI (l : List Int) (i : Nat) (h : i < l.length) : rd l (i : Int) = l[i] := by simp [rd, List.getD_eq_getElem?_getD, List.getElem?_eq_getElem h]
theorem eqIntS_ev (a : List Int) (ha : a.length ≤ 1048576) : Ev (fun k => laws_eqIntS.f k a a) true := by
  unfold laws_eqIntS.f
  simp only [if_true]
  exact Ev.down a.length (fun k i => laws_eqIntS.l0 k a a (i : Int)) (fun _ => true)
    (by
      refine Ev.step (fun k => by rw [laws_eqIntS.l0]) ?_
      simp only [Int.lt_irrefl, if_false]
      exact Ev.now _)
    (fun i hi ih => by
      refine Ev.step (fun k => by rw [laws_eqIntS.l0]) ?_
      have a3 : (i : Int) < (a.length : Int) := by omega
      have a4 : (0 : Int) ≤ (i : Int) := by omega
      simp only [a3, a4, if_true, w64 i (by omega)]
      exact ih) 0 (Nat.zero_le _)
/-- A matrix as a list of sets, each as bits. -/
def masks (n : Nat) (M : Nat → Nat → Bool) : List Int := (List.range n).map fun i => ((mask n (M i) : Nat) : Int)
theorem masks_length (n : Nat) (M : Nat → Nat → Bool) : (masks n M).length = n := by simp [masks]
theorem masks_ext {n : Nat} {M M' : Nat → Nat → Bool} (h : ∀ a b, a < n → b < n → M a b = M' a b) : masks n M = masks n M' := by
  unfold masks
  apply List.map_congr_left
  intro a ha
  rw [mask_ext (fun b hb => h a b (List.mem_range.1 ha) hb)]
theorem masks_rd {n : Nat} {M : Nat → Nat → Bool} {a : Nat} (ha : a < n) : rd (masks n M) (a : Int) = ((mask n (M a) : Nat) : Int) := by
  simp [rd, masks, List.getD_eq_getElem?_getD, ha]
theorem masks_set {n : Nat} {M : Nat → Nat → Bool} {a : Nat} (p : Nat → Bool) : (masks n M).set a ((mask n p : Nat) : Int) = masks n (fun x => if x = a then p else M x) := by
  apply List.ext_getElem (by simp [masks])
  intro i h1 h2
  simp only [masks, List.length_map, List.length_range, List.length_set] at h1 h2
  simp only [masks, List.getElem_set, List.getElem_map, List.getElem_range]
  by_cases e : a = i
  · subst e; simp
  · have e2 : ¬ i = a := fun h => e h.symm
    simp [e, e2]
theorem masks_none (n : Nat) : masks n (fun _ _ => false) = List.replicate n 0 := by
  apply List.ext_getElem (by simp [masks])
  intro i h1 h2
  simp [masks, mask_zero]
theorem wrap_i64_small (n : Int) (h0 : 0 ≤ n) (h1 : n < 2 ^ 62) : IntKind.i64.wrap n = n := by
  have h2 : n < 4611686018427387904 := h1
  rw [IntKind.wrap_i64]; omega
theorem mask_lt62 (n : Nat) (p : Nat → Bool) (hn : n ≤ 62) : mask n p < 2 ^ 62 := Nat.lt_of_lt_of_le (mask_lt n p) (Nat.pow_le_pow_right (by decide) hn)
theorem or_masks (n : Nat) (p q : Nat → Bool) (hn : n ≤ 62) : Go.bits .or .i64 ((mask n p : Nat) : Int) ((mask n q : Nat) : Int) = ((mask n (fun i => p i || q i) : Nat) : Int) := by
  rw [(bits_nat .i64 62 (by decide) wrap_i64_small _ _ (mask_lt62 n p hn) (mask_lt62 n q hn)).2, mask_or]
theorem u64_small (i : Nat) (hi : i < 64) : IntKind.u64.wrap (i : Int) = (i : Int) := by
  simp only [IntKind.wrap, IntKind.bits, IntKind.signed]
  simp
  omega
theorem shl_mask (n b : Nat) (hb : b < n) (hn : n ≤ 62) : shl .i64 1 (b : Int) = ((mask n (fun i => decide (i = b)) : Nat) : Int) := by
  rw [← mask_one hb]
  unfold shl
  have h1 : min (b : Int).toNat IntKind.i64.bits = b := by
    have : IntKind.i64.bits = 64 := rfl
    rw [this, Int.toNat_natCast]; omega
  rw [h1, Int.one_mul, Nat.one_shiftLeft]
  have h2 : (2 : Int) ^ b = ((2 ^ b : Nat) : Int) := by simp
  rw [h2]
  apply wrap_i64_small _ (Int.natCast_nonneg _)
  have h3 : 2 ^ b < 2 ^ 62 := Nat.pow_lt_pow_right (by decide) (by omega)
  exact_mod_cast h3
theorem bit_mask (n i : Nat) (p : Nat → Bool) (hn : n ≤ 62) (hi : i < 64) : Go.bits .and .i64 (shr .i64 ((mask n p : Nat) : Int) (i : Int)) 1 = if decide (i < n) && p i then 1 else 0 := by
  unfold shr
  have h1 : min (i : Int).toNat IntKind.i64.bits = i := by
    have : IntKind.i64.bits = 64 := rfl
    rw [this, Int.toNat_natCast]; omega
  rw [h1]
  have h2 : (2 : Int) ^ i = ((2 ^ i : Nat) : Int) := by simp
  rw [h2, ← Int.natCast_ediv]
  have h3 : mask n p / 2 ^ i < 2 ^ 62 := Nat.lt_of_le_of_lt (Nat.div_le_self _ _) (mask_lt62 n p hn)
  have h4 := (bits_nat .i64 62 (by decide) wrap_i64_small (mask n p / 2 ^ i) 1 h3 (by decide)).1
  rw [show ((1 : Nat) : Int) = 1 from rfl] at h4
  rw [h4, Nat.and_one_is_mod]
  have h5 := mask_bit p n i
  rw [Nat.testBit_eq_decide_div_mod_eq] at h5
  rw [← h5]
  by_cases h6 : mask n p / 2 ^ i % 2 = 1
  · simp [h6]
  · have : mask n p / 2 ^ i % 2 = 0 := by omega
    simp [this]
theorem l4Bit_mask (n i : Nat) (p : Nat → Bool) (hn : n ≤ 62) (hi : i < 64) : spec_l4Bit.f ((mask n p : Nat) : Int) (i : Int) = some (decide (i < n) && p i) := by
  unfold spec_l4Bit.f
  rw [u64_small i hi, if_pos (by omega), bit_mask n i p hn hi]
  cases (decide (i < n) && p i) <;> rfl
theorem l4Bit_masks (n i k : Nat) (M : Nat → Nat → Bool) (hn : n ≤ 62) (hi : i < n) (hk : k < n) : spec_l4Bit.f (rd (masks n M) (i : Int)) (k : Int) = some (M i k) := by
  rw [masks_rd hi, l4Bit_mask n k (M i) hn (by omega)]
  simp [hk]
theorem later_l1 (A : Nat → Nat → Bool) (n : Nat) (hn : n ≤ 10) : ∀ (d j : Nat), n - j = d → j ≤ n → Ev (fun k => spec_l4Later.l1 k (masks n (rch A j)) (j : Int)) (masks n (rch A n)) := by
  intro d
  induction d with
  | zero =>
    intro j hd hj
    obtain rfl : j = n := by omega
    refine Ev.step (fun q => by rw [spec_l4Later.l1]) ?_
    simp only [masks_length, Int.lt_irrefl, if_false]
    exact Ev.now _
  | succ d ih =>
    intro j hd hj
    have h1 : (j : Int) < (n : Int) := by omega
    refine Ev.step (fun q => by rw [spec_l4Later.l1]) ?_
    simp only [masks_length, h1, if_true]
    have inner : ∀ (e i : Nat), n - i = e → i ≤ n → Ev (fun k => spec_l4Later.l2 k (masks n (fun x => if x < i then rch A (j + 1) x else rch A j x)) (j : Int) (i : Int)) (masks n (rch A n)) := by
      intro e
      induction e with
      | zero =>
        intro i he hi
        obtain rfl : i = n := by omega
        refine Ev.step (fun q => by rw [spec_l4Later.l2]) ?_
        simp only [masks_length, Int.lt_irrefl, if_false, w64 j (by omega)]
        rw [masks_ext (M' := rch A (j + 1)) (fun a b ha _ => by simp [ha])]
        exact ih (j + 1) (by omega) (by omega)
      | succ e ih2 =>
        intro i he hi
        have hil : i < n := by omega
        have h2 : (i : Int) < (n : Int) := by omega
        have h3 : (0 : Int) ≤ (i : Int) := by omega
        have h4 : (0 : Int) ≤ (j : Int) := by omega
        refine Ev.step (fun q => by rw [spec_l4Later.l2]) ?_
        simp only [masks_length, h1, h2, h3, h4, if_true, u64_small j (by omega), masks_rd hil, masks_rd (show j < n by omega), w64 i (by omega), Int.toNat_natCast]
        rw [if_neg (show ¬ i < i by omega), bit_mask n j _ (by omega) (by omega)]
        have hjn : decide (j < n) = true := decide_eq_true (by omega)
        rw [hjn, Bool.true_and]
        have next := ih2 (i + 1) (by omega) (by omega)
        by_cases hb : rch A j i j = true
        · simp only [hb, if_true, or_masks n _ _ (show n ≤ 62 by omega), masks_set]
          rw [masks_ext (M' := fun x => if x < i + 1 then rch A (j + 1) x else rch A j x) (fun a b _ _ => ?_)]
          · exact next
          · by_cases e1 : a = i
            · subst e1
              have e2 : (if j < a then rch A (j + 1) j else rch A j j) b = rch A j j b := by
                split
                · exact rch_row A j b
                · rfl
              simp only [eq_self, if_true]
              rw [e2, if_pos (show a < a + 1 by omega)]
              simp only [rch, hb, Bool.true_and]
            · by_cases e2 : a < i
              · simp [e1, e2, show a < i + 1 by omega]
              · simp [e1, e2, show ¬ a < i + 1 by omega]
        · have hb' : rch A j i j = false := by simpa using hb
          simp only [hb', Bool.false_eq_true, if_false, show ¬ (0 : Int) = 1 by decide]
          rw [masks_ext (M' := fun x => if x < i + 1 then rch A (j + 1) x else rch A j x) (fun a b _ _ => ?_)]
          · exact next
          · by_cases e1 : a = i
            · subst e1
              simp [rch, hb']
            · by_cases e2 : a < i
              · simp [e2, show a < i + 1 by omega]
              · simp [e2, show ¬ a < i + 1 by omega]
    have h0 := inner n 0 (by omega) (by omega)
    simpa using h0
theorem l4Later_ev (cs : List S77) (rs : List S91) (hn : cs.length ≤ 10) (hm : rs.length ≤ 24) (hin : relsIn cs rs) : Ev (fun k => spec_l4Later.f k cs rs) (masks cs.length (lat cs rs)) := by
  unfold spec_l4Later.f
  simp only [show (0 : Int) ≤ (cs.length : Int) by omega, if_true, Int.toNat_natCast, show cs.length ≤ 35184372088832 by omega]
  have key := Ev.down rs.length (fun k i => spec_l4Later.l0 k (masks cs.length (abv cs (rs.take i))) (i : Int) cs rs) (fun _ => masks cs.length (lat cs rs))
    (by
      refine Ev.step (fun k => by rw [spec_l4Later.l0]) ?_
      simp only [Int.lt_irrefl, if_false, List.take_length]
      exact later_l1 (abv cs rs) cs.length hn cs.length 0 (by omega) (by omega))
    (fun i hi ih => by
      refine Ev.step (fun k => by rw [spec_l4Later.l0]) ?_
      have h1 : (i : Int) < (rs.length : Int) := by omega
      have h2 : (0 : Int) ≤ (i : Int) := by omega
      obtain ⟨a, ha, hal⟩ := find_nat cs rs[i].f0 (hin _ (List.getElem_mem hi)).1
      obtain ⟨b, hb, hbl⟩ := find_nat cs rs[i].f1 (hin _ (List.getElem_mem hi)).2
      have h3 : (0 : Int) ≤ (a : Int) := by omega
      have h4 : (a : Int) < (cs.length : Int) := by omega
      have h5 : (0 : Int) ≤ (b : Int) := by omega
      simp only [h1, h2, if_true, rdR rs i hi, find_f, ha, hb, Option.bind_some, h3, masks_length, h4, u64_small b (by omega), h5, w64 i (by omega), Int.toNat_natCast, masks_rd hal, shl_mask cs.length b hbl (by omega), or_masks cs.length _ _ (show cs.length ≤ 62 by omega), masks_set]
      have hs := abv_snoc cs (rs.take i) rs[i] a b ha hb
      rw [← List.take_succ_eq_append_getElem hi] at hs
      rw [masks_ext (M' := abv cs (rs.take (i + 1))) (fun x y _ _ => ?_)]
      · exact ih
      · rw [← hs]
        by_cases e1 : x = a
        · subst e1
          by_cases e2 : y = b
          · subst e2; simp
          · simp [e2]
        · simp [e1])
  have h0 := key 0 (Nat.zero_le _)
  have e0 : abv cs (rs.take 0) = fun _ _ => false := by
    funext a b; simp [abv]
  simp only [e0, masks_none] at h0
  exact h0
theorem l4Consistent_ev (cs : List S77) (rs : List S91) (hn : cs.length ≤ 10) (hm : rs.length ≤ 24) (hin : relsIn cs rs) : Ev (fun k => spec_l4Consistent.f k cs rs) (consB cs.length (lat cs rs)) := by
  unfold spec_l4Consistent.f
  refine Ev.bind (l4Later_ev cs rs hn hm hin) ?_
  generalize lat cs rs = M
  have key : ∀ (d i : Nat), cs.length - i = d → i ≤ cs.length → (∀ j, j < i → M j j = false) → Ev (fun k => spec_l4Consistent.l0 k (masks cs.length M) (i : Int)) (consB cs.length M) := by
    intro d
    induction d with
    | zero =>
      intro i hd hi hA
      obtain rfl : i = cs.length := by omega
      refine Ev.step (fun q => by rw [spec_l4Consistent.l0]) ?_
      simp only [masks_length, Int.lt_irrefl, if_false]
      rw [consB_good hA]
      exact Ev.now _
    | succ d ih =>
      intro i hd hi hA
      have hlt : i < cs.length := by omega
      have a3 : (i : Int) < (cs.length : Int) := by omega
      have a4 : (0 : Int) ≤ (i : Int) := by omega
      refine Ev.step (fun q => by rw [spec_l4Consistent.l0]) ?_
      simp only [masks_length, a3, a4, if_true, w64 i (by omega)]
      rw [l4Bit_masks cs.length i i M (by omega) hlt hlt]
      simp only [Option.bind_some]
      cases hb : M i i with
      | true =>
        simp only [if_true]
        rw [consB_bad hlt hb]
        exact Ev.now _
      | false =>
        simp only [Bool.false_eq_true, if_false]
        exact ih (i + 1) (by omega) (by omega) (fun j hj => by
          by_cases e : j = i
          · subst e; exact hb
          · exact hA j (by omega))
  exact key cs.length 0 (by omega) (by omega) (fun j hj => absurd hj (Nat.not_lt_zero _))
theorem l5Good_ev (cs : List S77) (rs : List S91) : Ev (fun k => spec_l5Good.f k cs rs) (goodB cs rs && consB cs.length (lat cs rs)) := by
  unfold spec_l5Good.f
  simp only [spec_l2Good.f, Option.bind_some]
  cases hg : goodB cs rs with
  | false =>
    simp only [Bool.false_eq_true, if_false, Bool.false_and]
    exact Ev.now _
  | true =>
    obtain ⟨hn, hm, hin⟩ := goodB_parts hg
    simp only [if_true, Bool.true_and]
    first
      | exact l4Consistent_ev cs rs hn hm hin
      | exact Ev.bind (l4Consistent_ev cs rs hn hm hin) (Ev.now _)
def allF (p : Nat → Bool) (i : Nat) : Nat → Bool
  | 0 => true
  | d + 1 => p i && allF p (i + 1) d
theorem allF_iff (p : Nat → Bool) : ∀ (d i : Nat), allF p i d = true ↔ ∀ j, i ≤ j → j < i + d → p j = true
  | 0, i => by simp only [allF, true_iff]; intro j h1 h2; omega
  | d + 1, i => by
    rw [allF, Bool.and_eq_true, allF_iff p d (i + 1)]
    constructor
    · rintro ⟨h1, h2⟩ j h3 h4
      by_cases e : j = i
      · subst e; exact h1
      · exact h2 j (by omega) (by omega)
    · intro h
      exact ⟨h i (by omega) (by omega), fun j h1 h2 => h j (by omega) (by omega)⟩
theorem allF_range (p : Nat → Bool) (n : Nat) : (List.range n).all p = allF p 0 n := by
  rw [Bool.eq_iff_iff, allF_iff, List.all_eq_true]
  simp only [List.mem_range]
  exact ⟨fun h j _ hj => h j (by omega), fun h j hj => h j (by omega) (by omega)⟩
theorem not_allF {p : Nat → Bool} {i d : Nat} (h : allF p i d = false) : ∃ j, i ≤ j ∧ j < i + d ∧ p j = false := by
  induction d generalizing i with
  | zero => simp [allF] at h
  | succ d ih =>
    rw [allF] at h
    cases hp : p i with
    | false => exact ⟨i, by omega, by omega, hp⟩
    | true =>
      rw [hp, Bool.true_and] at h
      obtain ⟨j, h1, h2, h3⟩ := ih h
      exact ⟨j, by omega, by omega, h3⟩
/-- Going down a loop that stands for 'all from i on, then R'. -/
theorem Ev.all {n : Nat} (F : Nat → Nat → Option Bool) (p : Nat → Bool) (R : Bool) (hend : Ev (fun k => F k n) R) (hstep : ∀ i, i < n → ∀ X, Ev (fun k => F k (i + 1)) X → Ev (fun k => F k i) (p i && X)) : Ev (fun k => F k 0) (allF p 0 n && R) := by
  have key := Ev.down n F (fun i => allF p i (n - i) && R) (by rw [Nat.sub_self]; simpa [allF] using hend)
    (fun i hi ih => by
      obtain ⟨d, hd⟩ : ∃ d, n - i = d + 1 := ⟨n - i - 1, by omega⟩
      have hd2 : n - (i + 1) = d := by omega
      rw [hd, allF, Bool.and_assoc]
      rw [hd2] at ih
      exact hstep i hi _ ih)
  exact key 0 (Nat.zero_le _)
/-! ### lists -/
theorem contains_iff (l : List Int) (a : Int) : l.contains a = true ↔ ∃ k, k < l.length ∧ l.getD k 0 = a := by
  rw [List.contains_iff_mem, List.mem_iff_getElem]
  constructor
  · rintro ⟨k, hk, e⟩
    exact ⟨k, hk, by rw [List.getD_eq_getElem?_getD, List.getElem?_eq_getElem hk]; exact e⟩
  · rintro ⟨k, hk, e⟩
    rw [List.getD_eq_getElem?_getD, List.getElem?_eq_getElem hk] at e
    exact ⟨k, hk, e⟩
theorem contains_allF (l : List Int) (a : Int) : l.contains a = !allF (fun k => !decide (l.getD k 0 = a)) 0 l.length := by
  cases h : allF (fun k => !decide (l.getD k 0 = a)) 0 l.length with
  | false =>
    obtain ⟨j, _, hj, he⟩ := not_allF h
    rw [Bool.not_false, contains_iff]
    exact ⟨j, by omega, by simpa using he⟩
  | true =>
    rw [Bool.not_true]
    cases hc : l.contains a with
    | false => rfl
    | true =>
      obtain ⟨k, hk, e⟩ := (contains_iff l a).1 hc
      have := (allF_iff _ _ _).1 h k (by omega) (by omega)
      simp only [e, decide_true, Bool.not_true] at this
      cases this
theorem has_ev (l : List Int) (a : Int) (hl : l.length ≤ 1048576) : Ev (fun k => spec_l1Has.f k l a) (l.contains a) := by
  rw [contains_allF]
  have key := Ev.down l.length (fun k i => spec_l1Has.l0 k l a (i : Int)) (fun i => !allF (fun k => !decide (l.getD k 0 = a)) i (l.length - i))
    (by
      refine Ev.step (fun k => by rw [spec_l1Has.l0]) ?_
      simp only [Int.lt_irrefl, if_false, Nat.sub_self, allF, Bool.not_true]
      exact Ev.now _)
    (fun i hi ih => by
      refine Ev.step (fun k => by rw [spec_l1Has.l0]) ?_
      have a3 : (i : Int) < (l.length : Int) := by omega
      have a4 : (0 : Int) ≤ (i : Int) := by omega
      obtain ⟨d, hd⟩ : ∃ d, l.length - i = d + 1 := ⟨l.length - i - 1, by omega⟩
      have hd2 : l.length - (i + 1) = d := by omega
      rw [hd2] at ih
      have e : rd l (i : Int) = l.getD i 0 := by simp [rd]
      simp only [a3, a4, if_true, e, hd, allF, w64 i (by omega)]
      by_cases h : l.getD i 0 = a
      · simp only [h, if_true, decide_true, Bool.not_true, Bool.false_and, Bool.not_false]
        exact Ev.now _
      · simp only [h, if_false, decide_false, Bool.not_false, Bool.true_and]
        exact ih)
  exact key 0 (Nat.zero_le _)
def idxA {α : Type} (p : α → Bool) (l : List α) (i : Nat) : Int := if idxI p (l.drop i) = -1 then -1 else idxI p (l.drop i) + i
theorem idxA_end {α : Type} (p : α → Bool) (l : List α) : idxA p l l.length = -1 := by simp [idxA, idxI]
theorem idxA_zero {α : Type} (p : α → Bool) (l : List α) : idxA p l 0 = idxI p l := by
  unfold idxA
  rw [List.drop_zero]
  split
  · rename_i h; exact h.symm
  · simp
theorem idxA_step {α : Type} (p : α → Bool) (l : List α) (i : Nat) (h : i < l.length) : idxA p l i = if p l[i] then (i : Int) else idxA p l (i + 1) := by
  unfold idxA
  rw [List.drop_eq_getElem_cons h, idxI]
  have hr := idxI_range p (l.drop (i + 1))
  cases hp : p l[i] with
  | true => simp
  | false =>
    simp only [Bool.false_eq_true, if_false]
    by_cases h1 : idxI p (l.drop (i + 1)) = -1
    · simp [h1]
    · simp only [h1, if_false]
      rw [if_neg (by omega)]
      omega
theorem rdP (l : List S64) (i : Nat) (h : i < l.length) : rd_T64 l (i : Int) = l[i] := by simp [rd_T64, List.getD_eq_getElem?_getD, List.getElem?_eq_getElem h]
theorem getDP (l : List S64) (i : Nat) (h : i < l.length) : l.getD i z64 = l[i] := by simp [List.getD_eq_getElem?_getD, List.getElem?_eq_getElem h]
/-- What the size check lets in. -/
def Smalls (l : List S64) : Prop := l.length ≤ 1048576 ∧ ∀ p ∈ l, p.f0.size ≤ 1048576 ∧ p.f1.length ≤ 1048576
theorem Smalls.small {l : List S64} (h : Smalls l) : smallP l = true := List.all_eq_true.2 fun p hp => decide_eq_true (h.2 p hp).1
theorem phase_ev (l : List S64) (n : Int) (h : Smalls l) : Ev (fun k => spec_l7Phase.f k l n) (phI l n) := by
  unfold phI
  rw [← idxA_zero]
  have hl := h.1
  have key := Ev.down l.length (fun k i => spec_l7Phase.l0 k l n (i : Int)) (fun i => idxA (fun p : S64 => p.f1.contains n) l i)
    (by
      refine Ev.step (fun k => by rw [spec_l7Phase.l0]) ?_
      simp only [Int.lt_irrefl, if_false, idxA_end]
      exact Ev.now _)
    (fun i hi ih => by
      refine Ev.step (fun k => by rw [spec_l7Phase.l0]) ?_
      have a3 : (i : Int) < (l.length : Int) := by omega
      have a4 : (0 : Int) ≤ (i : Int) := by omega
      simp only [a3, a4, if_true, rdP l i hi, w64 i (by omega)]
      refine Ev.bind (has_ev l[i].f1 n (h.2 _ (List.getElem_mem hi)).2) ?_
      rw [idxA_step _ l i hi]
      cases hc : l[i].f1.contains n with
      | true => simp only [if_true]; exact Ev.now _
      | false => simp only [Bool.false_eq_true, if_false]; exact ih)
  exact key 0 (Nat.zero_le _)
def risAt (ms : List Int) (k : Nat) : Bool := (decide (1 ≤ ms.getD k 0) && decide (ms.getD k 0 ≤ 999)) && (decide (k = 0) || decide (ms.getD (k - 1) 0 < ms.getD k 0))
theorem rising_ev (ms : List Int) (hl : ms.length ≤ 1048576) : Ev (fun k => spec_l1Rising.f k ms 1 999) (allF (risAt ms) 0 ms.length) := by
  have h := Ev.all (n := ms.length) (fun k i => spec_l1Rising.l0 k ms 1 999 (i : Int)) (risAt ms) true
    (by
      refine Ev.step (fun k => by rw [spec_l1Rising.l0]) ?_
      simp only [Int.lt_irrefl, if_false]
      exact Ev.now _)
    (fun i hi X ih => by
      refine Ev.step (fun k => by rw [spec_l1Rising.l0]) ?_
      have a3 : (i : Int) < (ms.length : Int) := by omega
      have a4 : (0 : Int) ≤ (i : Int) := by omega
      have e : rd ms (i : Int) = ms.getD i 0 := by simp [rd]
      simp only [a3, a4, if_true, e, w64 i (by omega), spec_l1In.f]
      unfold risAt
      generalize hx : ms.getD i 0 = x
      by_cases h1 : 1 ≤ x <;> by_cases h2 : x ≤ 999
      · simp only [ge_iff_le, h1, h2, if_true, decide_true, Option.bind_some, Bool.and_self, Bool.true_and]
        by_cases h0 : i = 0
        · subst h0
          simp only [show ¬ ((0 : Nat) : Int) > 0 by omega, if_false, decide_true, Bool.true_or, Bool.true_and]
          exact ih
        · obtain ⟨j, rfl⟩ : ∃ j, i = j + 1 := ⟨i - 1, by omega⟩
          have hw : wrap64 (((j + 1 : Nat) : Int) - 1) = (j : Int) := w64p j (by omega)
          have b1 : ((j + 1 : Nat) : Int) > 0 := by omega
          have b2 : (0 : Int) ≤ (j : Int) := by omega
          have b3 : (j : Int) < (ms.length : Int) := by omega
          have e2 : rd ms (j : Int) = ms.getD j 0 := by simp [rd]
          simp only [b1, hw, b2, b3, if_true, e2, h0, decide_false, Bool.false_or, Nat.add_sub_cancel]
          by_cases h3 : x ≤ ms.getD j 0
          · simp only [h3, if_true, show ¬ ms.getD j 0 < x by omega, decide_false, Bool.false_and]
            exact Ev.now _
          · simp only [h3, if_false, show ms.getD j 0 < x by omega, decide_true, Bool.true_and]
            exact ih
      · simp only [ge_iff_le, h1, h2, if_true, decide_true, decide_false, Option.bind_some, Bool.and_false, Bool.false_and, Bool.false_eq_true, if_false]
        exact Ev.now _
      · simp only [ge_iff_le, h1, if_false, decide_false, Option.bind_some, Bool.false_and, Bool.false_eq_true]
        exact Ev.now _
      · simp only [ge_iff_le, h1, if_false, decide_false, Option.bind_some, Bool.false_and, Bool.false_eq_true]
        exact Ev.now _)
  rw [Bool.and_true] at h
  exact h
/-! ### names -/
theorem nmB_eq (s : ByteArray) : nmB s = (allF (nmAt s) 0 s.size && (decide (1 ≤ s.size) && decide (s.size ≤ 8))) := by
  unfold nmB nmFrom
  rw [allF_range]
  congr 1
  congr 1
  funext q
  rw [Nat.zero_add]
def loAt (s : ByteArray) (i : Nat) : Bool := (decide (97 ≤ bt s (i : Int)) && decide (bt s (i : Int) ≤ 122)) || (decide (48 ≤ bt s (i : Int)) && decide (bt s (i : Int) ≤ 57))
theorem name_ev (s : ByteArray) (hs : s.size ≤ 1048576) : Ev (fun k => spec_l7Name.f k s) (nmB s) := by
  have hl : Ev (fun k => spec_l7Name.l0 k s 0) (allF (loAt s) 0 s.size) := by
    have h := Ev.all (n := s.size) (fun k i => spec_l7Name.l0 k s (i : Int)) (loAt s) true
      (by
        refine Ev.step (fun k => by rw [spec_l7Name.l0]) ?_
        simp only [Int.lt_irrefl, if_false]
        exact Ev.now _)
      (fun i hi X ih => by
        refine Ev.step (fun k => by rw [spec_l7Name.l0]) ?_
        have a3 : (i : Int) < (s.size : Int) := by omega
        have a4 : (0 : Int) ≤ (i : Int) := by omega
        simp only [a3, a4, if_true, w64 i (by omega)]
        unfold loAt
        generalize bt s (i : Int) = c
        by_cases h97 : 97 ≤ c <;> by_cases h48 : 48 ≤ c <;> by_cases h122 : c ≤ 122 <;> by_cases h57 : c ≤ 57
        all_goals (first | (exfalso; omega) | skip)
        all_goals
          have r97 : (c < 97) = ¬ (97 ≤ c) := propext (by omega)
          have r48 : (c < 48) = ¬ (48 ≤ c) := propext (by omega)
          have r122 : (c > 122) = ¬ (c ≤ 122) := propext (by omega)
          have r57 : (c > 57) = ¬ (c ≤ 57) := propext (by omega)
          simp only [r97, r48, r122, r57, h97, h48, h122, h57, if_true, if_false, decide_true, decide_false, Bool.true_and, Bool.and_true, Bool.false_and, Bool.and_false, Bool.or_true, Bool.or_false, Bool.true_or, Bool.false_or, not_true_eq_false, not_false_eq_true]
          first
            | exact Ev.now _
            | exact ih)
    rw [Bool.and_true] at h
    exact h
  have hj : ∀ b, Ev (fun k => spec_l7Name.j0 k s b) (!b && allF (loAt s) 0 s.size) := by
    intro b
    refine Ev.step (fun k => by rw [spec_l7Name.j0]) ?_
    cases b with
    | true => simp only [if_true, Bool.not_true, Bool.false_and]; exact Ev.now _
    | false => simp only [Bool.false_eq_true, if_false, Bool.not_false, Bool.true_and]; exact hl
  have hjt := hj true
  rw [Bool.not_true, Bool.false_and] at hjt
  unfold spec_l7Name.f
  simp only [spec_l1In.f, ge_iff_le]
  rw [nmB_eq]
  by_cases h1 : 1 ≤ s.size
  · have h1' : (1 : Int) ≤ (s.size : Int) := by omega
    have h0' : (0 : Int) < (s.size : Int) := by omega
    by_cases h8 : s.size ≤ 8
    · have h8' : (s.size : Int) ≤ 8 := by omega
      have key : allF (nmAt s) 0 s.size = (!(!decide (97 ≤ bt s 0) || decide (bt s 0 > 122)) && allF (loAt s) 0 s.size) := by
        rw [Bool.eq_iff_iff, Bool.and_eq_true, allF_iff, allF_iff]
        constructor
        · intro h
          have h0 := h 0 (by omega) (by omega)
          refine ⟨?_, fun j h2 h3 => ?_⟩
          · unfold nmAt at h0
            have h0a : (97 ≤ bt s 0 ∧ bt s 0 ≤ 122) := by simpa using h0
            have h0b : ¬ bt s 0 > 122 := by omega
            rw [decide_eq_true h0a.1, decide_eq_false h0b]; rfl
          · have h4 := h j h2 h3
            unfold nmAt at h4
            unfold loAt
            rw [Bool.or_eq_true] at h4 ⊢
            rcases h4 with h4 | h4
            · exact .inl h4
            · exact .inr (Bool.and_eq_true _ _ ▸ h4 : _ ∧ _).2
        · rintro ⟨h0, h⟩ j h2 h3
          have h4 := h j h2 h3
          unfold loAt at h4
          unfold nmAt
          by_cases e : j = 0
          · subst e
            have hb : 97 ≤ bt s 0 ∧ bt s 0 ≤ 122 := by
              by_cases g1 : 97 ≤ bt s 0
              · by_cases g2 : bt s 0 > 122
                · rw [decide_eq_true g1, decide_eq_true g2] at h0; cases h0
                · omega
              · rw [decide_eq_false g1] at h0; cases h0
            rw [show ((0 : Nat) : Int) = 0 from rfl, decide_eq_true hb.1, decide_eq_true hb.2]; rfl
          · rw [decide_eq_true e, Bool.true_and]; exact h4
      simp only [h1', h8', h0', h1, h8, if_true, decide_true, Option.bind_some, Bool.and_self, Bool.and_true]
      rw [key]
      by_cases g1 : bt s 0 < 97
      · simp only [g1, if_true, show ¬ 97 ≤ bt s 0 by omega, decide_false, Bool.not_false, Bool.true_or, Bool.not_true, Bool.false_and]
        exact hjt
      · simp only [g1, if_false, show 97 ≤ bt s 0 by omega, decide_true, Bool.not_true, Bool.false_or]
        exact hj _
    · have h8' : ¬ (s.size : Int) ≤ 8 := by omega
      simp only [h1', h8', h8, if_true, decide_false, Option.bind_some, Bool.and_false, Bool.false_eq_true, if_false]
      exact hjt
  · have h1' : ¬ (1 : Int) ≤ (s.size : Int) := by omega
    simp only [h1', h1, if_false, decide_false, Option.bind_some, Bool.and_false, Bool.false_and, Bool.false_eq_true]
    exact hjt
/-! ### the reference's check of a grouping -/
def spMem (cs : List S77) (l : List S64) (i : Nat) (ms : List Int) (k : Nat) : Bool := decide (0 ≤ find cs (ms.getD k 0)) && decide (phI l (ms.getD k 0) = (i : Int))
def spDup (l : List S64) (s : ByteArray) (j : Nat) : Bool := !decide ((l.getD j z64).f0.toList = s.toList)
def spPh (cs : List S77) (l : List S64) (i : Nat) : Bool := (nmB (l.getD i z64).f0 && (!decide ((l.getD i z64).f1.length = 0) && allF (risAt (l.getD i z64).f1) 0 (l.getD i z64).f1.length)) && (allF (spDup l (l.getD i z64).f0) 0 i && allF (spMem cs l i (l.getD i z64).f1) 0 (l.getD i z64).f1.length)
theorem mem_loop (cs : List S77) (rs : List S91) (l : List S64) (i : Nat) (s : ByteArray) (ms : List Int) (hS : Smalls l) (hm : ms.length ≤ 1048576) (hi : i < l.length) (X : Bool) (hX : Ev (fun k => spec_l7Good.l0 k l ((i + 1 : Nat) : Int) cs rs) X) :
    Ev (fun k => spec_l7Good.l2 k l (i : Int) 0 cs rs s ms) (allF (spMem cs l i ms) 0 ms.length && X) := by
  have hl := hS.1
  exact Ev.all (n := ms.length) (fun k j => spec_l7Good.l2 k l (i : Int) (j : Int) cs rs s ms) (spMem cs l i ms) X
    (by
      refine Ev.step (fun k => by rw [spec_l7Good.l2]) ?_
      simp only [Int.lt_irrefl, if_false, w64 i (by omega)]
      exact hX)
    (fun j hj Y ih => by
      refine Ev.step (fun k => by rw [spec_l7Good.l2]) ?_
      have a3 : (j : Int) < (ms.length : Int) := by omega
      have a4 : (0 : Int) ≤ (j : Int) := by omega
      have e : rd ms (j : Int) = ms.getD j 0 := by simp [rd]
      simp only [a3, a4, if_true, e, find_f, Option.bind_some, w64 j (by omega)]
      unfold spMem
      by_cases h : find cs (ms.getD j 0) < 0
      · simp only [h, if_true, show ¬ 0 ≤ find cs (ms.getD j 0) by omega, decide_false, Bool.false_and]
        exact Ev.now _
      · simp only [h, if_false, show 0 ≤ find cs (ms.getD j 0) by omega, decide_true, Bool.true_and]
        refine Ev.bind (phase_ev l _ hS) ?_
        by_cases h2 : phI l (ms.getD j 0) = (i : Int)
        · simp only [h2, if_true, decide_true, Bool.true_and]
          exact ih
        · simp only [h2, if_false, decide_false, Bool.false_and]
          exact Ev.now _)
theorem dup_loop (cs : List S77) (rs : List S91) (l : List S64) (i : Nat) (s : ByteArray) (ms : List Int) (hS : Smalls l) (hi : i < l.length) (Y : Bool) (hY : Ev (fun k => spec_l7Good.l2 k l (i : Int) 0 cs rs s ms) Y) :
    Ev (fun k => spec_l7Good.l1 k l (i : Int) 0 cs rs s ms) (allF (spDup l s) 0 i && Y) := by
  have hl := hS.1
  exact Ev.all (n := i) (fun k j => spec_l7Good.l1 k l (i : Int) (j : Int) cs rs s ms) (spDup l s) Y
    (by
      refine Ev.step (fun k => by rw [spec_l7Good.l1]) ?_
      simp only [Int.lt_irrefl, if_false]
      exact hY)
    (fun j hj Z ih => by
      refine Ev.step (fun k => by rw [spec_l7Good.l1]) ?_
      have a3 : (j : Int) < (i : Int) := by omega
      have a5 : (j : Int) < (l.length : Int) := by omega
      have a4 : (0 : Int) ≤ (j : Int) := by omega
      simp only [a3, a4, a5, if_true, rdP l j (by omega), w64 j (by omega)]
      unfold spDup
      rw [getDP l j (by omega)]
      by_cases h : l[j].f0.toList = s.toList
      · simp only [h, if_true, decide_true, Bool.not_true, Bool.false_and]
        exact Ev.now _
      · simp only [h, if_false, decide_false, Bool.not_false, Bool.true_and]
        exact ih)
theorem good_loop (cs : List S77) (rs : List S91) (l : List S64) (hS : Smalls l) : Ev (fun k => spec_l7Good.l0 k l 0 cs rs) (allF (spPh cs l) 0 l.length) := by
  have hl := hS.1
  have h := Ev.all (n := l.length) (fun k i => spec_l7Good.l0 k l (i : Int) cs rs) (spPh cs l) true
    (by
      refine Ev.step (fun k => by rw [spec_l7Good.l0]) ?_
      simp only [Int.lt_irrefl, if_false]
      exact Ev.now _)
    (fun i hi X ih => by
      refine Ev.step (fun k => by rw [spec_l7Good.l0]) ?_
      have a3 : (i : Int) < (l.length : Int) := by omega
      have a4 : (0 : Int) ≤ (i : Int) := by omega
      simp only [a3, a4, if_true, rdP l i hi]
      have hsm := hS.2 _ (List.getElem_mem hi)
      unfold spPh
      rw [getDP l i hi]
      generalize l[i].f0 = s at hsm ⊢
      generalize l[i].f1 = ms at hsm ⊢
      have hd := dup_loop cs rs l i s ms hS hi _ (mem_loop cs rs l i s ms hS hsm.2 hi X ih)
      have hj : ∀ b, Ev (fun k => spec_l7Good.j2 k l (i : Int) b cs rs s ms) (!b && (allF (spDup l s) 0 i && (allF (spMem cs l i ms) 0 ms.length && X))) := by
        intro b
        refine Ev.step (fun k => by rw [spec_l7Good.j2]) ?_
        cases b with
        | true => simp only [if_true, Bool.not_true, Bool.false_and]; exact Ev.now _
        | false => simp only [Bool.false_eq_true, if_false, Bool.not_false, Bool.true_and]; exact hd
      have hjt := hj true
      rw [Bool.not_true, Bool.false_and] at hjt
      refine Ev.bind (name_ev s hsm.1) ?_
      cases nmB s with
      | false => simp only [Bool.false_eq_true, if_false, Bool.false_and]; exact hjt
      | true =>
        simp only [if_true, Bool.true_and]
        by_cases h0 : ms.length = 0
        · simp only [h0, show ((0 : Nat) : Int) = 0 from rfl, if_true, decide_true, Bool.not_true, Bool.false_and]
          exact hjt
        · have h0' : ¬ (ms.length : Int) = 0 := by omega
          simp only [h0, h0', if_false, decide_false, Bool.not_false, Bool.true_and]
          refine Ev.bind (rising_ev ms hsm.2) ?_
          have h3 := hj (!allF (risAt ms) 0 ms.length)
          rw [Bool.not_not] at h3
          simp only [Bool.and_assoc] at h3 ⊢
          exact h3)
  rw [Bool.and_true] at h
  exact h
theorem flatM_mem (l : List S64) (i : Nat) (a : Int) (hi : i ≤ l.length) : a ∈ flatM (l.take i) ↔ ∃ j, j < i ∧ a ∈ (l.getD j z64).f1 := by
  unfold flatM
  rw [List.mem_flatMap]
  constructor
  · rintro ⟨p, hp, ha⟩
    obtain ⟨j, hj, e⟩ := List.mem_iff_getElem.1 hp
    rw [List.length_take] at hj
    rw [List.getElem_take] at e
    exact ⟨j, by omega, by rw [getDP l j (by omega), e]; exact ha⟩
  · rintro ⟨j, hj, ha⟩
    rw [getDP l j (by omega)] at ha
    exact ⟨l[j], List.mem_iff_getElem.2 ⟨j, by rw [List.length_take]; omega, by rw [List.getElem_take]⟩, ha⟩
theorem phI_eq (l : List S64) (i : Nat) (a : Int) (hi : i < l.length) (hm : a ∈ (l.getD i z64).f1) (hn : ∀ j, j < i → a ∉ (l.getD j z64).f1) : phI l a = (i : Int) :=
  idxI_hit _ z64 l i hi (List.contains_iff_mem.2 hm) (fun j hj => by
    cases h : (l.getD j z64).f1.contains a with
    | false => rfl
    | true => exact absurd (List.contains_iff_mem.1 h) (hn j hj))
theorem phI_ne (l : List S64) (i j : Nat) (a : Int) (hj : j < i) (hi : i < l.length) (hm : a ∈ (l.getD j z64).f1) : phI l a ≠ (i : Int) := by
  intro h
  have key : ∀ d j, j + d = i → a ∈ (l.getD j z64).f1 → d ≠ 0 → False := by
    intro d j hd hm hd0
    obtain ⟨q, hq, e, hp, hno⟩ := idxI_found (fun p : S64 => p.f1.contains a) z64 l (by show phI l a ≠ -1; omega)
    have e2 : phI l a = (q : Int) := e
    have hqi : q = i := by omega
    have := hno j (by omega)
    rw [List.contains_iff_mem.2 hm] at this
    cases this
  exact key (i - j) j (by omega) hm (by omega)
theorem ris_chain {ms : List Int} (h : allF (risAt ms) 0 ms.length = true) : ∀ d j, j + (d + 1) < ms.length → ms.getD j 0 < ms.getD (j + (d + 1)) 0 := by
  have h1 : ∀ j, j + 1 < ms.length → ms.getD j 0 < ms.getD (j + 1) 0 := by
    intro j hj
    have h2 := (allF_iff _ _ _).1 h (j + 1) (by omega) (by omega)
    unfold risAt at h2
    rw [Bool.and_eq_true, Bool.or_eq_true] at h2
    rcases h2.2 with h3 | h3
    · have := of_decide_eq_true h3; omega
    · exact of_decide_eq_true h3
  intro d
  induction d with
  | zero => exact h1
  | succ d ih =>
    intro j hj
    have a := ih j (by omega)
    have b := h1 (j + (d + 1)) (by omega)
    rw [show j + (d + 1 + 1) = j + (d + 1) + 1 by omega]
    omega
theorem mem_getD {ms : List Int} {k : Nat} (hk : k < ms.length) : ms.getD k 0 ∈ ms := by
  rw [List.getD_eq_getElem?_getD, List.getElem?_eq_getElem hk]
  exact List.getElem_mem hk
theorem take_mem {ms : List Int} {k : Nat} {a : Int} (hk : k ≤ ms.length) : a ∈ ms.take k ↔ ∃ j, j < k ∧ ms.getD j 0 = a := by
  rw [List.mem_iff_getElem]
  constructor
  · rintro ⟨j, hj, e⟩
    rw [List.length_take] at hj
    rw [List.getElem_take] at e
    exact ⟨j, by omega, by rw [List.getD_eq_getElem?_getD, List.getElem?_eq_getElem (by omega)]; exact e⟩
  · rintro ⟨j, hj, e⟩
    rw [List.getD_eq_getElem?_getD, List.getElem?_eq_getElem (by omega)] at e
    exact ⟨j, by rw [List.length_take]; omega, by rw [List.getElem_take]; exact e⟩
/-- The two ways of looking at phase i agree. -/
theorem ph_same {cs : List S77} {rs : List S91} (hg : goodB cs rs = true) (l : List S64) (i : Nat) (hi : i < l.length) : phOk cs l i = spPh cs l i := by
  unfold phOk spPh
  have hdup : (!((l.take i).any fun q => q.f0.toList == (l.getD i z64).f0.toList)) = allF (spDup l (l.getD i z64).f0) 0 i := by
    generalize (l.getD i z64).f0 = s
    rw [Bool.eq_iff_iff, allF_iff, Bool.not_eq_true', List.any_eq_false]
    constructor
    · intro h j _ hj
      unfold spDup
      rw [getDP l j (by omega)]
      have := h l[j] (List.mem_iff_getElem.2 ⟨j, by rw [List.length_take]; omega, by rw [List.getElem_take]⟩)
      simpa using this
    · intro h q hq
      obtain ⟨j, hj, e⟩ := List.mem_iff_getElem.1 hq
      rw [List.length_take] at hj
      rw [List.getElem_take] at e
      have := h j (by omega) (by omega)
      unfold spDup at this
      rw [getDP l j (by omega), e] at this
      simpa using this
  rw [hdup, allF_range]
  obtain ⟨ms, hms⟩ : ∃ ms, (l.getD i z64).f1 = ms := ⟨_, rfl⟩
  rw [hms]
  have key : allF (memOk cs (flatM (l.take i)) ms) 0 ms.length = (allF (risAt ms) 0 ms.length && allF (spMem cs l i ms) 0 ms.length) := by
    rw [Bool.eq_iff_iff, Bool.and_eq_true, allF_iff, allF_iff, allF_iff]
    constructor
    · intro h
      have hk : ∀ k, k < ms.length → 0 ≤ find cs (ms.getD k 0) ∧ ms.getD k 0 ∉ flatM (l.take i) ++ ms.take k ∧ ¬ (0 < k ∧ ms.getD k 0 ≤ ms.getD (k - 1) 0) := by
        intro k hk
        have := h k (by omega) (by omega)
        unfold memOk at this
        rw [Bool.and_eq_true, Bool.and_eq_true, Bool.not_eq_true', Bool.not_eq_true'] at this
        refine ⟨of_decide_eq_true this.1.1, fun hm => ?_, fun hc => ?_⟩
        · rw [List.contains_iff_mem.2 hm] at this; cases this.1.2
        · rw [decide_eq_true hc.1, decide_eq_true hc.2] at this; cases this.2
      refine ⟨fun k _ hk2 => ?_, fun k _ hk2 => ?_⟩
      · obtain ⟨h1, h2, h3⟩ := hk k (by omega)
        have hn := find_num hg h1
        unfold risAt
        rw [decide_eq_true hn.1, decide_eq_true hn.2]
        by_cases e : k = 0
        · rw [decide_eq_true e]; rfl
        · rw [decide_eq_true (show ms.getD (k - 1) 0 < ms.getD k 0 by omega), Bool.or_true]; rfl
      · obtain ⟨h1, h2, h3⟩ := hk k (by omega)
        unfold spMem
        rw [decide_eq_true h1, Bool.true_and]
        refine decide_eq_true (phI_eq l i _ hi (by rw [hms]; exact mem_getD (by omega)) (fun j hj hm => h2 ?_))
        exact List.mem_append.2 (.inl ((flatM_mem l i _ (by omega)).2 ⟨j, hj, hm⟩))
    · rintro ⟨hr, hm⟩ k _ hk
      have hc := ris_chain ((allF_iff _ _ _).2 hr)
      have h1 := hm k (by omega) (by omega)
      unfold spMem at h1
      rw [Bool.and_eq_true] at h1
      have h2 := of_decide_eq_true h1.2
      have h3 : ms.getD k 0 ∉ flatM (l.take i) ++ ms.take k := by
        intro hmem
        rcases List.mem_append.1 hmem with h4 | h4
        · obtain ⟨j, hj, h5⟩ := (flatM_mem l i _ (by omega)).1 h4
          exact phI_ne l i j _ hj hi h5 h2
        · obtain ⟨j, hj, h5⟩ := (take_mem (by omega)).1 h4
          have := hc (k - j - 1) j (by omega)
          rw [show j + (k - j - 1 + 1) = k by omega] at this
          omega
      unfold memOk
      have h4 : (flatM (l.take i) ++ ms.take k).contains (ms.getD k 0) = false := by
        cases h : (flatM (l.take i) ++ ms.take k).contains (ms.getD k 0) with
        | false => rfl
        | true => exact absurd (List.contains_iff_mem.1 h) h3
      rw [h1.1, h4]
      by_cases e : 0 < k
      · have := hc 0 (k - 1) (by omega)
        rw [show k - 1 + (0 + 1) = k by omega] at this
        rw [decide_eq_true e, decide_eq_false (show ¬ ms.getD k 0 ≤ ms.getD (k - 1) 0 by omega)]; rfl
      · rw [decide_eq_false e]; rfl
  rw [key]
  generalize nmB (l.getD i z64).f0 = a
  generalize decide (ms.length = 0) = b
  generalize allF (spDup l (l.getD i z64).f0) 0 i = c
  generalize allF (risAt ms) 0 ms.length = d
  generalize allF (spMem cs l i ms) 0 ms.length = e
  cases a <;> cases b <;> cases c <;> cases d <;> cases e <;> rfl
theorem allF_congr {p q : Nat → Bool} (n : Nat) (h : ∀ i, i < n → p i = q i) : allF p 0 n = allF q 0 n := by
  rw [Bool.eq_iff_iff, allF_iff, allF_iff]
  exact ⟨fun g j h1 h2 => by rw [← h j (by omega)]; exact g j h1 h2, fun g j h1 h2 => by rw [h j (by omega)]; exact g j h1 h2⟩
theorem l7Good_ev (cs : List S77) (rs : List S91) (l : List S64) (hS : Smalls l) : Ev (fun k => spec_l7Good.f k cs rs l) (validG cs rs l) := by
  have hj : ∀ b, Ev (fun k => spec_l7Good.j0 k l b cs rs) (!b && allF (spPh cs l) 0 l.length) := by
    intro b
    refine Ev.step (fun k => by rw [spec_l7Good.j0]) ?_
    cases b with
    | true => simp only [if_true, Bool.not_true, Bool.false_and]; exact Ev.now _
    | false => simp only [Bool.false_eq_true, if_false, Bool.not_false, Bool.true_and]; exact good_loop cs rs l hS
  have hjt := hj true
  rw [Bool.not_true, Bool.false_and] at hjt
  unfold spec_l7Good.f validG
  refine Ev.bind (l5Good_ev cs rs) ?_
  cases hg : goodB cs rs with
  | false => simp only [Bool.false_and, Bool.false_eq_true, if_false]; exact hjt
  | true =>
    cases hc : consB cs.length (lat cs rs) with
    | false => simp only [Bool.and_false, Bool.false_and, Bool.false_eq_true, if_false]; exact hjt
    | true =>
      simp only [Bool.and_self, Bool.true_and, if_true]
      have h := hj (decide ((l.length : Int) > 6))
      have e : grpB cs l = (!decide ((l.length : Int) > 6) && allF (spPh cs l) 0 l.length) := by
        unfold grpB
        rw [allF_range, allF_congr l.length (fun i hi => ph_same hg l i hi), Bool.and_comm]
        congr 1
        by_cases h6 : l.length ≤ 6
        · rw [decide_eq_true h6, decide_eq_false (show ¬ (l.length : Int) > 6 by omega)]; rfl
        · rw [decide_eq_false h6, decide_eq_true (show (l.length : Int) > 6 by omega)]; rfl
      rw [e]
      exact h
/-! ### the law's own helpers -/
def cvP (x : S61) : S64 := ⟨x.f0, x.f1⟩
theorem rdPl (l : List S61) (i : Nat) (h : i < l.length) : rd_T61 l (i : Int) = l[i] := by simp [rd_T61, List.getD_eq_getElem?_getD, List.getElem?_eq_getElem h]
theorem toIntS_ev (l : List Int) (hl : l.length ≤ 1048576) : Ev (fun k => laws_toIntS.f k l) l := by
  unfold laws_toIntS.f
  have h1 : (0 : Int) ≤ (l.length : Int) := by omega
  have h2 : l.length ≤ 35184372088832 := by omega
  simp only [h1, if_true, Int.toNat_natCast, h2]
  have key := Ev.down l.length (fun k i => laws_toIntS.l0 k l ((l.take i).map id ++ List.replicate (l.length - i) 0) (i : Int)) (fun _ => l)
    (by
      refine Ev.step (fun k => by rw [laws_toIntS.l0]) ?_
      simp only [Int.lt_irrefl, if_false, List.take_length, Nat.sub_self, List.replicate_zero, List.append_nil, List.map_id]
      exact Ev.now _)
    (fun i hi ih => by
      refine Ev.step (fun k => by rw [laws_toIntS.l0]) ?_
      have a1 : (i : Int) < (l.length : Int) := by omega
      have a2 : (0 : Int) ≤ (i : Int) := by omega
      have a3 : (i : Int) < ((((l.take i).map id ++ List.replicate (l.length - i) 0).length : Nat) : Int) := by
        rw [List.length_append, List.length_map, List.length_take, List.length_replicate]
        omega
      have e := acc_step id 0 l i hi
      simp only [a1, a2, a3, if_true, rdI l i hi, w64 i (by omega), Int.toNat_natCast]
      rw [show l[i] = id l[i] from rfl, e]
      exact ih)
  have h0 := key 0 (Nat.zero_le _)
  simpa using h0
theorem toPhaseS_ev (l : List S61) (hl : l.length ≤ 1048576) (hm : ∀ p ∈ l, p.f1.length ≤ 1048576) : Ev (fun k => laws_toPhaseS.f k l) (l.map cvP) := by
  unfold laws_toPhaseS.f
  have h1 : (0 : Int) ≤ (l.length : Int) := by omega
  have h2 : l.length ≤ 7036874417766 := by omega
  simp only [h1, if_true, Int.toNat_natCast, h2]
  have key := Ev.down l.length (fun k i => laws_toPhaseS.l0 k l ((l.take i).map cvP ++ List.replicate (l.length - i) z64) (i : Int)) (fun _ => l.map cvP)
    (by
      refine Ev.step (fun k => by rw [laws_toPhaseS.l0]) ?_
      simp only [Int.lt_irrefl, if_false, List.take_length, Nat.sub_self, List.replicate_zero, List.append_nil]
      exact Ev.now _)
    (fun i hi ih => by
      refine Ev.step (fun k => by rw [laws_toPhaseS.l0]) ?_
      have a1 : (i : Int) < (l.length : Int) := by omega
      have a2 : (0 : Int) ≤ (i : Int) := by omega
      have a3 : (i : Int) < ((((l.take i).map cvP ++ List.replicate (l.length - i) z64).length : Nat) : Int) := by
        rw [List.length_append, List.length_map, List.length_take, List.length_replicate]
        omega
      simp only [a1, a2, a3, if_true, rdPl l i hi, w64 i (by omega), Int.toNat_natCast]
      have h : Ev (fun k => laws_toPhase.f k l[i].f0 l[i].f1) (l[i].f0, l[i].f1) := by
        unfold laws_toPhase.f
        refine Ev.bind (toIntS_ev l[i].f1 (hm _ (List.getElem_mem hi))) ?_
        exact Ev.now _
      refine Ev.bind h ?_
      have e := acc_step cvP z64 l i hi
      unfold cvP at e ih ⊢
      rw [e]
      exact ih)
  have h0 := key 0 (Nat.zero_le _)
  simpa using h0
theorem eqPh_ev (a : List S64) (h : Smalls a) : Ev (fun k => laws_eqPhaseS.f k a a) true := by
  have ha := h.1
  unfold laws_eqPhaseS.f
  simp only [if_true]
  have key := Ev.down a.length (fun k i => laws_eqPhaseS.l0 k a a (i : Int)) (fun _ => true)
    (by
      refine Ev.step (fun k => by rw [laws_eqPhaseS.l0]) ?_
      simp only [Int.lt_irrefl, if_false]
      exact Ev.now _)
    (fun i hi ih => by
      refine Ev.step (fun k => by rw [laws_eqPhaseS.l0]) ?_
      have a3 : (i : Int) < (a.length : Int) := by omega
      have a4 : (0 : Int) ≤ (i : Int) := by omega
      simp only [a3, a4, if_true, w64 i (by omega), rdP a i hi]
      have h1 : Ev (fun k => laws_eqPhase.f k a[i].f0 a[i].f1 a[i].f0 a[i].f1) true := by
        unfold laws_eqPhase.f
        simp only [if_true]
        refine Ev.bind (eqIntS_ev a[i].f1 (h.2 _ (List.getElem_mem hi)).2) ?_
        simp only [if_true]
        exact Ev.now _
      refine Ev.bind h1 ?_
      simp only [if_true]
      exact ih)
  exact key 0 (Nat.zero_le _)
theorem szPhase_eq (s : ByteArray) (ms : List Int) (x : Int) (hx : 0 ≤ x ∧ x ≤ 1048576) (hs : s.size ≤ 9223372036854775807) (hm : ms.length ≤ 9223372036854775807) :
    ∃ t, laws_szPhase.f s ms x = some t ∧ (t < 0 ∨ (0 ≤ t ∧ t ≤ 1048576 ∧ s.size ≤ 1048576 ∧ ms.length ≤ 1048576 ∧ t + ms.length ≤ x)) := by
  unfold laws_szPhase.f laws_szIntS.f
  have e0 : wrap64 (x - (s.size : Int)) = x - (s.size : Int) := by unfold wrap64; omega
  rw [e0]
  by_cases h0 : (x - (s.size : Int)) < 0
  · exact ⟨-1, by simp [h0], .inl (by omega)⟩
  · have e1 : wrap64 (x - (s.size : Int) - (ms.length : Int)) = x - (s.size : Int) - (ms.length : Int) := by unfold wrap64; omega
    simp only [h0, if_false, e1]
    by_cases h1 : (x - (s.size : Int) - (ms.length : Int)) < 0
    · exact ⟨-1, by simp [h1], .inl (by omega)⟩
    · exact ⟨x - (s.size : Int) - (ms.length : Int), by simp [h1], .inr (by omega)⟩
def sumM : List S61 → Nat
  | [] => 0
  | p :: r => p.f1.length + sumM r
theorem szPhaseS_ev (l : List S61) (x : Int) (hx : 0 ≤ x ∧ x ≤ 1048576) (hl : l.length ≤ 9223372036854775807) (hm : ∀ p ∈ l, p.f0.size ≤ maxLen ∧ p.f1.length ≤ 9223372036854775807) :
    ∃ t, Ev (fun k => laws_szPhaseS.f k l x) t ∧ (t < 0 ∨ (0 ≤ t ∧ t ≤ 1048576 ∧ l.length ≤ 1048576 ∧ (∀ p ∈ l, p.f0.size ≤ 1048576 ∧ p.f1.length ≤ 1048576) ∧ sumM l ≤ 1048576)) := by
  unfold laws_szPhaseS.f
  have e0 : wrap64 (x - (l.length : Int)) = x - (l.length : Int) := by unfold wrap64; omega
  simp only [e0]
  by_cases h0 : (x - (l.length : Int)) < 0
  · exact ⟨-1, by simp only [h0, if_true]; exact Ev.now _, .inl (by omega)⟩
  · simp only [h0, if_false]
    have hl2 : l.length ≤ 1048576 := by omega
    have key : ∀ d i y, l.length - i = d → i ≤ l.length → 0 ≤ y ∧ y ≤ 1048576 → ∃ t, Ev (fun k => laws_szPhaseS.l0 k l y (i : Int)) t ∧ (t < 0 ∨ (0 ≤ t ∧ t ≤ 1048576 ∧ (∀ j, i ≤ j → (hj : j < l.length) → (l[j].f0.size ≤ 1048576 ∧ l[j].f1.length ≤ 1048576)) ∧ ((sumM (l.drop i) : Nat) : Int) ≤ y)) := by
      intro d
      induction d with
      | zero =>
        intro i y hd hi hy
        obtain rfl : i = l.length := by omega
        refine ⟨y, ?_, .inr ⟨hy.1, hy.2, fun j h1 h2 => by omega, by rw [List.drop_length]; show ((0 : Nat) : Int) ≤ y; omega⟩⟩
        refine Ev.step (fun k => by rw [laws_szPhaseS.l0]) ?_
        simp only [Int.lt_irrefl, if_false]
        exact Ev.now _
      | succ d ih =>
        intro i y hd hi hy
        have hil : i < l.length := by omega
        have a3 : (i : Int) < (l.length : Int) := by omega
        have a4 : (0 : Int) ≤ (i : Int) := by omega
        have hmi := hm _ (List.getElem_mem hil)
        obtain ⟨t, ht, hc⟩ := szPhase_eq l[i].f0 l[i].f1 y hy (by have := hmi.1; unfold maxLen at this; omega) hmi.2
        rcases hc with hc | ⟨g1, g2, g3, g4, g5⟩
        · refine ⟨-1, ?_, .inl (by omega)⟩
          refine Ev.step (fun k => by rw [laws_szPhaseS.l0]) ?_
          simp only [a3, a4, if_true, rdPl l i hil, ht, Option.bind_some, hc]
          exact Ev.now _
        · obtain ⟨u, hu, hcu⟩ := ih (i + 1) t (by omega) (by omega) ⟨g1, g2⟩
          refine ⟨u, ?_, ?_⟩
          · refine Ev.step (fun k => by rw [laws_szPhaseS.l0]) ?_
            simp only [a3, a4, if_true, rdPl l i hil, ht, Option.bind_some, show ¬ t < 0 by omega, if_false, w64 i (by omega)]
            exact hu
          · rcases hcu with hcu | ⟨k1, k2, k3, k4⟩
            · exact .inl hcu
            · refine .inr ⟨k1, k2, fun j h1 h2 => ?_, by rw [List.drop_eq_getElem_cons hil, sumM]; omega⟩
              by_cases e : j = i
              · subst e; exact ⟨g3, g4⟩
              · exact k3 j (by omega) h2
    obtain ⟨t, ht, hc⟩ := key l.length 0 (x - (l.length : Int)) (by omega) (by omega) (by omega)
    refine ⟨t, ht, ?_⟩
    rcases hc with hc | ⟨k1, k2, k3, k4⟩
    · exact .inl hc
    · rw [List.drop_zero] at k4
      refine .inr ⟨k1, k2, hl2, fun p hp => ?_, by omega⟩
      obtain ⟨j, hj, e⟩ := List.mem_iff_getElem.1 hp
      have := k3 j (by omega) hj
      rwa [e] at this
theorem smalls_cv {l : List S61} (hl : l.length ≤ 1048576) (h : ∀ p ∈ l, p.f0.size ≤ 1048576 ∧ p.f1.length ≤ 1048576) : Smalls (l.map cvP) := by
  refine ⟨by rw [List.length_map]; exact hl, fun p hp => ?_⟩
  obtain ⟨q, hq, rfl⟩ := List.mem_map.1 hp
  exact h q hq
theorem totPH_cv : ∀ l : List S61, LB.totPH (l.map cvP) = l.length + sumM l
  | [] => rfl
  | p :: r => by
    rw [List.map_cons, LB.totPH, totPH_cv r, sumM, List.length_cons]
    show 1 + p.f1.length + (r.length + sumM r) = _
    omega
theorem putL_sub {n a : Int} : ∀ l : List Int, a ∈ putL l n → a = n ∨ a ∈ l
  | [], h => .inl (List.mem_singleton.1 h)
  | x :: r, h => by
    unfold putL at h
    split at h
    · rcases List.mem_cons.1 h with h | h
      · exact .inr (List.mem_cons.2 (.inl h))
      · rcases putL_sub r h with h | h
        · exact .inl h
        · exact .inr (List.mem_cons_of_mem _ h)
    · split at h
      · exact .inr h
      · rcases List.mem_cons.1 h with h | h
        · exact .inl h
        · exact .inr h
theorem putL_perm {n : Int} : ∀ l : List Int, n ∉ l → (putL l n).Perm (n :: l)
  | [], _ => List.Perm.refl _
  | x :: r, h => by
    unfold putL
    have h1 : ¬ x = n := fun e => h (List.mem_cons.2 (.inl e.symm))
    have h2 : n ∉ r := fun e => h (List.mem_cons_of_mem _ e)
    split
    · exact ((putL_perm r h2).cons x).trans (List.Perm.swap _ _ _)
    · first | exact List.Perm.refl _ | (rw [if_neg h1])
theorem putL_rise {n : Int} : ∀ l : List Int, l.Pairwise (· < ·) → (putL l n).Pairwise (· < ·)
  | [], _ => List.pairwise_singleton _ _
  | x :: r, h => by
    have h1 := List.pairwise_cons.1 h
    unfold putL
    split
    · rename_i hx
      refine List.pairwise_cons.2 ⟨fun a ha => ?_, putL_rise r h1.2⟩
      rcases putL_sub r ha with h2 | h2
      · omega
      · exact h1.1 a h2
    · split
      · exact h
      · refine List.pairwise_cons.2 ⟨fun a ha => ?_, h⟩
        rcases List.mem_cons.1 ha with h2 | h2
        · omega
        · have := h1.1 a h2; omega
theorem putAll_rise : ∀ (ns ms : List Int), ms.Pairwise (· < ·) → (putAll ms ns).Pairwise (· < ·)
  | [], _, h => h
  | n :: r, ms, h => putAll_rise r (putL ms n) (putL_rise ms h)
theorem putAll_perm : ∀ (ns ms : List Int), ns.Nodup → (∀ a ∈ ns, a ∉ ms) → (putAll ms ns).Perm (ms ++ ns)
  | [], ms, _, _ => by rw [List.append_nil]; exact List.Perm.refl _
  | n :: r, ms, h, hd => by
    have h1 := List.nodup_cons.1 h
    have h2 := hd n List.mem_cons_self
    have hp := putL_perm ms h2
    have ih := putAll_perm r (putL ms n) h1.2 (fun a ha hm => by
      rcases putL_sub ms hm with h3 | h3
      · rw [h3] at ha; exact h1.1 ha
      · exact hd a (List.mem_cons_of_mem _ ha) h3)
    refine ih.trans ((hp.append_right r).trans ?_)
    exact List.perm_middle.symm
theorem adj_rise {ms : List Int} (h : ∀ k, 0 < k → k < ms.length → ms.getD (k - 1) 0 < ms.getD k 0) : ms.Pairwise (· < ·) := by
  have key : ∀ d j, j + d + 1 < ms.length → ms.getD j 0 < ms.getD (j + d + 1) 0 := by
    intro d
    induction d with
    | zero => intro j hj; have := h (j + 1) (by omega) (by omega); simpa using this
    | succ d ih =>
      intro j hj
      have h1 := ih j (by omega)
      have h2 := h (j + (d + 1) + 1) (by omega) hj
      rw [show j + (d + 1) + 1 - 1 = j + d + 1 by omega] at h2
      omega
  rw [List.pairwise_iff_getElem]
  intro i j hi hj hij
  have h1 := key (j - i - 1) i (by omega)
  rw [show i + (j - i - 1) + 1 = j by omega] at h1
  simpa [List.getD_eq_getElem?_getD, hi, hj] using h1
theorem merge_same {ms ns : List Int} (h : ms.Pairwise (· < ·)) (hn : ns.Nodup) (hd : ∀ a ∈ ns, a ∉ ms) : srt (ms ++ ns) = putAll ms ns := by
  refine List.Perm.eq_of_pairwise (le := fun a b : Int => a ≤ b) (fun a b _ _ h1 h2 => by omega) ?_ ((putAll_rise ns ms h).imp (fun h => Int.le_of_lt h)) ((List.mergeSort_perm _ _).trans (putAll_perm ns ms hn hd).symm)
  have h1 := List.pairwise_mergeSort (le := fun x y : Int => decide (x ≤ y)) (fun a b c h1 h2 => by simp only [decide_eq_true_eq] at h1 h2 ⊢; omega) (fun a b => by simp only [Bool.or_eq_true, decide_eq_true_eq]; omega) (ms ++ ns)
  exact h1.imp (fun h => of_decide_eq_true h)
theorem mem_rise {cs : List S77} {U ms : List Int} (h : ∀ k, k < ms.length → memOk cs U ms k = true) : ms.Pairwise (· < ·) := by
  refine adj_rise (fun k h0 hk => ?_)
  have h1 := h k hk
  unfold memOk at h1
  rw [Bool.and_eq_true, Bool.not_eq_true', decide_eq_true h0, Bool.true_and] at h1
  have := of_decide_eq_false h1.2
  omega
theorem mem_apart {cs : List S77} {l : List S64} (h : grpB cs l = true) {i k : Nat} (hik : i < k) (hk : k < l.length) : ∀ a ∈ (l.getD k z64).f1, a ∉ (l.getD i z64).f1 := by
  intro a ha hi
  obtain ⟨q, hq, e⟩ := (contains_iff _ a).1 (List.contains_iff_mem.2 ha)
  have h1 := (mp_mem h hk).2 q hq
  unfold memOk at h1
  rw [Bool.and_eq_true, Bool.and_eq_true, Bool.not_eq_true', e] at h1
  have h2 : (flatM (l.take k) ++ (l.getD k z64).f1.take q).contains a = true := List.contains_iff_mem.2 (List.mem_append.2 (.inl ((flatM_mem l k a (by omega)).2 ⟨i, hik, hi⟩)))
  rw [h2] at h1
  cases h1.1.2
theorem mrg_take {l' : List S64} (l : List S64) (i k : Nat) (hl : l'.length = l.length) (hel : ∀ m, m < l.length → l'.getD m z64 = smEl l i k m) : ∀ m, m ≤ l.length → (l'.take m).eraseIdx k = smTo l i k m
  | 0, _ => by rw [List.take_zero]; rfl
  | m + 1, hm => by
    have ih := mrg_take l i k hl hel m (by omega)
    have hlen : (l'.take m).length = m := by rw [List.length_take]; omega
    have ht : l'.take (m + 1) = l'.take m ++ [smEl l i k m] := by
      rw [← hel m (by omega), List.take_add_one, List.getD_eq_getElem?_getD, List.getElem?_eq_getElem (by omega : m < l'.length)]
      rfl
    rw [ht]
    show _ = if m = k then smTo l i k m else smTo l i k m ++ [smEl l i k m]
    by_cases h1 : k < m
    · rw [List.eraseIdx_append_of_lt_length (by omega), ih, if_neg (by omega)]
    · rw [List.eraseIdx_append_of_length_le (by omega), hlen]
      rw [List.eraseIdx_of_length_le (by omega)] at ih
      by_cases h2 : m = k
      · subst h2
        rw [Nat.sub_self, if_pos rfl, ih]
        simp
      · rw [if_neg h2, ih, List.eraseIdx_of_length_le (by simp; omega)]
theorem mrg_same {cs : List S77} {rs : List S91} (hg : goodB cs rs = true) {l : List S64} (h : grpB cs l = true) {i k : Nat} (hi : i < l.length) (hk : k < l.length) (hne : i ≠ k) : mrg l i k = smTo l i k l.length := by
  have hrk := mem_rise (mp_mem h hk).2
  have hd : ∀ a ∈ (l.getD k z64).f1, a ∉ (l.getD i z64).f1 := by
    by_cases hlt : i < k
    · exact mem_apart h hlt hk
    · exact fun a ha hb => mem_apart h (show k < i by omega) hi a hb ha
  have hs := merge_same (mem_rise (mp_mem h hi).2) (hrk.imp (fun h => Int.ne_of_lt h)) hd
  have hm := mrg_take (l' := l.set i ⟨(l.getD i z64).f0, srt ((l.getD i z64).f1 ++ (l.getD k z64).f1)⟩) l i k (by rw [List.length_set]) (fun m hm => by
    unfold smEl
    by_cases e : m = i
    · subst e
      rw [if_pos rfl, ← hs, List.getD_eq_getElem?_getD, List.getElem?_set_self hm]
      rfl
    · rw [if_neg e, List.getD_eq_getElem?_getD, List.getElem?_set_ne (fun h => e h.symm), List.getD_eq_getElem?_getD]) l.length (Nat.le_refl _)
  rw [List.take_of_length_le (by rw [List.length_set]; exact Nat.le_refl _)] at hm
  exact hm
def mpAns (cs : List S77) (rs : List S91) (l : List S64) (i k : Int) : List S64 × Bool := if validG cs rs l = true ∧ i ≠ k ∧ (0 ≤ i ∧ i < l.length) ∧ (0 ≤ k ∧ k < l.length) then (mrg l i.toNat k.toNat, true) else ([], false)
theorem valid_parts {cs : List S77} {rs : List S91} {l : List S64} (hv : validG cs rs l = true) : goodB cs rs = true ∧ grpB cs l = true := by
  unfold validG at hv
  rw [Bool.and_eq_true, Bool.and_eq_true] at hv
  exact ⟨hv.1, hv.2.2⟩
theorem grp_six {cs : List S77} {l : List S64} (h : grpB cs l = true) : l.length ≤ 6 := by
  unfold grpB at h
  rw [Bool.and_eq_true] at h
  exact of_decide_eq_true h.2
theorem mpSpec_ev (cs : List S77) (rs : List S91) (l : List S64) (i k : Int) (hS : Smalls l) : Ev (fun q => spec_MergePhases.f q cs rs l i k) (mpAns cs rs l i k) := by
  unfold spec_MergePhases.f
  refine Ev.bind (l7Good_ev _ _ _ hS) ?_
  have e : smRes l (validG cs rs l) i k = some (mpAns cs rs l i k) := by
    unfold smRes mpAns
    by_cases hc : validG cs rs l = true ∧ i ≠ k ∧ (0 ≤ i ∧ i < l.length) ∧ (0 ≤ k ∧ k < l.length)
    · obtain ⟨hv, hne, h1, h2⟩ := hc
      obtain ⟨hg, hb⟩ := valid_parts hv
      have h6 := grp_six hb
      have hok : smOk l = true := by
        unfold smOk
        rw [Bool.and_eq_true, List.all_eq_true]
        refine ⟨decide_eq_true (by omega), fun p hp => decide_eq_true ?_⟩
        obtain ⟨j, hj, rfl⟩ := List.getElem_of_mem hp
        have h3 := mp_len hg hb j
        rw [getDP l j hj] at h3
        omega
      rw [if_pos ⟨hv, h1, h2, hne⟩, if_pos hok, if_pos ⟨hv, hne, h1, h2⟩, mrg_same hg hb (by omega) (by omega) (by omega)]
    · rw [if_neg (fun h => hc ⟨h.1, h.2.2.2, h.2.1, h.2.2.1⟩), if_neg hc]
  rw [e]
  exact Ev.now _
theorem mp_bound (cs : List S77) (rs : List S91) (l : List S64) (i k : Int) : (mpAns cs rs l i k).1.length ≤ 1000 ∧ (∀ r ∈ (mpAns cs rs l i k).1, r.f1.length ≤ 1000) := by
  unfold mpAns
  by_cases hc : validG cs rs l = true ∧ i ≠ k ∧ (0 ≤ i ∧ i < l.length) ∧ (0 ≤ k ∧ k < l.length)
  · rw [if_pos hc]
    obtain ⟨hv, hne, h1, h2⟩ := hc
    obtain ⟨hg, hb⟩ := valid_parts hv
    have h6 := grp_six hb
    obtain ⟨i, rfl⟩ : ∃ q : Nat, i = (q : Int) := ⟨i.toNat, by omega⟩
    obtain ⟨k, rfl⟩ : ∃ q : Nat, k = (q : Int) := ⟨k.toNat, by omega⟩
    rw [Int.toNat_natCast, Int.toNat_natCast]
    have hi : i < l.length := by omega
    have hk : k < l.length := by omega
    have hd : ∀ a ∈ (l.getD k z64).f1, a ∉ (l.getD i z64).f1 := by
      by_cases hlt : i < k
      · exact mem_apart hb hlt hk
      · exact fun a ha hb' => mem_apart hb (show k < i by omega) hi a hb' ha
    have u1 := mp_used hg (mp_mem hb hi).2 _ (Nat.le_refl _)
    have u2 := mp_used hg (mp_mem hb hk).2 _ (Nat.le_refl _)
    rw [List.take_length] at u1 u2
    have hu : UsedOk ((l.getD i z64).f1 ++ (l.getD k z64).f1) := ⟨List.nodup_append.2 ⟨u1.1, u2.1, fun a ha b hb' e => hd b hb' (e ▸ ha)⟩, fun x hx => by
      rcases List.mem_append.1 hx with h | h
      · exact u1.2 x h
      · exact u2.2 x h⟩
    have hlen := hu.len
    unfold mrg
    refine ⟨?_, fun r hr => ?_⟩
    · show (List.eraseIdx _ _).length ≤ _
      have := List.length_eraseIdx_le (l.set i (⟨(l.getD i z64).f0, srt ((l.getD i z64).f1 ++ (l.getD k z64).f1)⟩ : S64)) k
      rw [List.length_set] at this
      omega
    · have h3 := List.mem_of_mem_eraseIdx hr
      rcases List.mem_or_eq_of_mem_set h3 with h4 | h4
      · obtain ⟨j, hj, rfl⟩ := List.getElem_of_mem h4
        have h5 := mp_len hg hb j
        rw [getDP l j hj] at h5
        omega
      · rw [h4]
        show (srt _).length ≤ _
        rw [srt_length]
        omega
  · rw [if_neg hc]; simp
theorem FnExactMergePhases : ∀ (l0_0 : List (S100)) (l0_1 : List (S102)) (l1 : List (S61)) (a2 : Int) (a3 : Int), ((l0_0.length ≤ 9223372036854775807) ∧ ∀ y4 ∈ l0_0, ((Lit.int .i64 y4.f0).wf = true) ∧ ((Lit.int .i64 y4.f1).wf = true)) → ((l0_1.length ≤ 9223372036854775807) ∧ ∀ y4 ∈ l0_1, ((Lit.int .i64 y4.f0).wf = true) ∧ ((Lit.int .i64 y4.f1).wf = true)) → ((l1.length ≤ 9223372036854775807) ∧ ∀ y2 ∈ l1, (y2.f0.size ≤ maxLen) ∧ ((y2.f1.length ≤ 9223372036854775807) ∧ ∀ y5 ∈ y2.f1, (Lit.int .i64 y5).wf = true)) → ((Lit.int .i64 a2).wf = true) → ((Lit.int .i64 a3).wf = true) → ∃ k, laws_FnExactMergePhases.f k l0_0 l0_1 l1 a2 a3 = some true := by
  intro l0 l1 l2 i k g0 g1 g2 _ _
  obtain ⟨t, ht, hc⟩ := szRecord_eq l0 l1 g0.1 g1.1
  refine Ev.rounds ?_
  unfold laws_FnExactMergePhases.f
  rw [ht]
  simp only [Option.bind_some]
  rcases hc with hc | ⟨h0, h0', hl0, hl1⟩
  · simp only [hc, if_true]
    exact Ev.now _
  · have hn : ¬ t < 0 := by omega
    simp only [hn, if_false]
    obtain ⟨u, hu, hc⟩ := szPhaseS_ev l2 t ⟨h0, h0'⟩ g2.1 (fun p hp => ⟨(g2.2 p hp).1, (g2.2 p hp).2.1⟩)
    refine Ev.bind hu ?_
    rcases hc with hc | ⟨k0, _, hl2, hp, htot⟩
    · simp only [hc, if_true]
      exact Ev.now _
    · have hn2 : ¬ u < 0 := by omega
      have hS := smalls_cv hl2 hp
      have htp := toPhaseS_ev l2 hl2 (fun p hp' => (hp p hp').2)
      have hok : laws_FnExactMergePhases.Ok l0 l1 (l2.map cvP) := ⟨hl0, hl1, by rw [List.length_map]; exact hl2, by rw [totPH_cv]; omega⟩
      simp only [hn2, if_false]
      refine Ev.bind htp ?_
      have himpl : impl_MergePhases.f (l0.map LB.cvC) (l1.map LB.cvR) (l2.map cvP) i k = some (mpAns (l0.map LB.cvC) (l1.map LB.cvR) (l2.map cvP) i k) := if_pos ⟨hS.small, by rw [List.length_map]; omega⟩
      simp only [himpl]
      refine Ev.bind (mpSpec_ev _ _ _ i k hS) ?_
      refine Ev.bind (eqPh_ev _ hS) ?_
      have hlen := mp_bound (l0.map LB.cvC) (l1.map LB.cvR) (l2.map cvP) i k
      have hcond : True ∧ laws_FnExactMergePhases.Ok l0 l1 (l2.map cvP) := ⟨trivial, hok⟩
      rw [if_pos ⟨rfl, rfl, hok, hlen⟩]
      exact Ev.now _
end Go.Proofs.Ytenphfagdpkjaaa.Pure
