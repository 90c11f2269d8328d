-- Written by a program of this session (wip/xprint.py over the kit's printer).
import Derived.Test.YtlbkoejpjpcgaaaQ0
import Derived.Test.YtlbkoejpjpcgaaaQF100
import Derived.Test.YtlbkoejpjpcgaaaQF122
import Derived.Test.YtlbkoejpjpcgaaaQF90
import Derived.Test.YtlbkoejpjpcgaaaQP
namespace Go.Proofs.Ytlbkoejpjpcgaaa.Q
open Go.RowKit Go.Proofs.YtlbkoejpjpcgaaaW.PrintWords Go.Proofs.YtlbkoejpjpcgaaaW.PrintLast
set_option linter.unusedVariables false
set_option linter.unusedSimpArgs false

/-! ### impl_orderOf: function 85 -/
/-- What is reached from a to b through the indices below j. -/
def rch (M : Nat → Nat → Bool) : Nat → Nat → Nat → Bool
  | 0, a, b => M a b
  | j + 1, a, b => rch M j a b || (rch M j a j && rch M j j b)
theorem rch_col (M : Nat → Nat → Bool) (j a : Nat) : rch M (j + 1) a j = rch M j a j := by
  simp only [rch]; cases rch M j a j <;> simp
theorem rch_row (M : Nat → Nat → Bool) (j b : Nat) : rch M (j + 1) j b = rch M j j b := by
  simp only [rch]; cases rch M j j b <;> simp
/-- A set of indices below n as bits. -/
def mask : Nat → (Nat → Bool) → Nat
  | 0, _ => 0
  | n + 1, p => mask n p + if p n then 2 ^ n else 0
theorem mask_lt (n : Nat) (p : Nat → Bool) : mask n p < 2 ^ n := by
  induction n with
  | zero => simp [mask]
  | succ n ih => simp only [mask]; rw [Nat.pow_succ]; split <;> omega
theorem mask_bit (p : Nat → Bool) : ∀ (n i : Nat), (mask n p).testBit i = (decide (i < n) && p i) := by
  intro n
  induction n with
  | zero => intro i; simp [mask]
  | succ n ih =>
    intro i
    have h := mask_lt n p
    simp only [mask]
    by_cases hp : p n = true
    · rw [if_pos hp, Nat.add_comm]
      by_cases e : i = n
      · subst e
        rw [Nat.testBit_two_pow_add_eq, Nat.testBit_lt_two_pow h]
        simp [hp]
      · by_cases hlt : i < n
        · rw [Nat.testBit_two_pow_add_gt hlt, ih]; simp [hlt, Nat.lt_succ_of_lt hlt]
        · have h1 : 2 ^ n + mask n p < 2 ^ (n + 1) := by rw [Nat.pow_succ]; omega
          rw [Nat.testBit_lt_two_pow (Nat.lt_of_lt_of_le h1 (Nat.pow_le_pow_right (by decide) (by omega)))]
          simp; omega
    · have hp' : p n = false := by simpa using hp
      simp only [hp', Bool.false_eq_true, if_false, Nat.add_zero, ih]
      by_cases e : i = n
      · subst e; simp [hp']
      · have : decide (i < n) = decide (i < n + 1) := decide_eq_decide.2 (by omega)
        rw [this]
theorem mask_ext {n : Nat} {p q : Nat → Bool} (h : ∀ i, i < n → p i = q i) : mask n p = mask n q := by
  induction n with
  | zero => rfl
  | succ n ih => simp only [mask, ih (fun i hi => h i (by omega)), h n (by omega)]
theorem mask_or (n : Nat) (p q : Nat → Bool) : mask n p ||| mask n q = mask n (fun i => p i || q i) := by
  apply Nat.eq_of_testBit_eq
  intro i
  rw [Nat.testBit_or, mask_bit, mask_bit, mask_bit, Bool.and_or_distrib_left]
theorem mask_one {n b : Nat} (hb : b < n) : 1 <<< b = mask n (fun i => decide (i = b)) := by
  apply Nat.eq_of_testBit_eq
  intro i
  rw [mask_bit, Nat.one_shiftLeft, Nat.testBit_two_pow]
  by_cases e : i = b
  · subst e; simp [hb]
  · have : ¬ b = i := fun h => e h.symm
    simp [e, this]
theorem mask_zero (n : Nat) : mask n (fun _ => false) = 0 := by
  induction n with
  | zero => rfl
  | succ n ih => simp [mask, ih]
theorem mask_eq_zero {n : Nat} {p : Nat → Bool} : mask n p = 0 ↔ ∀ i, i < n → p i = false := by
  constructor
  · intro h i hi
    have := mask_bit p n i
    rw [h, Nat.zero_testBit] at this
    simpa [hi] using this.symm
  · intro h
    rw [mask_ext (q := fun _ => false) h, mask_zero]
def rchAt (A : Nat → Nat → Bool) (j i k : Nat) : Nat → Nat → Bool := fun a b => if a < i ∨ (a = i ∧ b < k) then rch A (j + 1) a b else rch A j a b
theorem rchAt_zero (A : Nat → Nat → Bool) (j : Nat) : rchAt A j 0 0 = rch A j := by
  funext a b; simp [rchAt]
theorem rchAt_row (A : Nat → Nat → Bool) (j i n a b : Nat) (hb : b < n) : rchAt A j i n a b = rchAt A j (i + 1) 0 a b := by
  unfold rchAt
  by_cases h : a < i ∨ (a = i ∧ b < n)
  · rw [if_pos h, if_pos (by omega)]
  · rw [if_neg h, if_neg (by omega)]
theorem rchAt_end (A : Nat → Nat → Bool) (j n a b : Nat) (ha : a < n) : rchAt A j n 0 a b = rch A (j + 1) a b := by
  unfold rchAt; rw [if_pos (by omega)]
theorem rchAt_ik (A : Nat → Nat → Bool) (j i k : Nat) : rchAt A j i k i k = rch A j i k := by
  unfold rchAt; rw [if_neg (by omega)]
theorem rchAt_ij (A : Nat → Nat → Bool) (j i k : Nat) : rchAt A j i k i j = rch A j i j := by
  unfold rchAt; split
  · exact rch_col A j i
  · rfl
theorem rchAt_jk (A : Nat → Nat → Bool) (j i k : Nat) : rchAt A j i k j k = rch A j j k := by
  unfold rchAt; split
  · exact rch_row A j k
  · rfl
theorem rchAt_step (A : Nat → Nat → Bool) (j i k : Nat) : (fun a b => if a = i ∧ b = k then rch A (j + 1) i k else rchAt A j i k a b) = rchAt A j i (k + 1) := by
  funext a b
  unfold rchAt
  by_cases h : a = i ∧ b = k
  · rw [if_pos h, if_pos (by omega), h.1, h.2]
  · rw [if_neg h]
    by_cases h2 : a < i ∨ (a = i ∧ b < k)
    · rw [if_pos h2, if_pos (by omega)]
    · rw [if_neg h2, if_neg (by omega)]
/-- Context i lies above context k by a relation of the list. -/
def abv (cs : List S108) (rs : List S100) : Nat → Nat → Bool := fun i k => rs.any fun x => decide (find cs x.f0 = (i : Int)) && decide (find cs x.f1 = (k : Int))
/-- Context i is later than context k. -/
def lat (cs : List S108) (rs : List S100) : Nat → Nat → Bool := rch (abv cs rs) cs.length
def nums (cs : List S108) : List Int := cs.map (·.f0)
def relsIn (cs : List S108) (rs : List S100) : Prop := ∀ x, x ∈ rs → 0 ≤ find cs x.f0 ∧ 0 ≤ find cs x.f1
theorem abv_snoc (cs : List S108) (rs : List S100) (x : S100) (i k : Nat) (hi : find cs x.f0 = (i : Int)) (hk : find cs x.f1 = (k : Int)) : (fun a b => if a = i ∧ b = k then true else abv cs rs a b) = abv cs (rs ++ [x]) := by
  funext a b
  simp only [abv, List.any_append, List.any_cons, List.any_nil, Bool.or_false, hi, hk]
  by_cases h : a = i ∧ b = k
  · obtain ⟨rfl, rfl⟩ := h; simp
  · rw [if_neg h]
    have : (decide ((i : Int) = (a : Int)) && decide ((k : Int) = (b : Int))) = false := by
      rw [Bool.and_eq_false_iff, decide_eq_false_iff_not, decide_eq_false_iff_not]
      omega
    rw [this, Bool.or_false]
theorem Mat.below {w w' : World} {N n B : Nat} {M : Nat → Nat → Bool} (h : Mat w N n M) (hb : Below B w w') (hB : N + n < B) : Mat w' N n M :=
  ⟨h.top.of_block (hb.block N (by omega)), fun j hj => (h.row j hj).of_block (hb.block (N + 1 + j) (by omega))⟩
theorem Mat.congr {w : World} {N n : Nat} {M M' : Nat → Nat → Bool} (h : Mat w N n M) (e : ∀ a b, a < n → b < n → M a b = M' a b) : Mat w N n M' :=
  ⟨h.top, fun j hj => (h.row j hj).congr (fun b hb => by rw [e j b hj hb])⟩
theorem Mat.set {w : World} {N n : Nat} {M : Nat → Nat → Bool} (h : Mat w N n M) (i k : Nat) (v : Bool) (hi : i < n) : Mat (w.setCell ⟨N + 1 + i, k, none⟩ (.bool v)) N n (fun a b => if a = i ∧ b = k then v else M a b) := by
  refine ⟨h.top.setOther (by show N ≠ N + 1 + i; omega) _, fun j hj => ?_⟩
  by_cases e : j = i
  · subst e
    refine ((h.row j hj).set k _).congr (fun b _ => ?_)
    by_cases e2 : b = k <;> simp [e2]
  · refine ((h.row j hj).setOther (by show N + 1 + j ≠ N + 1 + i; omega) _).congr (fun b _ => ?_)
    simp [e]
theorem Mat.setOther {w : World} {N n : Nat} {M : Nat → Nat → Bool} (h : Mat w N n M) {a : Addr} (ha : a.block < N ∨ N + n < a.block) (v : Value) : Mat (w.setCell a v) N n M :=
  ⟨h.top.setOther (by omega) _, fun j hj => (h.row j hj).setOther (by omega) _⟩
theorem Mat.topc {w : World} {N n : Nat} {M : Nat → Nat → Bool} (h : Mat w N n M) {i : Nat} (hi : i < n) : w.cell? ⟨N, i, none⟩ = some (.slice (some ⟨N + 1 + i, 0, none⟩) n n) := h.top.cell hi
theorem Mat.cell {w : World} {N n : Nat} {M : Nat → Nat → Bool} (h : Mat w N n M) {i k : Nat} (hi : i < n) (hk : k < n) : w.cell? ⟨N + 1 + i, k, none⟩ = some (.bool (M i k)) := (h.row i hi).cell hk
theorem Mat.frozen {w : World} {N n : Nat} {M : Nat → Nat → Bool} (h : Mat w N n M) {i : Nat} (hi : i < n) (k : Nat) : w.frozen? ⟨N + 1 + i, k, none⟩ = false := (h.row i hi).frozen k
theorem Mat.drew {w : World} {N n : Nat} {M : Nat → Nat → Bool} (h : Mat w N n M) : Mat w.drew N n M := ⟨h.top, h.row⟩
theorem Mat.lt {w : World} {N n : Nat} {M : Nat → Nat → Bool} (h : Mat w N n M) : N + n < w.heap.size := by
  cases n with
  | zero => exact h.top.lt
  | succ n => have := (h.row n (by omega)).lt; omega
theorem rowIs_block {w : World} {b : Nat} {t : TypeId} {n : Nat} {f : Nat → Value} (h : w.rowIs b t n f) : ∃ c, w.heap[b]? = some (.cells c t (0, 0)) := by
  obtain ⟨c, hc, _⟩ := h; exact ⟨c, hc⟩
/-- An order, as it lies in memory: at block p the numbers, and the two matrices. -/
structure OrdIn (w wr : World) (p N1 N2 n : Nat) (v : Value) (ns : List Int) (M1 M2 : Nat → Nat → Bool) : Prop where
  below : Below w.heap.size w wr
  l0 : w.heap.size ≤ N1
  l1 : N1 + n < N2
  l2 : N2 + n < p
  row : wr.rowIs p 113 3 (fun j => if j = 0 then v else if j = 1 then .slice (some ⟨N1, 0, none⟩) n n else .slice (some ⟨N2, 0, none⟩) n n)
  m1 : Mat wr N1 n M1
  m2 : Mat wr N2 n M2
  ns : Kd.R (Kd.int .i64) 3 wr p (fun _ => True) v ns
section
variable {w wr W : World} {p N1 N2 n : Nat} {v : Value} {ns : List Int} {M1 M2 : Nat → Nat → Bool}
theorem OrdIn.step (h : OrdIn w wr p N1 N2 n v ns M1 M2) (hb : Below wr.heap.size wr W) : OrdIn w W p N1 N2 n v ns M1 M2 := by
  have hp := h.row.lt
  have hl1 := h.l1
  have hl2 := h.l2
  exact ⟨below_chain h.below hb, h.l0, h.l1, h.l2, h.row.of_block (hb.block p hp), h.m1.below hb (by omega), h.m2.below hb (by omega), Kd.R_below h.ns hb⟩
theorem OrdIn.drew (h : OrdIn w wr p N1 N2 n v ns M1 M2) : OrdIn w wr.drew p N1 N2 n v ns M1 M2 := h.step (below_drew (Below.refl _ _))
theorem OrdIn.c0 (h : OrdIn w wr p N1 N2 n v ns M1 M2) : wr.cell? ⟨p, 0, none⟩ = some v := by simpa using h.row.cell (i := 0) (by omega)
theorem OrdIn.c1 (h : OrdIn w wr p N1 N2 n v ns M1 M2) : wr.cell? ⟨p, 1, none⟩ = some (.slice (some ⟨N1, 0, none⟩) n n) := by simpa using h.row.cell (i := 1) (by omega)
theorem OrdIn.c2 (h : OrdIn w wr p N1 N2 n v ns M1 M2) : wr.cell? ⟨p, 2, none⟩ = some (.slice (some ⟨N2, 0, none⟩) n n) := by simpa using h.row.cell (i := 2) (by omega)
theorem OrdIn.set1 (h : OrdIn w wr p N1 N2 n v ns M1 M2) (i k : Nat) (b : Bool) (hi : i < n) : OrdIn w (wr.setCell ⟨N1 + 1 + i, k, none⟩ (.bool b)) p N1 N2 n v ns (fun a c => if a = i ∧ c = k then b else M1 a c) M2 := by
  have hl0 := h.l0
  have hl1 := h.l1
  have hl2 := h.l2
  obtain ⟨c, hc⟩ := rowIs_block (h.m1.row i hi)
  exact ⟨below_set h.below (by omega), h.l0, h.l1, h.l2, h.row.setOther (by show p ≠ N1 + 1 + i; omega) _, h.m1.set i k b hi, h.m2.setOther (by left; show N1 + 1 + i < N2; omega) _, Kd.R_set h.ns hc (by decide) _ _⟩
theorem OrdIn.set2 (h : OrdIn w wr p N1 N2 n v ns M1 M2) (i k : Nat) (b : Bool) (hi : i < n) : OrdIn w (wr.setCell ⟨N2 + 1 + i, k, none⟩ (.bool b)) p N1 N2 n v ns M1 (fun a c => if a = i ∧ c = k then b else M2 a c) := by
  have hl0 := h.l0
  have hl1 := h.l1
  have hl2 := h.l2
  obtain ⟨c, hc⟩ := rowIs_block (h.m2.row i hi)
  exact ⟨below_set h.below (by omega), h.l0, h.l1, h.l2, h.row.setOther (by show p ≠ N2 + 1 + i; omega) _, h.m1.setOther (by right; show N1 + n < N2 + 1 + i; omega) _, h.m2.set i k b hi, Kd.R_set h.ns hc (by decide) _ _⟩
theorem OrdIn.congr {M1' M2' : Nat → Nat → Bool} (h : OrdIn w wr p N1 N2 n v ns M1 M2) (e1 : ∀ a b, a < n → b < n → M1 a b = M1' a b) (e2 : ∀ a b, a < n → b < n → M2 a b = M2' a b) : OrdIn w wr p N1 N2 n v ns M1' M2' :=
  ⟨h.below, h.l0, h.l1, h.l2, h.row, h.m1.congr e1, h.m2.congr e2, h.ns⟩
/-- The numbers' list is grown and its slice stored back. -/
theorem OrdIn.grow {v1 : Value} {ns1 : List Int} (h : OrdIn w wr p N1 N2 n v ns M1 M2) (hb : Below p wr W) (hg : wr.grownBy W v.ownBlock) (ho : Kd.R (Kd.int .i64) 3 W p (fun _ => True) v1 ns1) : OrdIn w (W.setCell ⟨p, 0, none⟩ v1) p N1 N2 n v1 ns1 M1 M2 := by
  have hl0 := h.l0
  have hl1 := h.l1
  have hl2 := h.l2
  have hp := h.row.lt
  obtain ⟨c, hc⟩ := rowIs_block h.row
  have hrow := h.row.of_block (hg.block p hp (Kd.R_ne h.ns hc (by decide)))
  obtain ⟨c2, hc2⟩ := rowIs_block hrow
  refine ⟨below_set (h.below.trans (hb.mono (by omega))) (by omega), h.l0, h.l1, h.l2, (hrow.set 0 v1).congr (fun j _ => ?_), (h.m1.below hb (by omega)).setOther (by right; show N1 + n < p; omega) _, (h.m2.below hb (by omega)).setOther (by right; show N2 + n < p; omega) _, Kd.R_set ho hc2 (by decide) _ _⟩
  by_cases e : j = 0 <;> simp [e]
theorem OrdIn.held (h : OrdIn w wr p N1 N2 n v ns M1 M2) (hg : wr.grownBy W v.ownBlock) : W.cell? ⟨p, 0, none⟩ = some v ∧ W.frozen? ⟨p, 0, none⟩ = false := by
  obtain ⟨c, hc⟩ := rowIs_block h.row
  have hrow := h.row.of_block (hg.block p h.row.lt (Kd.R_ne h.ns hc (by decide)))
  exact ⟨by simpa using hrow.cell (i := 0) (by omega), hrow.frozen 0⟩
end
theorem OrdIn.base {w wb wr : World} {p N1 N2 n : Nat} {v : Value} {ns : List Int} {M1 M2 : Nat → Nat → Bool} (h : OrdIn wb wr p N1 N2 n v ns M1 M2) (hb : Below w.heap.size w wb) : OrdIn w wr p N1 N2 n v ns M1 M2 :=
  ⟨below_chain hb h.below, by have := hb.size; have := h.l0; omega, h.l1, h.l2, h.row, h.m1, h.m2, h.ns⟩
theorem nums_snoc (cs : List S108) (i : Nat) (hi : i < cs.length) : nums (cs.take (i + 1)) = nums (cs.take i) ++ [(cs.getD i z108).f0] := by
  unfold nums
  rw [List.take_succ_eq_append_getElem hi, List.map_append, List.getD_eq_getElem?_getD, List.getElem?_eq_getElem hi]
  rfl
theorem nums_take_le (cs : List S108) (i : Nat) : (nums (cs.take i)).length ≤ cs.length := by
  rw [nums, List.length_map, List.length_take]; omega
theorem wrap_succ (i : Nat) (h : i ≤ 1000000) : wrap64 ((i : Int) + 1) = ((i + 1 : Nat) : Int) := by unfold wrap64; omega
theorem take_snocR (rs : List S100) (i : Nat) (hi : i < rs.length) : rs.take (i + 1) = rs.take i ++ [rs.getD i z100] := by
  rw [List.take_succ_eq_append_getElem hi, List.getD_eq_getElem?_getD, List.getElem?_eq_getElem hi]
  rfl
theorem find_nat (cs : List S108) (x : Int) (h : 0 ≤ find cs x) : ∃ a : Nat, find cs x = (a : Int) ∧ a < cs.length := by
  have := idxI_range (fun c => c.f0 == x) cs
  unfold find at h ⊢
  exact ⟨(idxI (fun c => c.f0 == x) cs).toNat, by omega, by omega⟩
theorem relOk_in (cs : List S108) : ∀ (rs : List S100) (p : Option S100), relOk cs p rs = true → relsIn cs rs
  | [], _, _ => fun x hx => by simp at hx
  | y :: r, p, h => by
    simp only [relOk, Bool.and_eq_true, decide_eq_true_eq] at h
    intro x hx
    rcases List.mem_cons.1 hx with rfl | hx
    · exact ⟨h.1.1.1.2, h.1.1.2⟩
    · exact relOk_in cs r _ h.2 x hx
theorem goodB_parts {cs : List S108} {rs : List S100} (h : goodB cs rs = true) : cs.length ≤ 10 ∧ rs.length ≤ 24 ∧ relsIn cs rs := by
  simp only [goodB, Bool.and_eq_true, decide_eq_true_eq] at h
  exact ⟨h.1.1.1, h.1.1.2, relOk_in cs rs _ h.2⟩
def impl_orderOf.T6 : Bool × List (List Nat × List Nat) := (true, [([], []), ([], []), ([1], [1]), ([2], [2]), ([3], [3]), ([], []), ([5], [5]), ([6], [6]), ([4, 7], [4, 7]), ([0, 0, 1, 2, 3, 4, 5, 6, 7, 8], [0]), ([9, 0, 1, 2, 3, 4, 5, 6, 7, 8], [9]), ([10, 8, 8, 0, 1, 2, 3, 4, 5, 6, 7, 8], [8, 10])])
def impl_orderOf.B6 : List Nat := [0, 0, 2, 6, 14, 0, 32, 96, 254, 511, 1023, 2047]
theorem impl_orderOf.tab6 : rtab .any (opsOf Try.f85 6) = impl_orderOf.T6 := by kernel_rfl
theorem impl_orderOf.bits6 : waitsOk impl_orderOf.T6.2 impl_orderOf.B6 = true := by kernel_rfl
def impl_orderOf.T11 : Bool × List (List Nat × List Nat) := (true, [([], []), ([], []), ([1], [1]), ([0, 2], [0, 2]), ([], []), ([], []), ([5], [5]), ([4, 6, 3], [4, 6]), ([3, 7, 0, 1, 2, 3], [3]), ([7, 8, 0, 1, 2, 3, 4, 5, 6, 7, 8], [7])])
def impl_orderOf.B11 : List Nat := [0, 0, 2, 7, 0, 0, 32, 127, 255, 511]
theorem impl_orderOf.tab11 : rtab .any (opsOf Try.f85 11) = impl_orderOf.T11 := by kernel_rfl
theorem impl_orderOf.bits11 : waitsOk impl_orderOf.T11.2 impl_orderOf.B11 = true := by kernel_rfl
def impl_orderOf.T24 : Bool × List (List Nat × List Nat) := (true, [([], []), ([0], [0]), ([1], [1]), ([2], [2]), ([], []), ([3, 4], [3, 4]), ([5], [5]), ([], []), ([], []), ([8], [8]), ([9], [9]), ([10], [10]), ([], []), ([11, 12], [11, 12]), ([13], [13]), ([], []), ([14, 15], [14, 15]), ([16], [16]), ([17], [17]), ([18], [18]), ([19, 18], [18, 19]), ([20, 18], [18, 20]), ([21, 18], [18, 21]), ([18], [18]), ([22, 23, 18], [18, 22, 23]), ([24, 18], [18, 24]), ([18], [18]), ([25, 26, 18], [18, 25, 26]), ([27, 18], [18, 27]), ([28, 18, 18], [18, 28]), ([29], [29]), ([30, 29], [29, 30]), ([31, 29], [29, 31]), ([32, 29], [29, 32]), ([29], [29]), ([33, 34, 29], [29, 33, 34]), ([35, 29], [29, 35]), ([29], [29]), ([36, 37, 29], [29, 36, 37]), ([38, 29], [29, 38]), ([29, 39, 18], [18, 29, 39]), ([18, 40], [18, 40]), ([6, 7, 0, 1, 2, 3, 4, 5, 6, 7, 8, 9, 10, 11, 12, 13, 14, 15, 16, 17, 18, 19, 20, 21, 22, 23, 24, 25, 26, 27, 28, 29, 30, 31, 32, 33, 34, 35, 36, 37, 38, 39, 40, 41], [6, 7]), ([42, 41, 29, 0, 1, 2, 3, 4, 5, 6, 7, 8, 9, 10, 11, 12, 13, 14, 15, 16, 17, 18, 19, 20, 21, 22, 23, 24, 25, 26, 27, 28, 29, 30, 31, 32, 33, 34, 35, 36, 37, 38, 39, 40, 41], [41, 42])])
def impl_orderOf.B24 : List Nat := [0, 1, 3, 7, 0, 31, 63, 0, 0, 256, 768, 1792, 0, 7936, 16128, 0, 65280, 130816, 261888, 524032, 1048320, 2096896, 4194048, 524032, 16776960, 33554176, 524032, 134217472, 268435200, 536870656, 1073741568, 2147483392, 4294967040, 8589934336, 1073741568, 34359738112, 68719476480, 1073741568, 274877906688, 549755813632, 1099511627520, 2199023255296, 4398046511103, 8796093022207]
theorem impl_orderOf.tab24 : rtab .any (opsOf Try.f85 24) = impl_orderOf.T24 := by kernel_rfl
theorem impl_orderOf.bits24 : waitsOk impl_orderOf.T24.2 impl_orderOf.B24 = true := by kernel_rfl
set_option maxHeartbeats 8000000 in
set_option maxRecDepth 100000 in
theorem impl_orderOf.calls (A0_0 : Option Addr) (c0_0 : Nat) (l0_0 : List S108) (A0_1 : Option Addr) (c0_1 : Nat) (l0_1 : List S100) (w : World) (hr0_0 : Kd.C k108 w A0_0 l0_0.length l0_0) (hc0_0 : l0_0.length ≤ c0_0) (hr0_1 : Kd.C k100 w A0_1 l0_1.length l0_1) (hc0_1 : l0_1.length ≤ c0_1) (hn : l0_0.length ≤ 10) (hm : l0_1.length ≤ 24) (hin : relsIn l0_0 l0_1) :
    Calls Try.prog 85 #[.agg #[.slice A0_0 l0_0.length c0_0, .slice A0_1 l0_1.length c0_1]] w fun e w' => ∃ p, e = .returned (.pointer (some ⟨p, 0, none⟩)) ∧ ∃ N1 N2 v, OrdIn w w' p N1 N2 l0_0.length v (nums l0_0) (abv l0_0 l0_1) (lat l0_0 l0_1) := by
  have HR0 := Aside0.mk hr0_0
  have HR1 := Aside0.mk hr0_1
  have HC0 := Aside0.mk hc0_0
  have HC1 := Aside0.mk hc0_1
  have HIN := Aside0.mk hin
  have HN := Aside0.mk hn
  have HM := Aside0.mk hm
  clear hr0_0 hr0_1 hc0_0 hc0_1 hin hn hm
  obtain ⟨wb, hwb⟩ : ∃ wb, w.alloc (.cells #[.slice A0_0 l0_0.length c0_0, .slice A0_1 l0_1.length c0_1] 33 (0, 0)) = wb := ⟨_, rfl⟩
  have HWB := Aside0.mk (show Below w.heap.size w wb from by rw [← hwb]; exact below_alloc (Below.refl _ _) _)
  have hb0 : wb.cell? ⟨w.heap.size, 0, none⟩ = some (.slice A0_0 l0_0.length c0_0) := by rw [← hwb]; simp
  have hb1 : wb.cell? ⟨w.heap.size, 1, none⟩ = some (.slice A0_1 l0_1.length c0_1) := by rw [← hwb]; simp
  have hbs : w.heap.size < wb.heap.size := by rw [← hwb]; simp
  go_enter Try.func85, Try.ntmps85
  go_upto_region 1 with (fail)
  try rw [hwb]
  clear hwb
  go_upto_region 3 with (first | (go_at_call 122; refine (impl_square.calls l0_0.length wb (by have := HN.out; omega)).mono ?_; rintro e w1 ⟨N1, rfl, hN1, hm1, hs1, hw1⟩; have E1 := Aside0.mk (And.intro hN1 (And.intro hm1 (And.intro hs1 hw1))); clear hN1 hm1 hs1 hw1) | (go_at_call 122; refine (impl_square.calls l0_0.length w1 (by have := HN.out; omega)).mono ?_; rintro e w2 ⟨N2, rfl, hN2, hm2, hs2, hw2⟩; have E2 := Aside0.mk (And.intro hN2 (And.intro hm2 (And.intro hs2 hw2))); clear hN2 hm2 hs2 hw2))
  obtain ⟨p, hp⟩ : ∃ p, w2.heap.size = p := ⟨_, rfl⟩
  generalize hwq : w2.alloc (.cells #[.slice none 0 0, .slice (some ⟨N1, 0, none⟩) l0_0.length l0_0.length, .slice (some ⟨N2, 0, none⟩) l0_0.length l0_0.length] 113 (0, 0)) = wq
  rw [hp]
  have O0 := Aside0.mk (show OrdIn wb wq p N1 N2 l0_0.length (.slice none 0 0) (nums (l0_0.take 0)) (fun _ _ => false) (fun _ _ => false) from by
    obtain ⟨a1, a2, a3, a4⟩ := E1.out
    obtain ⟨b1, b2, b3, b4⟩ := E2.out
    have hal := below_alloc (Below.refl w2.heap.size w2) (.cells #[.slice none 0 0, .slice (some ⟨N1, 0, none⟩) l0_0.length l0_0.length, .slice (some ⟨N2, 0, none⟩) l0_0.length l0_0.length] 113 (0, 0))
    rw [hwq] at hal
    refine ⟨below_chain (below_chain a4 b4) hal, by omega, by omega, by omega, ?_, (a2.below b4 (by omega)).below hal (by omega), b2.below hal (by omega), Kd.R_nil _ _ _ _ _⟩
    rw [← hp, ← hwq]
    have := World.rowIs_alloc w2 #[.slice none 0 0, .slice (some ⟨N1, 0, none⟩) l0_0.length l0_0.length, .slice (some ⟨N2, 0, none⟩) l0_0.length l0_0.length] 113 (fun j => if j = 0 then .slice none 0 0 else if j = 1 then .slice (some ⟨N1, 0, none⟩) l0_0.length l0_0.length else .slice (some ⟨N2, 0, none⟩) l0_0.length l0_0.length) (fun i hi => by
      match i, hi with
      | 0, _ => rfl
      | 1, _ => rfl
      | 2, _ => rfl)
    exact this)
  clear E1 E2 hwq hp
  have hq0 : wq.cell? ⟨w.heap.size, 0, none⟩ = some (.slice A0_0 l0_0.length c0_0) := (O0.out.below.cell (p := ⟨w.heap.size, 0, none⟩) hbs).trans hb0
  go_wp2
  go_loopg [6, 26] l0_0.length (fun gg _ s26 wr => ∃ (i : Nat) (v : Value), i ≤ l0_0.length ∧ l0_0.length - i ≤ gg ∧ s26 = .int .i64 i ∧ Aside0 (OrdIn wb wr p N1 N2 l0_0.length v (nums (l0_0.take i)) (fun _ _ => false) (fun _ _ => false)))
  case atStart => exact ⟨0, _, Nat.zero_le _, by omega, rfl, O0⟩
  case round =>
    clear hq0 O0
    obtain ⟨i, v, hi, hgg, rfl, HO⟩ := hrel
    by_cases hlt : i < l0_0.length
    · have hltz : (i : Int) < (l0_0.length : Int) := by omega
      obtain ⟨ad, e1, hx0, hx1⟩ := at_T108 HR0.out (i : Int) (by omega) hltz
      cases e1
      have e6 : rd_T108 l0_0 (i : Int) = l0_0.getD i z108 := by simp [rd_T108]
      rw [e6] at hx0 hx1
      simp only [Int.toNat_natCast] at hx0 hx1
      replace hx0 := (HO.out.below.cell (p := ad.add (i * 2)) (Nat.lt_of_lt_of_le (World.block_lt_of_cell? w _ hx0) (Nat.le_of_lt hbs))).trans ((HWB.out.cell (World.block_lt_of_cell? w _ hx0)).trans hx0)
      replace hx1 := (HO.out.below.cell (Nat.lt_of_lt_of_le (World.block_lt_of_cell? w _ hx1) (Nat.le_of_lt hbs))).trans ((HWB.out.cell (World.block_lt_of_cell? w _ hx1)).trans hx1)
      obtain ⟨y, hy⟩ : ∃ y, l0_0.getD i z108 = y := ⟨_, rfl⟩
      rw [hy] at hx0 hx1
      have HY := Aside0.mk hy
      clear hy e6
      go_upto_region 6 with (fail)
      have HO2 := Aside0.mk (HO.out.step (below_alloc (Below.refl _ _) (.cells #[.int .i64 y.f0, .int .i64 y.f1] 108 (0, 0))))
      have BK3 := Aside0.mk (heap_alloc_new wr (.cells #[.int .i64 y.f0, .int .i64 y.f1] 108 (0, 0)))
      clear hx0 hx1 HO
      generalize wr.alloc (.cells #[.int .i64 y.f0, .int .i64 y.f1] 108 (0, 0)) = wq2 at HO2 BK3 ⊢
      generalize wr.heap.size = gy at BK3 ⊢
      have HS0 := Aside0.mk (show (fun w' : World => w'.cell? ⟨p, 0, none⟩ = some v ∧ w'.cell? ⟨gy, 0, none⟩ = some (.int .i64 y.f0) ∧ Aside0 (OrdIn wb w' p N1 N2 l0_0.length v (nums (l0_0.take i)) (fun _ _ => false) (fun _ _ => false))) wq2.drew from ⟨HO2.out.drew.c0, (blk_cell (blk_drew BK3.out) 0).trans rfl, ⟨HO2.out.drew⟩⟩)
      clear HO2 BK3
      -- MARK
      all_goals refine start_ (n := 12) (S := (fun w' => w'.cell? ⟨p, 0, none⟩ = some v ∧ w'.cell? ⟨gy, 0, none⟩ = some (.int .i64 y.f0) ∧ Aside0 (OrdIn wb w' p N1 N2 l0_0.length v (nums (l0_0.take i)) (fun _ _ => false) (fun _ _ => false)))) (ds := [8, 11]) (bl 0 12) (by kernel_rfl) rfl rfl HS0.out (fun hHeld => ?_); refine with_tabW impl_orderOf.tab6 impl_orderOf.bits6 (fun HT_ HW_ => ?_)
      all_goals generalize wq2.drew = wv at hHeld ⊢
      all_goals first | refine pA_ 0 (some 30) (bl 1 12) HT_.out (h := ?_) | refine pO_ 0 (some 30) (bl 1 12) HT_.out (h := ?_)
      all_goals first | refine pA_ 1 (some 31) (bl 2 12) HT_.out (h := ?_) | refine pO_ 1 (some 31) (bl 2 12) HT_.out (h := ?_)
      all_goals first | refine pA_ 2 (some 32) (bl 3 12) HT_.out (h := ?_) | refine pO_ 2 (some 32) (bl 3 12) HT_.out (h := ?_)
      all_goals first | refine pA_ 3 (some 33) (bl 4 12) HT_.out (h := ?_) | refine pO_ 3 (some 33) (bl 4 12) HT_.out (h := ?_)
      all_goals first | refine pA_ 5 (some 35) (bx 4 [5] 12) HT_.out (h := ?_) | refine pO_ 5 (some 35) (bx 4 [5] 12) HT_.out (h := ?_)
      all_goals first | refine tA_ 4 (some 34) (bl 6 12) HT_.out HW_.out hHeld (h := ?_) | refine pO_ 4 (some 34) (bl 6 12) HT_.out (h := ?_)
      all_goals first | refine tA_ 6 (some 36) (bl 7 12) HT_.out HW_.out hHeld (h := ?_) | refine pO_ 6 (some 36) (bl 7 12) HT_.out (h := ?_)
      all_goals (refine one_ (i := 7) (N := some 37) (bl 8 12) rfl rfl (one_of HT_.out (by kernel_rfl)) (by decide) (fun K hK => ?_); have HOv := hHeld.2.2; refine value_ (by rfl) rfl (by go_simp; constructor; rfl; rfl) ?_; skip; refine hK.out _ _ ⟨pw_cell_below (below_alloc (Below.refl _ _) _) hHeld.1, pw_cell_below (below_alloc (Below.refl _ _) _) hHeld.2.1, ⟨hHeld.2.2.out.step (below_alloc (Below.refl _ _) _)⟩⟩ (fun hHeld => ?_); clear hK K; refine norm_ (a' := ?_) ?_ ?_; rotate_left; focus (show Act.put _ (some 37) _ = _; simp only [Act.put, List.setIfInBounds_toArray, List.set_cons_zero, List.set_cons_succ, i64_w, i32_w]; rfl))
      all_goals (refine last_ (i := 8) (N := some 38) (bl 9 12) rfl rfl (one_of HT_.out (by kernel_rfl)) (by decide) (fun K hK => ?_); refine Kd.R_append_step (Kd.int .i64) (w0 := wv) p (by rfl) (.tmp 34) (.tmp 37) 54 3 (.int .i64 0) 8 rfl Try.underlying54 info3 rfl (by decide) (by omega) v (nums (l0_0.take i)) y.f0 [.int .i64 y.f0] (fun _ => True) (fun _ => False) rfl rfl rfl (fun _ hk => hk.elim) (fun _ _ => trivial) ?aO (Below.refl _ _) ?aS ?aL ?_; (case aO => exact HOv.out.ns); (case aS => exact Nat.le_of_lt HOv.out.row.lt); (case aL => have h1 := HN.out; have h2 := nums_take_le l0_0 i; omega); intro v1 w1 ho hb hg hat; obtain ⟨A1, c1, rfl, hlc1, hC1⟩ := Kd.R_reads ho; obtain ⟨hcp, hfp⟩ := OrdIn.held HOv.out hg; have AO := Aside0.mk (OrdIn.grow HOv.out hb hg ho); rw [List.length_append, List.length_singleton] at AO; clear hlc1 hC1 hat hg hb ho HOv; refine hK.out _ _ ?_; clear hK K; refine norm_ (a' := ?_) ?_ ?_; rotate_left; focus (show Act.put _ (some 38) _ = _; simp only [Act.put, List.setIfInBounds_toArray, List.set_cons_zero, List.set_cons_succ, i64_w, i32_w]; rfl))
      all_goals first | refine pA_ 9 (some 39) (bl 10 12) HT_.out (h := ?_) | refine pO_ 9 (some 39) (bl 10 12) HT_.out (h := ?_)
      all_goals first | refine pA_ 10 (some 40) (bl 11 12) HT_.out (h := ?_) | refine pO_ 10 (some 40) (bl 11 12) HT_.out (h := ?_)
      all_goals (refine last_ (i := 11) (N := none) (bl 12 12) rfl rfl (one_of HT_.out (by kernel_rfl)) (by decide) (fun K hK => ?_); refine skip_ (by rfl) rfl (by go_simp; rfl) ?_; refine hK.out _ _ ?_; clear hK K)
      all_goals refine done_ (done_of HT_.out (by kernel_rfl)) ?_
      go_wp2
      go_roundg (l0_0.length - (i + 1))
      case measure => omega
      case rel =>
        have hn10 := HN.out
        exact ⟨i + 1, _, by omega, by omega, congrArg (Value.int .i64) (wrap_succ i (by omega)), by rw [nums_snoc l0_0 i hlt, HY.out]; exact AO⟩
    · obtain rfl : i = l0_0.length := by omega
      have hltz : ¬ ((l0_0.length : Int) < (l0_0.length : Int)) := by omega
      rw [List.take_length] at HO
      have HA0 := Aside0.mk (show OrdIn wb wr p N1 N2 l0_0.length v (nums l0_0) (abv l0_0 (l0_1.take 0)) (abv l0_0 (l0_1.take 0)) from HO.out)
      clear HO
      have hq1 : wr.cell? ⟨w.heap.size, 1, none⟩ = some (.slice A0_1 l0_1.length c0_1) := (HA0.out.below.cell (p := ⟨w.heap.size, 1, none⟩) hbs).trans hb1
      go_wp2
      go_loopg [8, 9, 10, 45] l0_1.length (fun gg _ _ _ s45 wr => ∃ i : Nat, i ≤ l0_1.length ∧ l0_1.length - i ≤ gg ∧ s45 = .int .i64 i ∧ Aside0 (OrdIn wb wr p N1 N2 l0_0.length v (nums l0_0) (abv l0_0 (l0_1.take i)) (abv l0_0 (l0_1.take i))))
      case atStart => exact ⟨0, Nat.zero_le _, by omega, rfl, HA0⟩
      case round =>
        clear hq1 HA0
        obtain ⟨i, hi, hgg, rfl, HO⟩ := hrel
        by_cases hlt : i < l0_1.length
        · have hltz : (i : Int) < (l0_1.length : Int) := by omega
          obtain ⟨ad, e1, hx0, hx1⟩ := at_T100 HR1.out (i : Int) (by omega) hltz
          cases e1
          have e6 : rd_T100 l0_1 (i : Int) = l0_1.getD i z100 := by simp [rd_T100]
          rw [e6] at hx0 hx1
          simp only [Int.toNat_natCast] at hx0 hx1
          replace hx0 := (HO.out.below.cell (p := ad.add (i * 2)) (Nat.lt_of_lt_of_le (World.block_lt_of_cell? w _ hx0) (Nat.le_of_lt hbs))).trans ((HWB.out.cell (World.block_lt_of_cell? w _ hx0)).trans hx0)
          replace hx1 := (HO.out.below.cell (Nat.lt_of_lt_of_le (World.block_lt_of_cell? w _ hx1) (Nat.le_of_lt hbs))).trans ((HWB.out.cell (World.block_lt_of_cell? w _ hx1)).trans hx1)
          obtain ⟨y, hy⟩ : ∃ y, l0_1.getD i z100 = y := ⟨_, rfl⟩
          rw [hy] at hx0 hx1
          have hmem : y ∈ l0_1 := by rw [← hy, List.getD_eq_getElem?_getD, List.getElem?_eq_getElem hlt]; exact List.getElem_mem hlt
          obtain ⟨ia, hia, hal⟩ := find_nat l0_0 y.f0 (HIN.out y hmem).1
          obtain ⟨ik, hik, hkl⟩ := find_nat l0_0 y.f1 (HIN.out y hmem).2
          have A1 := Aside0.mk (show impl_indexOf.f l0_0 l0_1 y.f0 = some (ia : Int) from congrArg some hia)
          have A2 := Aside0.mk (show impl_indexOf.f l0_0 l0_1 y.f1 = some (ik : Int) from congrArg some hik)
          have HY := Aside0.mk (show (fun a b => if a = ia ∧ b = ik then true else abv l0_0 (l0_1.take i) a b) = abv l0_0 (l0_1.take (i + 1)) from by rw [take_snocR l0_1 i hlt, hy]; exact abv_snoc l0_0 _ y ia ik hia hik)
          have hialz : (ia : Int) < (l0_0.length : Int) := by omega
          have hiklz : (ik : Int) < (l0_0.length : Int) := by omega
          clear hy e6 hmem hia hik
          go_upto_region 11 with (fail)
          have HO2 := Aside0.mk (HO.out.step (below_alloc (Below.refl _ _) (.cells #[.int .i64 y.f0, .int .i64 y.f1] 100 (0, 0))))
          have BK3 := Aside0.mk (heap_alloc_new wr (.cells #[.int .i64 y.f0, .int .i64 y.f1] 100 (0, 0)))
          clear hx0 hx1 HO
          generalize wr.alloc (.cells #[.int .i64 y.f0, .int .i64 y.f1] 100 (0, 0)) = wq2 at HO2 BK3 ⊢
          generalize wr.heap.size = gy at BK3 ⊢
          have HS0 := Aside0.mk (show (fun w' : World => w'.cell? ⟨w.heap.size, 0, none⟩ = some (.slice A0_0 l0_0.length c0_0) ∧ w'.cell? ⟨w.heap.size, 1, none⟩ = some (.slice (some ad) l0_1.length c0_1) ∧ w'.cell? ⟨gy, 0, none⟩ = some (.int .i64 y.f0) ∧ w'.cell? ⟨gy, 1, none⟩ = some (.int .i64 y.f1) ∧ Aside0 (OrdIn wb w' p N1 N2 l0_0.length v (nums l0_0) (abv l0_0 (l0_1.take i)) (abv l0_0 (l0_1.take i)))) wq2.drew from ⟨(HO2.out.drew.below.cell (p := ⟨w.heap.size, 0, none⟩) hbs).trans hb0, (HO2.out.drew.below.cell (p := ⟨w.heap.size, 1, none⟩) hbs).trans hb1, (blk_cell (blk_drew BK3.out) 0).trans rfl, (blk_cell (blk_drew BK3.out) 1).trans rfl, ⟨HO2.out.drew⟩⟩)
          clear HO2 BK3
          all_goals refine start_ (n := 10) (S := (fun w' => w'.cell? ⟨w.heap.size, 0, none⟩ = some (.slice A0_0 l0_0.length c0_0) ∧ w'.cell? ⟨w.heap.size, 1, none⟩ = some (.slice (some ad) l0_1.length c0_1) ∧ w'.cell? ⟨gy, 0, none⟩ = some (.int .i64 y.f0) ∧ w'.cell? ⟨gy, 1, none⟩ = some (.int .i64 y.f1) ∧ Aside0 (OrdIn wb w' p N1 N2 l0_0.length v (nums l0_0) (abv l0_0 (l0_1.take i)) (abv l0_0 (l0_1.take i))))) (ds := []) (bl 0 10) (by kernel_rfl) rfl rfl HS0.out (fun hHeld => ?_); refine with_tabW impl_orderOf.tab11 impl_orderOf.bits11 (fun HT_ HW_ => ?_)
          all_goals generalize wq2.drew = wv at hHeld ⊢
          all_goals first | refine pA_ 1 (some 50) (bx 0 [1] 10) HT_.out (h := ?_) | refine pO_ 1 (some 50) (bx 0 [1] 10) HT_.out (h := ?_)
          all_goals first | refine pA_ 5 (some 54) (bx 0 [1, 5] 10) HT_.out (h := ?_) | refine pO_ 5 (some 54) (bx 0 [1, 5] 10) HT_.out (h := ?_)
          all_goals first | refine tA_ 0 (some 49) (bx 2 [5] 10) HT_.out HW_.out hHeld (h := ?_) | refine pO_ 0 (some 49) (bx 2 [5] 10) HT_.out (h := ?_)
          all_goals first | refine tA_ 2 (some 51) (bx 3 [5] 10) HT_.out HW_.out hHeld (h := ?_) | refine pO_ 2 (some 51) (bx 3 [5] 10) HT_.out (h := ?_)
          all_goals first | refine tA_ 4 (some 53) (bx 3 [4, 5] 10) HT_.out HW_.out hHeld (h := ?_) | refine pO_ 4 (some 53) (bx 3 [4, 5] 10) HT_.out (h := ?_)
          all_goals first | refine tA_ 6 (some 55) (bx 3 [4, 5, 6] 10) HT_.out HW_.out hHeld (h := ?_) | refine pO_ 6 (some 55) (bx 3 [4, 5, 6] 10) HT_.out (h := ?_)
          all_goals first | refine pO_ 3 (some 52) (bl 7 10) HT_.out (h := ?_) | (refine one_ (i := 3) (N := some 52) (bl 7 10) rfl rfl (one_of HT_.out (by kernel_rfl)) (by decide) (fun K hK => ?_); refine goes_ Try.func100 (by kernel_rfl) rfl #[.agg #[.slice A0_0 l0_0.length c0_0, .slice (some ad) l0_1.length c0_1], .int .i64 y.f0] (by rfl) rfl rfl (by (try simp only [List.map_toArray, List.map_cons, List.map_nil]); first | done | rfl) ?_; with_reducible refine (impl_indexOf.calls _ _ l0_0 _ _ l0_1 y.f0 _ _ (Kd.C_below HR0.out (below_chain HWB.out hHeld.2.2.2.2.out.below)) HC0.out (Kd.C_below HR1.out (below_chain HWB.out hHeld.2.2.2.2.out.below)) HC1.out A1.out).mono ?_; rintro e w1 ⟨rfl, hb⟩; refine ⟨_, rfl, ?_⟩; refine hK.out _ _ ⟨pw_cell_below hb hHeld.1, pw_cell_below hb hHeld.2.1, pw_cell_below hb hHeld.2.2.1, pw_cell_below hb hHeld.2.2.2.1, ⟨hHeld.2.2.2.2.out.step hb⟩⟩ (fun hHeld => ?_); clear hK K; refine norm_ (a' := ?_) ?_ ?_; rotate_left; (show Act.put _ (some 52) _ = _; simp only [Act.put, List.setIfInBounds_toArray, List.set_cons_zero, List.set_cons_succ, i64_w, i32_w]; rfl))
          all_goals first | refine pO_ 7 (some 56) (bl 8 10) HT_.out (h := ?_) | (refine one_ (i := 7) (N := some 56) (bl 8 10) rfl rfl (one_of HT_.out (by kernel_rfl)) (by decide) (fun K hK => ?_); refine goes_ Try.func100 (by kernel_rfl) rfl #[.agg #[.slice A0_0 l0_0.length c0_0, .slice (some ad) l0_1.length c0_1], .int .i64 y.f1] (by rfl) rfl rfl (by (try simp only [List.map_toArray, List.map_cons, List.map_nil]); first | done | rfl) ?_; with_reducible refine (impl_indexOf.calls _ _ l0_0 _ _ l0_1 y.f1 _ _ (Kd.C_below HR0.out (below_chain HWB.out hHeld.2.2.2.2.out.below)) HC0.out (Kd.C_below HR1.out (below_chain HWB.out hHeld.2.2.2.2.out.below)) HC1.out A2.out).mono ?_; rintro e w1 ⟨rfl, hb⟩; refine ⟨_, rfl, ?_⟩; refine hK.out _ _ ⟨pw_cell_below hb hHeld.1, pw_cell_below hb hHeld.2.1, pw_cell_below hb hHeld.2.2.1, pw_cell_below hb hHeld.2.2.2.1, ⟨hHeld.2.2.2.2.out.step hb⟩⟩ (fun hHeld => ?_); clear hK K; refine norm_ (a' := ?_) ?_ ?_; rotate_left; (show Act.put _ (some 56) _ = _; simp only [Act.put, List.setIfInBounds_toArray, List.set_cons_zero, List.set_cons_succ, i64_w, i32_w]; rfl))
          all_goals first | refine pA_ 8 (some 9) (bl 9 10) HT_.out (h := ?_) | refine pO_ 8 (some 9) (bl 9 10) HT_.out (h := ?_)
          all_goals first | refine pA_ 9 (some 10) (bl 10 10) HT_.out (h := ?_) | refine pO_ 9 (some 10) (bl 10 10) HT_.out (h := ?_)
          all_goals refine done_ (done_of HT_.out (by kernel_rfl)) ?_
          have HO3 := hHeld.2.2.2.2
          clear hHeld
          generalize hwv : w1 = wv2 at HO3 ⊢
          clear hwv
          have g1 := HO3.out.c1
          have g2 := HO3.out.m1.topc hal
          have g3 := HO3.out.m1.cell hal hkl
          have g4 := HO3.out.m1.frozen hal ik
          go_upto_region 13 with (fail)
          clear g1 g2 g3 g4
          have HO4 := Aside0.mk (HO3.out.set1 ia ik true hal)
          clear HO3
          generalize wv2.setCell ⟨N1 + 1 + ia, ik, none⟩ (.bool true) = wv3 at HO4 ⊢
          have g1 := HO4.out.c2
          have g2 := HO4.out.m2.topc hal
          have g3 := HO4.out.m2.cell hal hkl
          have g4 := HO4.out.m2.frozen hal ik
          go_wp2
          clear g1 g2 g3 g4
          have HO5 := Aside0.mk (HO4.out.set2 ia ik true hal)
          rw [HY.out] at HO5
          go_roundg (l0_1.length - (i + 1))
          case measure => omega
          case rel =>
            have hm24 := HM.out
            exact ⟨i + 1, by omega, by omega, congrArg (Value.int .i64) (wrap_succ i (by omega)), HO5⟩
        · obtain rfl : i = l0_1.length := by omega
          have hltz : ¬ ((l0_1.length : Int) < (l0_1.length : Int)) := by omega
          rw [List.take_length] at HO
          have HA0 := Aside0.mk (show OrdIn wb wr p N1 N2 l0_0.length v (nums l0_0) (abv l0_0 l0_1) (rch (abv l0_0 l0_1) 0) from HO.out)
          clear HO
          go_wp2
          generalize hAB : abv l0_0 l0_1 = AB at HA0
          have HAB := Aside0.mk hAB
          clear hAB
          go_loopg [11, 77] l0_0.length (fun gg _ s77 wr => ∃ j : Nat, j ≤ l0_0.length ∧ l0_0.length - j ≤ gg ∧ s77 = .int .i64 j ∧ Aside0 (OrdIn wb wr p N1 N2 l0_0.length v (nums l0_0) AB (rch AB j)))
          case atStart => exact ⟨0, Nat.zero_le _, by omega, rfl, HA0⟩
          case round =>
            clear HA0
            obtain ⟨j, hj, hgg, rfl, HO⟩ := hrel
            by_cases hjl : j < l0_0.length
            · have hjlz : (j : Int) < (l0_0.length : Int) := by omega
              have HA0 := Aside0.mk (show OrdIn wb wr p N1 N2 l0_0.length v (nums l0_0) AB (rchAt AB j 0 0) from by rw [rchAt_zero]; exact HO.out)
              clear HO
              go_wp2
              go_loopg [12, 81] l0_0.length (fun gg _ s81 wr => ∃ i : Nat, i ≤ l0_0.length ∧ l0_0.length - i ≤ gg ∧ s81 = .int .i64 i ∧ Aside0 (OrdIn wb wr p N1 N2 l0_0.length v (nums l0_0) AB (rchAt AB j i 0)))
              case atStart => exact ⟨0, Nat.zero_le _, by omega, rfl, HA0⟩
              case round =>
                clear HA0
                obtain ⟨i, hi, hgg2, rfl, HO⟩ := hrel
                by_cases hil : i < l0_0.length
                · have hilz : (i : Int) < (l0_0.length : Int) := by omega
                  go_wp2
                  go_loopg [13, 85] l0_0.length (fun gg _ s85 wr => ∃ k : Nat, k ≤ l0_0.length ∧ l0_0.length - k ≤ gg ∧ s85 = .int .i64 k ∧ Aside0 (OrdIn wb wr p N1 N2 l0_0.length v (nums l0_0) AB (rchAt AB j i k)))
                  case atStart => exact ⟨0, Nat.zero_le _, by omega, rfl, HO⟩
                  case round =>
                    clear HO
                    obtain ⟨k, hk, hgg3, rfl, HO⟩ := hrel
                    by_cases hkl : k < l0_0.length
                    · have hklz : (k : Int) < (l0_0.length : Int) := by omega
                      obtain ⟨b1, hb1⟩ : ∃ b, rch AB j i k = b := ⟨_, rfl⟩
                      obtain ⟨b2, hb2⟩ : ∃ b, rch AB j i j = b := ⟨_, rfl⟩
                      obtain ⟨b3, hb3⟩ : ∃ b, rch AB j j k = b := ⟨_, rfl⟩
                      have HN1 := Aside0.mk (show rch AB (j + 1) i k = (b1 || b2 && b3) from by rw [← hb1, ← hb2, ← hb3]; rfl)
                      go_upto_region 24 with (fail)
                      have HS0 := Aside0.mk (show (fun w' : World => w'.cell? ⟨p, 2, none⟩ = some (.slice (some ⟨N2, 0, none⟩) l0_0.length l0_0.length) ∧ w'.cell? ⟨N2, i, none⟩ = some (.slice (some ⟨N2 + 1 + i, 0, none⟩) l0_0.length l0_0.length) ∧ w'.cell? ⟨N2, j, none⟩ = some (.slice (some ⟨N2 + 1 + j, 0, none⟩) l0_0.length l0_0.length) ∧ w'.cell? ⟨N2 + 1 + i, k, none⟩ = some (.bool b1) ∧ w'.cell? ⟨N2 + 1 + i, j, none⟩ = some (.bool b2) ∧ w'.cell? ⟨N2 + 1 + j, k, none⟩ = some (.bool b3) ∧ w'.frozen? ⟨N2 + 1 + i, k, none⟩ = false ∧ Aside0 (OrdIn wb w' p N1 N2 l0_0.length v (nums l0_0) AB (rchAt AB j i k))) wr.drew from
                        ⟨HO.out.drew.c2, HO.out.drew.m2.topc hil, HO.out.drew.m2.topc hjl, by rw [← hb1, ← rchAt_ik AB j i k]; exact HO.out.drew.m2.cell hil hkl, by rw [← hb2, ← rchAt_ij AB j i k]; exact HO.out.drew.m2.cell hil hjl, by rw [← hb3, ← rchAt_jk AB j i k]; exact HO.out.drew.m2.cell hjl hkl, HO.out.drew.m2.frozen hil k, ⟨HO.out.drew⟩⟩)
                      clear HO hb1 hb2 hb3
                      cases b1 <;> cases b2 <;> cases b3
                      all_goals refine start_ (n := 44) (S := (fun w' => w'.cell? ⟨p, 2, none⟩ = some (.slice (some ⟨N2, 0, none⟩) l0_0.length l0_0.length) ∧ w'.cell? ⟨N2, i, none⟩ = some (.slice (some ⟨N2 + 1 + i, 0, none⟩) l0_0.length l0_0.length) ∧ w'.cell? ⟨N2, j, none⟩ = some (.slice (some ⟨N2 + 1 + j, 0, none⟩) l0_0.length l0_0.length) ∧ w'.cell? ⟨N2 + 1 + i, k, none⟩ = some (.bool _) ∧ w'.cell? ⟨N2 + 1 + i, j, none⟩ = some (.bool _) ∧ w'.cell? ⟨N2 + 1 + j, k, none⟩ = some (.bool _) ∧ w'.frozen? ⟨N2 + 1 + i, k, none⟩ = false ∧ Aside0 (OrdIn wb w' p N1 N2 l0_0.length v (nums l0_0) AB (rchAt AB j i k)))) (ds := [43]) (bl 0 44) (by kernel_rfl) rfl rfl HS0.out (fun hHeld => ?_); refine with_tabW impl_orderOf.tab24 impl_orderOf.bits24 (fun HT_ HW_ => ?_)
                      all_goals generalize wr.drew = wv at hHeld ⊢
                      all_goals first | refine pA_ 0 (some 88) (bl 1 44) HT_.out (h := ?_) | refine pO_ 0 (some 88) (bl 1 44) HT_.out (h := ?_)
                      all_goals first | refine pA_ 1 (some 89) (bl 2 44) HT_.out (h := ?_) | refine pO_ 1 (some 89) (bl 2 44) HT_.out (h := ?_)
                      all_goals first | refine pA_ 2 (some 90) (bl 3 44) HT_.out (h := ?_) | refine pO_ 2 (some 90) (bl 3 44) HT_.out (h := ?_)
                      all_goals first | refine pA_ 4 (some 92) (bx 3 [4] 44) HT_.out (h := ?_) | refine pO_ 4 (some 92) (bx 3 [4] 44) HT_.out (h := ?_)
                      all_goals first | refine pA_ 7 (some 95) (bx 3 [4, 7] 44) HT_.out (h := ?_) | refine pO_ 7 (some 95) (bx 3 [4, 7] 44) HT_.out (h := ?_)
                      all_goals first | refine pA_ 8 (some 96) (bx 3 [4, 7, 8] 44) HT_.out (h := ?_) | refine pO_ 8 (some 96) (bx 3 [4, 7, 8] 44) HT_.out (h := ?_)
                      all_goals first | refine pA_ 9 (some 97) (bx 3 [4, 7, 8, 9] 44) HT_.out (h := ?_) | refine pO_ 9 (some 97) (bx 3 [4, 7, 8, 9] 44) HT_.out (h := ?_)
                      all_goals first | refine pA_ 10 (some 98) (bx 3 [4, 7, 8, 9, 10] 44) HT_.out (h := ?_) | refine pO_ 10 (some 98) (bx 3 [4, 7, 8, 9, 10] 44) HT_.out (h := ?_)
                      all_goals first | refine pA_ 12 (some 100) (bx 3 [4, 7, 8, 9, 10, 12] 44) HT_.out (h := ?_) | refine pO_ 12 (some 100) (bx 3 [4, 7, 8, 9, 10, 12] 44) HT_.out (h := ?_)
                      all_goals first | refine pA_ 15 (some 103) (bx 3 [4, 7, 8, 9, 10, 12, 15] 44) HT_.out (h := ?_) | refine pO_ 15 (some 103) (bx 3 [4, 7, 8, 9, 10, 12, 15] 44) HT_.out (h := ?_)
                      all_goals first | refine tA_ 3 (some 91) (bx 5 [7, 8, 9, 10, 12, 15] 44) HT_.out HW_.out hHeld (h := ?_) | refine pO_ 3 (some 91) (bx 5 [7, 8, 9, 10, 12, 15] 44) HT_.out (h := ?_)
                      all_goals first | refine pA_ 5 (some 93) (bx 6 [7, 8, 9, 10, 12, 15] 44) HT_.out (h := ?_) | refine pO_ 5 (some 93) (bx 6 [7, 8, 9, 10, 12, 15] 44) HT_.out (h := ?_)
                      all_goals first | refine tA_ 6 (some 94) (bx 11 [12, 15] 44) HT_.out HW_.out hHeld (h := ?_) | refine pO_ 6 (some 94) (bx 11 [12, 15] 44) HT_.out (h := ?_)
                      all_goals first | refine tA_ 11 (some 99) (bx 13 [15] 44) HT_.out HW_.out hHeld (h := ?_) | refine pO_ 11 (some 99) (bx 13 [15] 44) HT_.out (h := ?_)
                      all_goals first | refine pA_ 13 (some 101) (bx 14 [15] 44) HT_.out (h := ?_) | refine pO_ 13 (some 101) (bx 14 [15] 44) HT_.out (h := ?_)
                      all_goals first | refine tA_ 14 (some 102) (bl 16 44) HT_.out HW_.out hHeld (h := ?_) | refine pO_ 14 (some 102) (bl 16 44) HT_.out (h := ?_)
                      all_goals first | refine pA_ 16 (some 104) (bl 17 44) HT_.out (h := ?_) | refine pO_ 16 (some 104) (bl 17 44) HT_.out (h := ?_)
                      all_goals first | refine tA_ 17 (some 105) (bl 18 44) HT_.out HW_.out hHeld (h := ?_) | refine pO_ 17 (some 105) (bl 18 44) HT_.out (h := ?_)
                      all_goals first | refine pA_ 18 (some 106) (bl 19 44) HT_.out (h := ?_) | refine pO_ 18 (some 106) (bl 19 44) HT_.out (h := ?_)
                      all_goals first | refine pA_ 19 (some 107) (bl 20 44) HT_.out (h := ?_) | refine pO_ 19 (some 107) (bl 20 44) HT_.out (h := ?_)
                      all_goals first | refine pA_ 20 (some 108) (bl 21 44) HT_.out (h := ?_) | refine pO_ 20 (some 108) (bl 21 44) HT_.out (h := ?_)
                      all_goals first | refine pA_ 21 (some 109) (bl 22 44) HT_.out (h := ?_) | refine pO_ 21 (some 109) (bl 22 44) HT_.out (h := ?_)
                      all_goals first | refine pA_ 23 (some 111) (bx 22 [23] 44) HT_.out (h := ?_) | refine pO_ 23 (some 111) (bx 22 [23] 44) HT_.out (h := ?_)
                      all_goals first | refine pA_ 26 (some 114) (bx 22 [23, 26] 44) HT_.out (h := ?_) | refine pO_ 26 (some 114) (bx 22 [23, 26] 44) HT_.out (h := ?_)
                      all_goals first | refine tA_ 22 (some 110) (bx 24 [26] 44) HT_.out HW_.out hHeld (h := ?_) | refine pO_ 22 (some 110) (bx 24 [26] 44) HT_.out (h := ?_)
                      all_goals first | refine pA_ 24 (some 112) (bx 25 [26] 44) HT_.out (h := ?_) | refine pO_ 24 (some 112) (bx 25 [26] 44) HT_.out (h := ?_)
                      all_goals first | refine tA_ 25 (some 113) (bl 27 44) HT_.out HW_.out hHeld (h := ?_) | refine pO_ 25 (some 113) (bl 27 44) HT_.out (h := ?_)
                      all_goals first | refine pA_ 27 (some 115) (bl 28 44) HT_.out (h := ?_) | refine pO_ 27 (some 115) (bl 28 44) HT_.out (h := ?_)
                      all_goals first | refine tA_ 28 (some 116) (bl 29 44) HT_.out HW_.out hHeld (h := ?_) | refine pO_ 28 (some 116) (bl 29 44) HT_.out (h := ?_)
                      all_goals first | refine pA_ 29 (some 117) (bl 30 44) HT_.out (h := ?_) | refine pO_ 29 (some 117) (bl 30 44) HT_.out (h := ?_)
                      all_goals first | refine pA_ 30 (some 118) (bl 31 44) HT_.out (h := ?_) | refine pO_ 30 (some 118) (bl 31 44) HT_.out (h := ?_)
                      all_goals first | refine pA_ 31 (some 119) (bl 32 44) HT_.out (h := ?_) | refine pO_ 31 (some 119) (bl 32 44) HT_.out (h := ?_)
                      all_goals first | refine pA_ 32 (some 120) (bl 33 44) HT_.out (h := ?_) | refine pO_ 32 (some 120) (bl 33 44) HT_.out (h := ?_)
                      all_goals first | refine pA_ 34 (some 122) (bx 33 [34] 44) HT_.out (h := ?_) | refine pO_ 34 (some 122) (bx 33 [34] 44) HT_.out (h := ?_)
                      all_goals first | refine pA_ 37 (some 125) (bx 33 [34, 37] 44) HT_.out (h := ?_) | refine pO_ 37 (some 125) (bx 33 [34, 37] 44) HT_.out (h := ?_)
                      all_goals first | refine tA_ 33 (some 121) (bx 35 [37] 44) HT_.out HW_.out hHeld (h := ?_) | refine pO_ 33 (some 121) (bx 35 [37] 44) HT_.out (h := ?_)
                      all_goals first | refine pA_ 35 (some 123) (bx 36 [37] 44) HT_.out (h := ?_) | refine pO_ 35 (some 123) (bx 36 [37] 44) HT_.out (h := ?_)
                      all_goals first | refine tA_ 36 (some 124) (bl 38 44) HT_.out HW_.out hHeld (h := ?_) | refine pO_ 36 (some 124) (bl 38 44) HT_.out (h := ?_)
                      all_goals first | refine pA_ 38 (some 126) (bl 39 44) HT_.out (h := ?_) | refine pO_ 38 (some 126) (bl 39 44) HT_.out (h := ?_)
                      all_goals first | refine tA_ 39 (some 127) (bl 40 44) HT_.out HW_.out hHeld (h := ?_) | refine pO_ 39 (some 127) (bl 40 44) HT_.out (h := ?_)
                      all_goals first | refine pA_ 40 (some 128) (bl 41 44) HT_.out (h := ?_) | refine pO_ 40 (some 128) (bl 41 44) HT_.out (h := ?_)
                      all_goals first | refine pA_ 41 (some 129) (bl 42 44) HT_.out (h := ?_) | refine pO_ 41 (some 129) (bl 42 44) HT_.out (h := ?_)
                      all_goals first | refine pA_ 42 (some 130) (bl 43 44) HT_.out (h := ?_) | refine pO_ 42 (some 130) (bl 43 44) HT_.out (h := ?_)
                      all_goals (refine last_ (i := 43) (N := none) (bl 44 44) rfl rfl (one_of HT_.out (by kernel_rfl)) (by decide) (fun K hK => ?_); refine skip_ (by rfl) rfl (by go_simp; rfl) ?_; refine hK.out _ _ ?_; clear hK K)
                      all_goals refine done_ (done_of HT_.out (by kernel_rfl)) ?_
                      all_goals have HOv := Aside0.mk (OrdIn.set2 hHeld.2.2.2.2.2.2.2.out i k (rch AB (j + 1) i k) hil)
                      all_goals rw [rchAt_step, HN1.out] at HOv
                      all_goals simp only [Bool.false_or, Bool.true_or, Bool.false_and, Bool.true_and, Bool.and_false, Bool.and_true, Bool.or_false] at HOv
                      all_goals clear hHeld HS0
                      all_goals (go_wp2; go_roundg (l0_0.length - (k + 1)); (case measure => omega); (case rel => (have hn10 := HN.out; exact ⟨k + 1, by omega, by omega, congrArg (Value.int .i64) (wrap_succ k (by omega)), HOv⟩)))
                    · obtain rfl : k = l0_0.length := by omega
                      have hkz : ¬ ((l0_0.length : Int) < (l0_0.length : Int)) := by omega
                      go_wp2
                      go_roundg (l0_0.length - (i + 1))
                      case measure => omega
                      case rel =>
                        have hn10 := HN.out
                        exact ⟨i + 1, by omega, by omega, congrArg (Value.int .i64) (wrap_succ i (by omega)), ⟨OrdIn.congr HO.out (fun _ _ _ _ => rfl) (fun a b _ hb => rchAt_row AB j i l0_0.length a b hb)⟩⟩
                · obtain rfl : i = l0_0.length := by omega
                  have hkz : ¬ ((l0_0.length : Int) < (l0_0.length : Int)) := by omega
                  go_wp2
                  go_roundg (l0_0.length - (j + 1))
                  case measure => omega
                  case rel =>
                    have hn10 := HN.out
                    exact ⟨j + 1, by omega, by omega, congrArg (Value.int .i64) (wrap_succ j (by omega)), ⟨OrdIn.congr HO.out (fun _ _ _ _ => rfl) (fun a b ha _ => rchAt_end AB j l0_0.length a b ha)⟩⟩
            · obtain rfl : j = l0_0.length := by omega
              have hkz : ¬ ((l0_0.length : Int) < (l0_0.length : Int)) := by omega
              go_wp2
              go_ret
              have e := HAB.out
              subst e
              exact ⟨p, rfl, N1, N2, _, OrdIn.base HO.out HWB.out⟩

end Go.Proofs.Ytlbkoejpjpcgaaa.Q
