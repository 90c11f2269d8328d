/- Plain facts on the printed functions of records: reading, copying, validity. -/
import Derived.Test.YtojdchmkhhpmiaaQ0
import Derived.Test.YtojdchmkhhpmiaaQ1
import Derived.Test.YtojdchmkhhpmiaaQ2
import Derived.Test.YtojdchmkhhpmiaaQ6
import Derived.Test.YtojdchmkhhpmiaaQ4
import Derived.Test.YtojdchmkhhpmiaaQ8
import Derived.Test.YtojdchmkhhpmiaaQ10
namespace Go.Proofs.Ytojdchmkhhpmiaa.L
open Go.RowKit Go.Proofs.Ytojdchmkhhpmiaa.Q Go.Proofs.YtojdchmkhhpmiaaW.PrintWords
/-- Going down from the end of a loop. -/
theorem Ev.down {α : Type} (n : Nat) (F : Nat → Nat → Option α) (R : Nat → α) (hend : Ev (fun k => F k n) (R n)) (hstep : ∀ i, i < n → Ev (fun k => F k (i + 1)) (R (i + 1)) → Ev (fun k => F k i) (R i)) : ∀ i, i ≤ n → Ev (fun k => F k i) (R i) := by
  have key : ∀ d i, n - i = d → i ≤ n → Ev (fun k => F k i) (R i) := by
    intro d
    induction d with
    | zero =>
      intro i hd hi
      obtain rfl : i = n := by omega
      exact hend
    | succ d ih => intro i hd hi; exact hstep i (by omega) (ih (i + 1) (by omega) (by omega))
  intro i hi
  exact key (n - i) i rfl hi
theorem Ev.some {α : Type} (r : α) : Ev (fun _ => Option.some r) r := Ev.now r
theorem w64 (i : Nat) (h : i ≤ 4611686018427387904) : wrap64 ((i : Int) + 1) = ((i + 1 : Nat) : Int) := by unfold wrap64; omega
theorem w64p (i : Nat) (h : i ≤ 4611686018427387904) : wrap64 (((i + 1 : Nat) : Int) - 1) = (i : Int) := by unfold wrap64; omega
theorem rdC (l : List S59) (i : Nat) (h : i < l.length) : rd_T59 l (i : Int) = l[i] := by simp [rd_T59, List.getD_eq_getElem?_getD, List.getElem?_eq_getElem h]
theorem rdR (l : List S53) (i : Nat) (h : i < l.length) : rd_T53 l (i : Int) = l[i] := by simp [rd_T53, List.getD_eq_getElem?_getD, List.getElem?_eq_getElem h]
theorem rdCl (l : List S57) (i : Nat) (h : i < l.length) : rd_T57 l (i : Int) = l[i] := by simp [rd_T57, List.getD_eq_getElem?_getD, List.getElem?_eq_getElem h]
theorem rdRl (l : List S51) (i : Nat) (h : i < l.length) : rd_T51 l (i : Int) = l[i] := by simp [rd_T51, List.getD_eq_getElem?_getD, List.getElem?_eq_getElem h]
/-- The index of a context, or -1. -/
def find (cs : List S59) (n : Int) : Int := idxI (fun c => c.f0 == n) cs
def before (a b : S53) : Bool := decide (a.f0 < b.f0) || (a.f0 == b.f0 && decide (a.f1 < b.f1))
def ctxOk : Option Int → List S59 → Bool
  | _, [] => true
  | p, c :: r => decide (1 ≤ c.f0) && decide (c.f0 ≤ 999) && (decide (1 ≤ c.f1) && decide (c.f1 ≤ 4)) && (match p with | none => true | some q => decide (q < c.f0)) && ctxOk (some c.f0) r
def relOk (cs : List S59) : Option S53 → List S53 → Bool
  | _, [] => true
  | p, x :: r => !(x.f0 == x.f1) && decide (0 ≤ find cs x.f0) && decide (0 ≤ find cs x.f1) && (match p with | none => true | some q => before q x) && relOk cs (some x) r
/-- A record is valid. -/
def goodB (cs : List S59) (rs : List S53) : Bool := decide (cs.length ≤ 10) && decide (rs.length ≤ 24) && ctxOk none cs && relOk cs none rs
def prevC (cs : List S59) : Nat → Option Int
  | 0 => none
  | i + 1 => some (cs.getD i z59).f0
def prevR (rs : List S53) : Nat → Option S53
  | 0 => none
  | i + 1 => some (rs.getD i z53)
theorem idxI_drop {α : Type} (p : α → Bool) (l : List α) (i : Nat) (h : i < l.length) : idxI p (l.drop i) = if p l[i] then 0 else (if idxI p (l.drop (i + 1)) = -1 then -1 else idxI p (l.drop (i + 1)) + 1) := by
  rw [List.drop_eq_getElem_cons h]
  rfl
/-- Where a search from i on ends. -/
def offI (i : Nat) (r : Int) : Int := if r = -1 then -1 else (i : Int) + r
theorem l2Find_ev (cs : List S59) (rs : List S53) (n : Int) (hl : cs.length ≤ 1048576) : Ev (fun k => spec_l2Find.f k cs rs n) (find cs n) := by
  have key := Ev.down cs.length (fun k i => spec_l2Find.l0 k n (i : Int) cs rs) (fun i => offI i (idxI (fun c => c.f0 == n) (cs.drop i)))
    (by
      refine Ev.step (fun k => by rw [spec_l2Find.l0]) ?_
      simp only [Int.lt_irrefl, if_false, List.drop_length]
      exact Ev.now _)
    (fun i hi ih => by
      refine Ev.step (fun k => by rw [spec_l2Find.l0]) ?_
      have h1 : (i : Int) < (cs.length : Int) := by omega
      have h2 : (0 : Int) ≤ (i : Int) := by omega
      simp only [h1, h2, if_true, rdC cs i hi, w64 i (by omega)]
      rw [idxI_drop _ cs i hi]
      by_cases h3 : cs[i].f0 = n
      · simp only [h3, if_true, beq_self_eq_true, offI]
        exact Ev.now _
      · have h4 : (cs[i].f0 == n) = false := by simpa using h3
        simp only [h3, h4, if_false, Bool.false_eq_true]
        have h5 : offI i (if idxI (fun c => c.f0 == n) (cs.drop (i + 1)) = -1 then -1 else idxI (fun c => c.f0 == n) (cs.drop (i + 1)) + 1) = offI (i + 1) (idxI (fun c => c.f0 == n) (cs.drop (i + 1))) := by
          have hr := idxI_range (fun c : S59 => c.f0 == n) (cs.drop (i + 1))
          unfold offI
          split <;> split <;> omega
        rw [h5]
        exact ih)
  have h0 := key 0 (Nat.zero_le _)
  have e : offI 0 (idxI (fun c : S59 => c.f0 == n) (cs.drop 0)) = find cs n := by
    unfold offI find
    rw [List.drop_zero]
    split <;> omega
  rw [e] at h0
  exact h0
theorem l1In_eq (a lo hi : Int) : spec_l1In.f a lo hi = some (decide (lo ≤ a) && decide (a ≤ hi)) := by
  unfold spec_l1In.f
  by_cases h : a ≥ lo
  · have h' : lo ≤ a := h
    simp [h']
  · have h' : ¬ lo ≤ a := h
    simp [h']
theorem within_eq (a lo hi : Int) : impl_within.f a lo hi = some (decide (lo ≤ a) && decide (a ≤ hi)) := by
  unfold impl_within.f
  by_cases h : a ≥ lo
  · have h' : lo ≤ a := h
    simp [h']
  · have h' : ¬ lo ≤ a := h
    simp [h']
theorem isNumber_eq (a : Int) : impl_isNumber.f a = some (decide (1 ≤ a) && decide (a ≤ 999)) := by simp [impl_isNumber.f, within_eq]
theorem isKind_eq (a : Int) : impl_isKind.f a = some (decide (1 ≤ a) && decide (a ≤ 4)) := by simp [impl_isKind.f, within_eq]
theorem l2Before_eq (a b : S53) : spec_l2Before.f a.f0 a.f1 b.f0 b.f1 = some (before a b) := by
  unfold spec_l2Before.f before
  by_cases h : a.f0 < b.f0
  · simp [h]
  · by_cases h2 : a.f0 = b.f0
    · simp [h2]
    · simp [h, h2]
theorem getDR (rs : List S53) (i : Nat) (h : i < rs.length) : rs.getD i z53 = rs[i] := by simp [List.getD_eq_getElem?_getD, List.getElem?_eq_getElem h]
theorem getDC (cs : List S59) (i : Nat) (h : i < cs.length) : cs.getD i z59 = cs[i] := by simp [List.getD_eq_getElem?_getD, List.getElem?_eq_getElem h]
theorem l2Good_l1 (cs : List S59) (rs : List S53) (hc : cs.length ≤ 1048576) (hr : rs.length ≤ 1048576) : ∀ i, i ≤ rs.length → Ev (fun k => spec_l2Good.l1 k (i : Int) cs rs) (relOk cs (prevR rs i) (rs.drop i)) :=
  Ev.down rs.length (fun k i => spec_l2Good.l1 k (i : Int) cs rs) (fun i => relOk cs (prevR rs i) (rs.drop i))
    (by
      refine Ev.step (fun k => by rw [spec_l2Good.l1]) ?_
      simp only [Int.lt_irrefl, if_false, List.drop_length, relOk]
      exact Ev.now _)
    (fun i hi ih => by
      refine Ev.step (fun k => by rw [spec_l2Good.l1]) ?_
      have h1 : (i : Int) < (rs.length : Int) := by omega
      have h2 : (0 : Int) ≤ (i : Int) := by omega
      rw [List.drop_eq_getElem_cons hi]
      simp only [h1, h2, if_true, rdR rs i hi, w64 i (by omega), relOk]
      by_cases h3 : rs[i].f0 = rs[i].f1
      · simp only [h3, if_true, beq_self_eq_true, Bool.not_true, Bool.false_and]
        exact Ev.now _
      · have h4 : (rs[i].f0 == rs[i].f1) = false := by simpa using h3
        simp only [h3, h4, if_false, Bool.not_false, Bool.true_and]
        refine Ev.bind (l2Find_ev cs rs rs[i].f0 hc) ?_
        try dsimp only
        by_cases h5 : find cs rs[i].f0 < 0
        · have h6 : ¬ (0 ≤ find cs rs[i].f0) := by omega
          simp only [h5, h6, if_true, decide_false, Bool.false_and]
          exact Ev.now _
        · have h6 : 0 ≤ find cs rs[i].f0 := by omega
          simp only [h5, h6, if_false, decide_true, Bool.true_and]
          refine Ev.bind (l2Find_ev cs rs rs[i].f1 hc) ?_
          try dsimp only
          by_cases h7 : find cs rs[i].f1 < 0
          · have h8 : ¬ (0 ≤ find cs rs[i].f1) := by omega
            simp only [h7, h8, if_true, decide_false, Bool.false_and]
            exact Ev.now _
          · have h8 : 0 ≤ find cs rs[i].f1 := by omega
            simp only [h7, h8, if_false, decide_true, Bool.true_and]
            cases i with
            | zero =>
              simp only [Int.ofNat_zero, gt_iff_lt, Int.lt_irrefl, if_false, prevR, Bool.true_and]
              simp only [prevR, getDR rs 0 hi] at ih
              simpa using ih
            | succ j =>
              have g1 : ((j + 1 : Nat) : Int) > 0 := by omega
              have g2 : (0 : Int) ≤ (j : Int) := by omega
              have g3 : (j : Int) < (rs.length : Int) := by omega
              simp only [g1, if_true, w64p j (by omega), g2, g3, rdR rs j (by omega), l2Before_eq, Option.bind_some, prevR, getDR rs j (by omega)]
              by_cases h9 : before rs[j] rs[j + 1] = true
              · simp only [h9, if_true, Bool.true_and]
                simp only [prevR, getDR rs (j + 1) hi] at ih
                simpa using ih
              · have h10 : before rs[j] rs[j + 1] = false := by simpa using h9
                simp only [h10, if_false, Bool.false_eq_true, Bool.false_and]
                exact Ev.now _)
theorem l2Good_l0 (cs : List S59) (rs : List S53) (hc : cs.length ≤ 1048576) (hr : rs.length ≤ 1048576) : ∀ i, i ≤ cs.length → Ev (fun k => spec_l2Good.l0 k (i : Int) cs rs) (ctxOk (prevC cs i) (cs.drop i) && relOk cs none rs) :=
  Ev.down cs.length (fun k i => spec_l2Good.l0 k (i : Int) cs rs) (fun i => ctxOk (prevC cs i) (cs.drop i) && relOk cs none rs)
    (by
      refine Ev.step (fun k => by rw [spec_l2Good.l0]) ?_
      simp only [Int.lt_irrefl, if_false, List.drop_length, ctxOk, Bool.true_and]
      exact l2Good_l1 cs rs hc hr 0 (Nat.zero_le _))
    (fun i hi ih => by
      refine Ev.step (fun k => by rw [spec_l2Good.l0]) ?_
      have h1 : (i : Int) < (cs.length : Int) := by omega
      have h2 : (0 : Int) ≤ (i : Int) := by omega
      rw [List.drop_eq_getElem_cons hi]
      simp only [h1, h2, if_true, rdC cs i hi, w64 i (by omega), ctxOk, l1In_eq, Option.bind_some]
      by_cases h3 : (decide (1 ≤ cs[i].f0) && decide (cs[i].f0 ≤ 999)) = true
      · simp only [h3, if_true, Bool.true_and]
        by_cases h4 : (decide (1 ≤ cs[i].f1) && decide (cs[i].f1 ≤ 4)) = true
        · simp only [h4, if_true, Bool.true_and]
          cases i with
          | zero =>
            simp only [Int.ofNat_zero, gt_iff_lt, Int.lt_irrefl, if_false, prevC, Bool.true_and]
            simp only [prevC, getDC cs 0 hi] at ih
            simpa using ih
          | succ j =>
            have g1 : ((j + 1 : Nat) : Int) > 0 := by omega
            have g2 : (0 : Int) ≤ (j : Int) := by omega
            have g3 : (j : Int) < (cs.length : Int) := by omega
            simp only [g1, if_true, w64p j (by omega), g2, g3, rdC cs j (by omega), prevC, getDC cs j (by omega)]
            by_cases h9 : cs[j].f0 ≥ cs[j + 1].f0
            · have h10 : ¬ (cs[j].f0 < cs[j + 1].f0) := by omega
              simp only [h9, h10, if_true, decide_false, Bool.false_and]
              exact Ev.now _
            · have h10 : cs[j].f0 < cs[j + 1].f0 := by omega
              simp only [h9, h10, if_false, decide_true, Bool.true_and]
              simp only [prevC, getDC cs (j + 1) hi] at ih
              simpa using ih
        · have h5 : (decide (1 ≤ cs[i].f1) && decide (cs[i].f1 ≤ 4)) = false := by simpa using h4
          simp only [h5, if_false, Bool.false_eq_true, Bool.false_and]
          exact Ev.now _
      · have h5 : (decide (1 ≤ cs[i].f0) && decide (cs[i].f0 ≤ 999)) = false := by simpa using h3
        simp only [h5, if_false, Bool.false_eq_true, Bool.false_and]
        exact Ev.now _)
theorem l2Good_ev (cs : List S59) (rs : List S53) (hc : cs.length ≤ 1048576) (hr : rs.length ≤ 1048576) : Ev (fun k => spec_l2Good.f k cs rs) (goodB cs rs) := by
  unfold spec_l2Good.f goodB
  by_cases h1 : (cs.length : Int) > 10
  · have h2 : ¬ (cs.length ≤ 10) := by omega
    simp only [h1, h2, if_true, decide_false, Bool.false_and]
    refine Ev.step (fun k => by rw [spec_l2Good.j0]) ?_
    simp only [if_true]
    exact Ev.now _
  · have h2 : cs.length ≤ 10 := by omega
    simp only [h1, h2, if_false, decide_true, Bool.true_and]
    refine Ev.step (fun k => by rw [spec_l2Good.j0]) ?_
    by_cases h3 : (rs.length : Int) > 24
    · have h4 : ¬ (rs.length ≤ 24) := by omega
      simp only [h3, h4, decide_true, decide_false, if_true, Bool.false_and]
      exact Ev.now _
    · have h4 : rs.length ≤ 24 := by omega
      simp only [h3, h4, decide_true, decide_false, if_false, Bool.false_eq_true, Bool.true_and]
      exact l2Good_l0 cs rs hc hr 0 (Nat.zero_le _)
/-! ### the program's own test -/
theorem compare_eq (a b : Int) : cmp_Compare_int.f a b = some (if a < b then -1 else if a > b then 1 else 0) := by
  unfold cmp_Compare_int.f cmp_isNaN_int.f
  simp only [Option.bind_some, bne_self_eq_false, Bool.false_eq_true, if_false]
  by_cases h : a < b
  · simp [h]
  · by_cases h2 : a > b
    · simp [h, h2]
    · simp [h, h2]
theorem or_ev (x y : Int) : Ev (fun k => cmp_Or_int.f k [x, y]) (if x = 0 then y else x) := by
  unfold cmp_Or_int.f
  have e1 : wrap64 (0 + 1) = 1 := by unfold wrap64; omega
  refine Ev.step (fun k => by rw [cmp_Or_int.l0]) ?_
  simp only [List.length_cons, List.length_nil, rd, e1]
  by_cases h : x = 0
  · subst h
    simp
    refine Ev.step (fun k => by rw [cmp_Or_int.l0]) ?_
    simp [rd, show wrap64 2 = 2 from by unfold wrap64; omega]
    by_cases h2 : y = 0
    · subst h2
      simp
      refine Ev.step (fun k => by rw [cmp_Or_int.l0]) ?_
      simp
      exact Ev.now _
    · simp [h2]
      exact Ev.now _
  · simp [h]
    exact Ev.now _
/-- -1, 0 or 1, as the relations stand. -/
def cmpR (a b : S53) : Int := if before a b then -1 else if before b a then 1 else 0
theorem compareR_ev (a b : S53) : Ev (fun k => impl_compareRelations.f k a.f0 a.f1 b.f0 b.f1) (cmpR a b) := by
  unfold impl_compareRelations.f
  simp only [compare_eq, Option.bind_some]
  refine Ev.bind (or_ev _ _) ?_
  have e : (if (if a.f0 < b.f0 then (-1 : Int) else if a.f0 > b.f0 then 1 else 0) = 0 then (if a.f1 < b.f1 then (-1 : Int) else if a.f1 > b.f1 then 1 else 0) else (if a.f0 < b.f0 then (-1 : Int) else if a.f0 > b.f0 then 1 else 0)) = cmpR a b := by
    unfold cmpR before
    by_cases h : a.f0 < b.f0
    · simp [h]
    · by_cases h2 : b.f0 < a.f0
      · have h3 : ¬ a.f0 = b.f0 := by omega
        simp [h, h2, h3]
      · have h3 : a.f0 = b.f0 := by omega
        by_cases h4 : a.f1 < b.f1
        · simp [h3, h4]
        · by_cases h5 : b.f1 < a.f1
          · simp [h3, h4, h5]
          · simp [h3, h4, h5]
  rw [e]
  exact Ev.now _
theorem cmpR_ge (a b : S53) : (cmpR a b ≥ 0) = ¬ (before a b = true) := by
  unfold cmpR
  by_cases h : before a b = true
  · simp [h]
  · by_cases h2 : before b a = true
    · simp [h, h2]
    · simp [h, h2]
theorem isValid_j3 (cs : List S59) (rs : List S53) (b : Bool) (hr : rs.length ≤ 1048576) (i : Nat) (hi : i < rs.length) (ih : Ev (fun k => impl_IsValidRecord.l1 k rs (rs.length : Int) ((i + 1 : Nat) : Int) cs rs) (relOk cs (prevR rs (i + 1)) (rs.drop (i + 1)))) :
    Ev (fun k => impl_IsValidRecord.j3 k (i : Int) rs (rs.length : Int) (i : Int) b cs rs rs[i].f0 rs[i].f1) (!b && ((match prevR rs i with | none => true | some q => before q rs[i]) && relOk cs (some rs[i]) (rs.drop (i + 1)))) := by
  refine Ev.step (fun k => by rw [impl_IsValidRecord.j3]) ?_
  have e0 : prevR rs (i + 1) = some rs[i] := by simp only [prevR, getDR rs i hi]
  rw [e0] at ih
  cases b with
  | true =>
    simp only [if_true, Bool.not_true, Bool.false_and]
    exact Ev.now _
  | false =>
    simp only [Bool.false_eq_true, if_false, Bool.not_false, Bool.true_and, w64 i (by omega)]
    cases i with
    | zero =>
      simp only [Int.ofNat_zero, gt_iff_lt, Int.lt_irrefl, if_false, prevR, Bool.true_and]
      exact ih
    | succ j =>
      have g1 : ((j + 1 : Nat) : Int) > 0 := by omega
      have g2 : (0 : Int) ≤ (j : Int) := by omega
      have g3 : (j : Int) < (rs.length : Int) := by omega
      simp only [g1, if_true, w64p j (by omega), g2, g3, rdR rs j (by omega), prevR, getDR rs j (by omega)]
      refine Ev.bind (compareR_ev rs[j] rs[j + 1]) ?_
      simp only [cmpR_ge]
      by_cases h9 : before rs[j] rs[j + 1] = true
      · simp only [h9, not_true_eq_false, if_false, Bool.true_and]
        exact ih
      · have h10 : before rs[j] rs[j + 1] = false := by simpa using h9
        simp only [h10, Bool.false_eq_true, not_false_eq_true, if_true, Bool.false_and]
        exact Ev.now _
theorem isValid_l1 (cs : List S59) (rs : List S53) (hr : rs.length ≤ 1048576) : ∀ i, i ≤ rs.length → Ev (fun k => impl_IsValidRecord.l1 k rs (rs.length : Int) (i : Int) cs rs) (relOk cs (prevR rs i) (rs.drop i)) :=
  Ev.down rs.length (fun k i => impl_IsValidRecord.l1 k rs (rs.length : Int) (i : Int) cs rs) (fun i => relOk cs (prevR rs i) (rs.drop i))
    (by
      refine Ev.step (fun k => by rw [impl_IsValidRecord.l1]) ?_
      simp only [Int.lt_irrefl, if_false, List.drop_length, relOk]
      exact Ev.now _)
    (fun i hi ih => by
      refine Ev.step (fun k => by rw [impl_IsValidRecord.l1]) ?_
      have h1 : (i : Int) < (rs.length : Int) := by omega
      have h2 : (0 : Int) ≤ (i : Int) := by omega
      have j3 := fun b => isValid_j3 cs rs b hr i hi ih
      rw [List.drop_eq_getElem_cons hi]
      simp only [h1, h2, if_true, rdR rs i hi, relOk, impl_indexOf.f, Option.bind_some]
      by_cases h3 : rs[i].f0 = rs[i].f1
      · have j := j3 true
        simp only [h3, if_true, beq_self_eq_true, Bool.not_true, Bool.false_and] at j ⊢
        exact j
      · have h4 : (rs[i].f0 == rs[i].f1) = false := by simpa using h3
        simp only [h3, h4, if_false, Bool.not_false, Bool.true_and]
        have f0 : idxI (fun c : S59 => c.f0 == rs[i].f0) cs = find cs rs[i].f0 := rfl
        have f1 : idxI (fun c : S59 => c.f0 == rs[i].f1) cs = find cs rs[i].f1 := rfl
        rw [f0, f1]
        by_cases h5 : find cs rs[i].f0 < 0
        · have h6 : ¬ (0 ≤ find cs rs[i].f0) := by omega
          have j := j3 true
          simp only [h5, h6, if_true, decide_false, Bool.not_true, Bool.false_and] at j ⊢
          exact j
        · have h6 : 0 ≤ find cs rs[i].f0 := by omega
          have j := j3 (decide (find cs rs[i].f1 < 0))
          have e : (!decide (find cs rs[i].f1 < 0)) = decide (0 ≤ find cs rs[i].f1) := by
            by_cases h7 : find cs rs[i].f1 < 0
            · have h8 : ¬ (0 ≤ find cs rs[i].f1) := by omega
              simp [h7, h8]
            · have h8 : 0 ≤ find cs rs[i].f1 := by omega
              simp [h7, h8]
          rw [e] at j
          simp only [h5, h6, if_false, decide_true, Bool.true_and, Bool.and_assoc] at j ⊢
          exact j)
theorem isValid_l0 (cs : List S59) (rs : List S53) (hc : cs.length ≤ 1048576) (hr : rs.length ≤ 1048576) : ∀ i, i ≤ cs.length → Ev (fun k => impl_IsValidRecord.l0 k cs (cs.length : Int) (i : Int) cs rs) (ctxOk (prevC cs i) (cs.drop i) && relOk cs none rs) :=
  Ev.down cs.length (fun k i => impl_IsValidRecord.l0 k cs (cs.length : Int) (i : Int) cs rs) (fun i => ctxOk (prevC cs i) (cs.drop i) && relOk cs none rs)
    (by
      refine Ev.step (fun k => by rw [impl_IsValidRecord.l0]) ?_
      simp only [Int.lt_irrefl, if_false, List.drop_length, ctxOk, Bool.true_and]
      exact isValid_l1 cs rs hr 0 (Nat.zero_le _))
    (fun i hi ih => by
      refine Ev.step (fun k => by rw [impl_IsValidRecord.l0]) ?_
      have h1 : (i : Int) < (cs.length : Int) := by omega
      have h2 : (0 : Int) ≤ (i : Int) := by omega
      rw [List.drop_eq_getElem_cons hi]
      simp only [h1, h2, if_true, rdC cs i hi, w64 i (by omega), ctxOk, isNumber_eq, isKind_eq, Option.bind_some]
      by_cases h3 : (decide (1 ≤ cs[i].f0) && decide (cs[i].f0 ≤ 999)) = true
      · simp only [h3, if_true, Bool.true_and]
        by_cases h4 : (decide (1 ≤ cs[i].f1) && decide (cs[i].f1 ≤ 4)) = true
        · simp only [h4, if_true, Bool.true_and]
          cases i with
          | zero =>
            simp only [Int.ofNat_zero, gt_iff_lt, Int.lt_irrefl, if_false, prevC, Bool.true_and]
            simp only [prevC, getDC cs 0 hi] at ih
            simpa using ih
          | succ j =>
            have g1 : ((j + 1 : Nat) : Int) > 0 := by omega
            have g2 : (0 : Int) ≤ (j : Int) := by omega
            have g3 : (j : Int) < (cs.length : Int) := by omega
            simp only [g1, if_true, w64p j (by omega), g2, g3, rdC cs j (by omega), prevC, getDC cs j (by omega)]
            by_cases h9 : cs[j + 1].f0 ≤ cs[j].f0
            · have h10 : ¬ (cs[j].f0 < cs[j + 1].f0) := by omega
              simp only [h9, h10, if_true, decide_false, Bool.false_and]
              exact Ev.now _
            · have h10 : cs[j].f0 < cs[j + 1].f0 := by omega
              simp only [h9, h10, if_false, decide_true, Bool.true_and]
              simp only [prevC, getDC cs (j + 1) hi] at ih
              simpa using ih
        · have h5 : (decide (1 ≤ cs[i].f1) && decide (cs[i].f1 ≤ 4)) = false := by simpa using h4
          simp only [h5, if_false, Bool.false_eq_true, Bool.false_and]
          exact Ev.now _
      · have h5 : (decide (1 ≤ cs[i].f0) && decide (cs[i].f0 ≤ 999)) = false := by simpa using h3
        simp only [h5, if_false, Bool.false_eq_true, Bool.false_and]
        exact Ev.now _)
theorem isValid_ev (cs : List S59) (rs : List S53) (hc : cs.length ≤ 1048576) (hr : rs.length ≤ 1048576) : Ev (fun k => impl_IsValidRecord.f k cs rs) (goodB cs rs) := by
  unfold impl_IsValidRecord.f goodB
  by_cases h1 : (cs.length : Int) > 10
  · have h2 : ¬ (cs.length ≤ 10) := by omega
    simp only [h1, h2, if_true, decide_false, Bool.false_and]
    refine Ev.step (fun k => by rw [impl_IsValidRecord.j0]) ?_
    simp only [if_true]
    exact Ev.now _
  · have h2 : cs.length ≤ 10 := by omega
    simp only [h1, h2, if_false, decide_true, Bool.true_and]
    refine Ev.step (fun k => by rw [impl_IsValidRecord.j0]) ?_
    by_cases h3 : (rs.length : Int) > 24
    · have h4 : ¬ (rs.length ≤ 24) := by omega
      simp only [h3, h4, decide_true, decide_false, if_true, Bool.false_and]
      exact Ev.now _
    · have h4 : rs.length ≤ 24 := by omega
      simp only [h3, h4, decide_true, decide_false, if_false, Bool.false_eq_true, Bool.true_and]
      exact isValid_l0 cs rs hc hr 0 (Nat.zero_le _)
/-! ### the law's copies -/
def cvC (x : S57) : S59 := ⟨x.f0, x.f1⟩
def cvR (x : S51) : S53 := ⟨x.f0, x.f1⟩
theorem acc_step {α β : Type} (f : α → β) (z : β) (l : List α) (i : Nat) (hi : i < l.length) : ((l.take i).map f ++ List.replicate (l.length - i) z).set i (f l[i]) = (l.take (i + 1)).map f ++ List.replicate (l.length - (i + 1)) z := by
  have h1 : ((l.take i).map f).length = i := by rw [List.length_map, List.length_take]; omega
  rw [List.set_append_right _ _ (by omega), h1, Nat.sub_self]
  obtain ⟨m, hm⟩ : ∃ m, l.length - i = m + 1 := ⟨l.length - i - 1, by omega⟩
  rw [hm, List.replicate_succ, List.set_cons_zero, List.take_succ_eq_append_getElem hi, List.map_append, show l.length - (i + 1) = m by omega]
  simp
theorem toContextS_ev (l : List S57) (hl : l.length ≤ 1048576) : Ev (fun k => laws_toContextS.f k l) (l.map cvC) := by
  unfold laws_toContextS.f
  have h1 : (0 : Int) ≤ (l.length : Int) := by omega
  have h2 : l.length ≤ 17592186044416 := by omega
  simp only [h1, if_true, Int.toNat_natCast, h2]
  have key := Ev.down l.length (fun k i => laws_toContextS.l0 k l ((l.take i).map cvC ++ List.replicate (l.length - i) z59) (i : Int)) (fun _ => l.map cvC)
    (by
      refine Ev.step (fun k => by rw [laws_toContextS.l0]) ?_
      simp only [Int.lt_irrefl, if_false, List.take_length, Nat.sub_self, List.replicate_zero, List.append_nil]
      exact Ev.now _)
    (fun i hi ih => by
      refine Ev.step (fun k => by rw [laws_toContextS.l0]) ?_
      have h1 : (i : Int) < (l.length : Int) := by omega
      have h2 : (0 : Int) ≤ (i : Int) := by omega
      have h3 : (i : Int) < ((((l.take i).map cvC ++ List.replicate (l.length - i) z59).length : Nat) : Int) := by
        rw [List.length_append, List.length_map, List.length_take, List.length_replicate]
        omega
      simp only [h1, h2, h3, if_true, rdCl l i hi, laws_toContext.f, Option.bind_some, w64 i (by omega), Int.toNat_natCast]
      have e := acc_step cvC z59 l i hi
      unfold cvC at e ih ⊢
      rw [e]
      exact ih)
  have h0 := key 0 (Nat.zero_le _)
  simpa using h0
theorem toRelationS_ev (l : List S51) (hl : l.length ≤ 1048576) : Ev (fun k => laws_toRelationS.f k l) (l.map cvR) := by
  unfold laws_toRelationS.f
  have h1 : (0 : Int) ≤ (l.length : Int) := by omega
  have h2 : l.length ≤ 17592186044416 := by omega
  simp only [h1, if_true, Int.toNat_natCast, h2]
  have key := Ev.down l.length (fun k i => laws_toRelationS.l0 k l ((l.take i).map cvR ++ List.replicate (l.length - i) z53) (i : Int)) (fun _ => l.map cvR)
    (by
      refine Ev.step (fun k => by rw [laws_toRelationS.l0]) ?_
      simp only [Int.lt_irrefl, if_false, List.take_length, Nat.sub_self, List.replicate_zero, List.append_nil]
      exact Ev.now _)
    (fun i hi ih => by
      refine Ev.step (fun k => by rw [laws_toRelationS.l0]) ?_
      have h1 : (i : Int) < (l.length : Int) := by omega
      have h2 : (0 : Int) ≤ (i : Int) := by omega
      have h3 : (i : Int) < ((((l.take i).map cvR ++ List.replicate (l.length - i) z53).length : Nat) : Int) := by
        rw [List.length_append, List.length_map, List.length_take, List.length_replicate]
        omega
      simp only [h1, h2, h3, if_true, rdRl l i hi, laws_toRelation.f, Option.bind_some, w64 i (by omega), Int.toNat_natCast]
      have e := acc_step cvR z53 l i hi
      unfold cvR at e ih ⊢
      rw [e]
      exact ih)
  have h0 := key 0 (Nat.zero_le _)
  simpa using h0
theorem toRecord_ev (l0 : List S57) (l1 : List S51) (h0 : l0.length ≤ 1048576) (h1 : l1.length ≤ 1048576) : Ev (fun k => laws_toRecord.f k l0 l1) (l0.map cvC, l1.map cvR) := by
  unfold laws_toRecord.f
  refine Ev.bind (toContextS_ev l0 h0) ?_
  refine Ev.bind (toRelationS_ev l1 h1) ?_
  exact Ev.now _
theorem eqContextS_ev (a : List S59) (ha : a.length ≤ 1048576) : Ev (fun k => laws_eqContextS.f k a a) true := by
  unfold laws_eqContextS.f
  simp only [if_true]
  have key := Ev.down a.length (fun k i => laws_eqContextS.l0 k a a (i : Int)) (fun _ => true)
    (by
      refine Ev.step (fun k => by rw [laws_eqContextS.l0]) ?_
      simp only [Int.lt_irrefl, if_false]
      exact Ev.now _)
    (fun i hi ih => by
      refine Ev.step (fun k => by rw [laws_eqContextS.l0]) ?_
      have h1 : (i : Int) < (a.length : Int) := by omega
      have h2 : (0 : Int) ≤ (i : Int) := by omega
      simp only [h1, h2, if_true, laws_eqContext.f, Option.bind_some, w64 i (by omega)]
      exact ih)
  exact key 0 (Nat.zero_le _)
theorem eqRelationS_ev (a : List S53) (ha : a.length ≤ 1048576) : Ev (fun k => laws_eqRelationS.f k a a) true := by
  unfold laws_eqRelationS.f
  simp only [if_true]
  have key := Ev.down a.length (fun k i => laws_eqRelationS.l0 k a a (i : Int)) (fun _ => true)
    (by
      refine Ev.step (fun k => by rw [laws_eqRelationS.l0]) ?_
      simp only [Int.lt_irrefl, if_false]
      exact Ev.now _)
    (fun i hi ih => by
      refine Ev.step (fun k => by rw [laws_eqRelationS.l0]) ?_
      have h1 : (i : Int) < (a.length : Int) := by omega
      have h2 : (0 : Int) ≤ (i : Int) := by omega
      simp only [h1, h2, if_true, laws_eqRelation.f, Option.bind_some, w64 i (by omega)]
      exact ih)
  exact key 0 (Nat.zero_le _)
theorem eqRecord_ev (a : List S59) (b : List S53) (ha : a.length ≤ 1048576) (hb : b.length ≤ 1048576) : Ev (fun k => laws_eqRecord.f k a b a b) true := by
  unfold laws_eqRecord.f
  refine Ev.bind (eqContextS_ev a ha) ?_
  simp only [if_true]
  refine Ev.bind (eqRelationS_ev b hb) ?_
  simp only [if_true]
  exact Ev.now _
/-- What the law's first test lets by: at most 2^20 contexts and relations. -/
theorem szRecord_eq (l0 : List S57) (l1 : List S51) (g0 : l0.length ≤ 9223372036854775807) (g1 : l1.length ≤ 9223372036854775807) :
    ∃ t, laws_szRecord.f l0 l1 1048576 = some t ∧ (t < 0 ∨ (0 ≤ t ∧ t ≤ 1048576 ∧ l0.length ≤ 1048576 ∧ l1.length ≤ 1048576)) := by
  unfold laws_szRecord.f laws_szContextS.f laws_szRelationS.f
  have e0 : wrap64 (1048576 - (l0.length : Int)) = 1048576 - (l0.length : Int) := by unfold wrap64; omega
  rw [e0]
  by_cases h0 : (1048576 - (l0.length : Int)) < 0
  · exact ⟨-1, by simp [h0], .inl (by omega)⟩
  · have e1 : wrap64 (1048576 - (l0.length : Int) - (l1.length : Int)) = 1048576 - (l0.length : Int) - (l1.length : Int) := by unfold wrap64; omega
    simp only [h0, if_false, Option.bind_some, e1]
    by_cases h1 : (1048576 - (l0.length : Int) - (l1.length : Int)) < 0
    · exact ⟨-1, by simp [h1], .inl (by omega)⟩
    · exact ⟨1048576 - (l0.length : Int) - (l1.length : Int), by simp [h1], .inr (by omega)⟩
theorem hasContext_ev (cs : List S59) (rs : List S53) (n : Int) (hc : cs.length ≤ 1048576) (hr : rs.length ≤ 1048576) : Ev (fun k => impl_hasContext.f k cs rs n) (goodB cs rs && decide (0 ≤ find cs n)) := by
  unfold impl_hasContext.f
  refine Ev.bind (isValid_ev cs rs hc hr) ?_
  cases goodB cs rs with
  | true =>
    simp only [impl_indexOf.f, Option.bind_some, if_true, Bool.true_and]
    by_cases h : 0 ≤ find cs n
    · have h2 : idxI (fun c : S59 => c.f0 == n) cs ≥ 0 := h
      simp [h, h2]
      exact Ev.now _
    · have h2 : ¬ idxI (fun c : S59 => c.f0 == n) cs ≥ 0 := h
      simp [h, h2]
      exact Ev.now _
  | false =>
    simp only [Bool.false_eq_true, if_false, Bool.false_and]
    exact Ev.now _
end Go.Proofs.Ytojdchmkhhpmiaa.L
