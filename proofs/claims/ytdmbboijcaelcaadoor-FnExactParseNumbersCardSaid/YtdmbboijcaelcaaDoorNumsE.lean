/- Plain facts: the reference's list of numbers is the program's. No program is walked here. -/
import Derived.Test.YtdmbboijcaelcaaDoorNumsC
import Derived.Test.YtdmbboijcaelcaaDoorNum
import Derived.Test.YtdmbboijcaelcaaDoorRead
import Derived.Test.YtdmbboijcaelcaaDoorQF23
import Derived.Test.YtdmbboijcaelcaaDoorQF24
import Derived.Test.YtdmbboijcaelcaaDoorQF26
namespace Go.Proofs.YtdmbboijcaelcaaDoor.Q
open Go.RowKit Go.Proofs.YtdmbboijcaelcaaDoorW.PrintWords Go.Proofs.YtdmbboijcaelcaaDoorW.PrintLast
set_option linter.unusedVariables false
set_option linter.unusedSimpArgs false
theorem wn64 (i : Nat) (h : i ≤ 4611686018427387904) : wrap64 ((i : Int) + 1) = ((i + 1 : Nat) : Int) := by unfold wrap64; omega
theorem rdn (l : List Int) (i : Nat) (h : i < l.length) : rd l (i : Int) = l[i] := by simp [rd, h]
theorem okNum_iff (n : Int) : okNum n = true ↔ 0 ≤ n ∧ n ≤ 999999 := by unfold okNum; simp
theorem any_not_ok (l : List Int) : l.any (fun n => !okNum n) = !l.all okNum := by
  induction l with
  | nil => rfl
  | cons x r ih => rw [List.any_cons, List.all_cons, ih, Bool.not_and]
theorem numbers_ev (l : List Int) (hl : l.length ≤ 1048576) : Ev (fun k => spec_l3Numbers.f k l) (decide (l.length ≤ 40) && l.all okNum) := by
  have hend : Ev (fun k => spec_l3Numbers.j1 k l (l.length : Int) false) (decide (l.length ≤ 40)) := by
    refine Ev.step (fun q => by rw [spec_l3Numbers.j1]) ?_
    simp only [Bool.false_eq_true, if_false]
    rw [show decide ((l.length : Int) ≤ 40) = decide (l.length ≤ 40) from decide_eq_decide.2 (by omega)]
    exact Ev.now _
  have key : ∀ d i, l.length - i = d → i ≤ l.length → i ≤ 41 → Ev (fun k => spec_l3Numbers.l0 k l (i : Int)) (decide (l.length ≤ 40) && (l.drop i).all okNum) := by
    intro d
    induction d with
    | zero =>
      intro i hd hi h41
      obtain rfl : i = l.length := by omega
      refine Ev.step (fun q => by rw [spec_l3Numbers.l0]) ?_
      simp only [Int.lt_irrefl, if_false, List.drop_length, List.all_nil, Bool.and_true]
      exact hend
    | succ d ih =>
      intro i hd hi h41
      have hlt : i < l.length := by omega
      have a3 : (i : Int) < (l.length : Int) := by omega
      have a4 : (0 : Int) ≤ (i : Int) := by omega
      refine Ev.step (fun q => by rw [spec_l3Numbers.l0]) ?_
      simp only [a3, if_true]
      refine Ev.step (fun q => by rw [spec_l3Numbers.j1]) ?_
      by_cases h40 : i ≤ 40
      · have a5 : (i : Int) ≤ 40 := by omega
        simp only [a5, decide_true, if_true, a4, a3, rdn l i hlt, l1In_eq, Option.bind_some]
        have hd2 : l.drop i = l[i] :: l.drop (i + 1) := List.drop_eq_getElem_cons hlt
        rw [hd2, List.all_cons]
        have he : (decide (0 ≤ l[i]) && decide (l[i] ≤ 999999)) = okNum l[i] := rfl
        simp only [he]
        cases hk : okNum l[i] with
        | true =>
          simp only [if_true, wn64 i (by omega), Bool.true_and]
          exact ih (i + 1) (by omega) (by omega) (by omega)
        | false =>
          simp only [Bool.false_eq_true, if_false, Bool.false_and, Bool.and_false]
          exact Ev.now _
      · have a5 : ¬ (i : Int) ≤ 40 := by omega
        simp only [a5, decide_false, Bool.false_eq_true, if_false]
        have h1 : decide ((l.length : Int) ≤ 40) = false := decide_eq_false (by omega)
        have h2 : decide (l.length ≤ 40) = false := decide_eq_false (by omega)
        rw [h1, h2, Bool.false_and]
        exact Ev.now _
  exact key l.length 0 (by omega) (by omega) (by omega)
theorem tail_snoc (x : List UInt8) (xs : List (List UInt8)) (sep : List UInt8) : Lib.joinTail sep (x :: xs) = sep ++ x ++ Lib.joinTail sep xs := by simp [Lib.joinTail]
theorem list_tail_ev (l : List Int) (hl : l.length ≤ 40) (hn : ∀ n ∈ l, okNum n = true) : ∀ d i (x : List UInt8), l.length - i = d → 1 ≤ i → i ≤ l.length → x.length ≤ 9 * i → Ev (fun k => spec_l3List.l0 k l ⟨x.toArray⟩ (i : Int)) ⟨(x ++ Lib.joinTail [44, 32] ((l.drop i).map Lib.itoa)).toArray⟩ := by
  intro d
  induction d with
  | zero =>
    intro i x hd h1 hi hx
    obtain rfl : i = l.length := by omega
    refine Ev.step (fun q => by rw [spec_l3List.l0]) ?_
    simp only [Int.lt_irrefl, if_false, List.drop_length, List.map_nil, Lib.joinTail, List.flatten_nil, List.append_nil]
    exact Ev.now _
  | succ d ih =>
    intro i x hd h1 hi hx
    have hlt : i < l.length := by omega
    have a3 : (i : Int) < (l.length : Int) := by omega
    have a4 : (0 : Int) ≤ (i : Int) := by omega
    have a5 : (i : Int) > 0 := by omega
    have hr := (okNum_iff _).1 (hn l[i] (List.getElem_mem hlt))
    have h7 := itoa_len7 l[i] (by omega) hr.2
    have hd2 : l.drop i = l[i] :: l.drop (i + 1) := List.drop_eq_getElem_cons hlt
    rw [hd2, List.map_cons, tail_snoc]
    refine Ev.step (fun q => by rw [spec_l3List.l0]) ?_
    have s2 : (⟨#[44, 32]⟩ : ByteArray) = ⟨([44, 32] : List UInt8).toArray⟩ := rfl
    simp only [a3, a5, if_true, ba_size, show x.length + 2 ≤ 9223372036854775807 by omega, a4, rdn l i hlt]
    refine Ev.bind (num_ev l[i] (by omega) hr.2) ?_
    simp only [s2, ba_append, ba_size, List.length_append, List.length_cons, List.length_nil, show x.length + (0 + 1 + 1) + (Lib.itoa l[i]).length ≤ 9223372036854775807 by omega, if_true, wn64 i (by omega)]
    have h := ih (i + 1) ((x ++ [44, 32]) ++ Lib.itoa l[i]) (by omega) (by omega) (by omega) (by simp only [List.length_append, List.length_cons, List.length_nil]; omega)
    rw [show x ++ ([44, 32] ++ Lib.itoa l[i] ++ Lib.joinTail [44, 32] ((l.drop (i + 1)).map Lib.itoa)) = (x ++ [44, 32]) ++ Lib.itoa l[i] ++ Lib.joinTail [44, 32] ((l.drop (i + 1)).map Lib.itoa) by simp [List.append_assoc]]
    exact h
theorem list_ev (l : List Int) (hl : l.length ≤ 40) (hn : ∀ n ∈ l, okNum n = true) : Ev (fun k => spec_l3List.f k l) (if l.length = 0 then ⟨#[110, 111, 110, 101]⟩ else joinN l ⟨#[44, 32]⟩) := by
  unfold spec_l3List.f
  cases l with
  | nil => simp only [List.length_nil, Int.natCast_zero, if_true]; exact Ev.now _
  | cons y ys =>
    have h0 : ¬ ((y :: ys).length : Int) = 0 := by simp only [List.length_cons]; omega
    have h0' : ¬ (y :: ys).length = 0 := by simp
    rw [if_neg h0']
    simp only [h0, if_false]
    have hr := (okNum_iff _).1 (hn y (by simp))
    have h7 := itoa_len7 y (by omega) hr.2
    have a3 : (0 : Int) < ((y :: ys).length : Int) := by simp only [List.length_cons]; omega
    refine Ev.step (fun q => by rw [spec_l3List.l0]) ?_
    have s0 : (⟨#[]⟩ : ByteArray) = ⟨([] : List UInt8).toArray⟩ := rfl
    have e0 : rd (y :: ys) 0 = y := rfl
    simp only [a3, if_true, show ¬ (0 : Int) > 0 by omega, if_false, Int.le_refl, e0]
    refine Ev.bind (num_ev y (by omega) hr.2) ?_
    simp only [s0, ba_append, ba_size, List.nil_append, List.length_nil, show 0 + (Lib.itoa y).length ≤ 9223372036854775807 by omega, if_true]
    have h := list_tail_ev (y :: ys) hl hn ys.length 1 (Lib.itoa y) (by simp) (by omega) (by simp) (by omega)
    rw [show joinN (y :: ys) ⟨#[44, 32]⟩ = ⟨(Lib.itoa y ++ Lib.joinTail [44, 32] (((y :: ys).drop 1).map Lib.itoa)).toArray⟩ by
      unfold joinN
      rw [List.map_cons, Lib.join_cons]
      rfl]
    rw [show wrap64 (0 + 1) = ((1 : Nat) : Int) from by unfold wrap64; omega]
    exact h
theorem join_len (l : List Int) (hl : l.length ≤ 40) (hn : ∀ n ∈ l, okNum n = true) : (Lib.join (l.map Lib.itoa) [44, 32]).length ≤ 140737488355328 := by
  have key : ∀ l : List Int, (∀ n ∈ l, okNum n = true) → (Lib.joinTail [44, 32] (l.map Lib.itoa)).length ≤ 9 * l.length := by
    intro l
    induction l with
    | nil => intro _; simp [Lib.joinTail]
    | cons y ys ih =>
      intro h
      have h1 := ih (fun n hn => h n (by simp [hn]))
      have hr := (okNum_iff _).1 (h y (by simp))
      have h7 := itoa_len7 y (by omega) hr.2
      rw [List.map_cons, tail_snoc]
      simp only [List.length_append, List.length_cons, List.length_nil]
      omega
  cases l with
  | nil => simp [Lib.join_nil]
  | cons y ys =>
    have h1 := key ys (fun n h => hn n (by simp [h]))
    have hr := (okNum_iff _).1 (hn y (by simp))
    have h7 := itoa_len7 y (by omega) hr.2
    rw [List.map_cons, Lib.join_cons, List.length_append]
    simp only [List.length_cons] at hl
    omega
theorem fmtNumbers_ev (l : List Int) (hl : l.length ≤ 1048576) : ∃ k, spec_FormatNumbers.f k l = some (numsI l) := by
  refine Ev.rounds ?_
  unfold spec_FormatNumbers.f
  refine Ev.bind (numbers_ev l hl) ?_
  unfold numsI
  by_cases h1 : 40 < l.length
  · rw [if_pos h1]
    simp only [show decide (l.length ≤ 40) = false from decide_eq_false (by omega), Bool.false_and, Bool.false_eq_true, if_false]
    exact Ev.now _
  · rw [if_neg h1, any_not_ok]
    simp only [show decide (l.length ≤ 40) = true from decide_eq_true (by omega), Bool.true_and]
    cases ha : l.all okNum with
    | false =>
      simp only [Bool.false_eq_true, if_false, Bool.not_false, if_true]
      exact Ev.now _
    | true =>
      simp only [if_true, Bool.not_true, Bool.false_eq_true, if_false]
      refine Ev.bind (list_ev l (by omega) (List.all_eq_true.1 ha)) ?_
      by_cases h0 : l.length = 0
      · simp only [h0, if_true]
        exact Ev.now _
      · simp only [h0, if_false]
        exact Ev.now _
theorem toIntS_ev (l : List Int) (hl : l.length ≤ 1048576) : ∃ k, laws_toIntS.f k l = some l := by
  refine Ev.rounds ?_
  have key : ∀ d i, l.length - i = d → i ≤ l.length → Ev (fun k => laws_toIntS.l0 k l (l.take i ++ List.replicate (l.length - i) 0) (i : Int)) l := by
    intro d
    induction d with
    | zero =>
      intro i hd hi
      obtain rfl : i = l.length := by omega
      refine Ev.step (fun q => by rw [laws_toIntS.l0]) ?_
      simp only [Int.lt_irrefl, if_false, List.take_length, Nat.sub_self, List.replicate_zero, List.append_nil]
      exact Ev.now _
    | succ d ih =>
      intro i hd hi
      have hlt : i < l.length := by omega
      have a3 : (i : Int) < (l.length : Int) := by omega
      have a4 : (0 : Int) ≤ (i : Int) := by omega
      have e1 : (l.take i ++ List.replicate (l.length - i) (0 : Int)).length = l.length := by simp; omega
      have e2 : (l.take i ++ List.replicate (l.length - i) (0 : Int)).set i l[i] = l.take (i + 1) ++ List.replicate (l.length - (i + 1)) (0 : Int) := by
        have hti : (l.take i).length = i := by rw [List.length_take]; omega
        rw [List.set_append_right _ _ (by omega), hti, Nat.sub_self, show l.length - i = (l.length - (i + 1)) + 1 by omega, List.replicate_succ, List.set_cons_zero, List.take_succ_eq_append_getElem hlt, List.append_assoc]
        rfl
      refine Ev.step (fun q => by rw [laws_toIntS.l0]) ?_
      simp only [a3, a4, if_true, e1, rdn l i hlt, Int.toNat_natCast, e2, wn64 i (by omega)]
      exact ih (i + 1) (by omega) (by omega)
  have h := key l.length 0 (by omega) (by omega)
  unfold laws_toIntS.f
  simp only [show (0 : Int) ≤ (l.length : Int) by omega, if_true, Int.toNat_natCast, show l.length ≤ 35184372088832 by omega]
  simpa using h
theorem eqIntS_ev (a : List Int) (ha : a.length ≤ 1048576) : ∃ k, laws_eqIntS.f k a a = some true := by
  refine Ev.rounds ?_
  have key : ∀ d i, a.length - i = d → i ≤ a.length → Ev (fun k => laws_eqIntS.l0 k a a (i : Int)) true := by
    intro d
    induction d with
    | zero =>
      intro i hd hi
      obtain rfl : i = a.length := by omega
      refine Ev.step (fun q => by rw [laws_eqIntS.l0]) ?_
      simp only [Int.lt_irrefl, if_false]
      exact Ev.now _
    | succ d ih =>
      intro i hd hi
      have a3 : (i : Int) < (a.length : Int) := by omega
      have a4 : (0 : Int) ≤ (i : Int) := by omega
      refine Ev.step (fun q => by rw [laws_eqIntS.l0]) ?_
      simp only [a3, a4, if_true, wn64 i (by omega)]
      exact ih (i + 1) (by omega) (by omega)
  unfold laws_eqIntS.f
  simp only [if_true]
  exact key a.length 0 (by omega) (by omega)
end Go.Proofs.YtdmbboijcaelcaaDoor.Q
