/- The law FnExactJoinStrings answers true at all strings. No conditions. -/
import Derived.Test.YtdmbboijcaelcaaQ0
import Derived.Test.YtdmbboijcaelcaaQF3
import Derived.Test.YtdmbboijcaelcaaQF5
import Derived.Test.YtdmbboijcaelcaaQF7
import Derived.Test.YtdmbboijcaelcaaQF4
import Derived.Test.YtdmbboijcaelcaaQF6
import Derived.Test.YtdmbboijcaelcaaQF8
import Derived.Test.YtdmbboijcaelcaaQF9
import Derived.Test.YtdmbboijcaelcaaQF10
import Derived.Test.YtdmbboijcaelcaaQF11
namespace Go.Proofs.Ytdmbboijcaelcaa.Pure
open Go.RowKit Go.Proofs.Ytdmbboijcaelcaa.Q Go.Proofs.YtdmbboijcaelcaaW.PrintWords
set_option linter.unusedVariables false
set_option linter.unusedSimpArgs false
theorem w64 (i : Nat) (h : i ≤ 4611686018427387904) : wrap64 ((i : Int) + 1) = ((i + 1 : Nat) : Int) := by unfold wrap64; omega
theorem rdS (l : List ByteArray) (i : Nat) (h : i < l.length) : rdOf ByteArray.empty l (i : Int) = l[i] := by simp [rdOf, List.getD_eq_getElem?_getD, List.getElem?_eq_getElem h]
theorem ix_ge (c : UInt8) : ∀ l, -1 ≤ Lib.indexByte l c
  | [] => by simp [Lib.indexByte]
  | b :: r => by
    have := ix_ge c r
    simp only [Lib.indexByte]
    split
    · omega
    · split <;> omega
def has (x : ByteArray) (c : UInt8) : Bool := decide (0 ≤ Lib.indexByte x.data.toList c)
theorem ix_cons (c b : UInt8) (r : List UInt8) : decide (0 ≤ Lib.indexByte (b :: r) c) = (b == c || decide (0 ≤ Lib.indexByte r c)) := by
  have h0 := ix_ge c r
  have key : (0 ≤ Lib.indexByte (b :: r) c) ↔ ((b == c) = true ∨ 0 ≤ Lib.indexByte r c) := by
    simp only [Lib.indexByte]
    by_cases h : (b == c) = true
    · rw [if_pos h]
      exact ⟨fun _ => .inl h, fun _ => Int.le_refl _⟩
    · rw [if_neg h]
      by_cases h2 : Lib.indexByte r c = -1
      · rw [if_pos (beq_iff_eq.2 h2)]
        exact ⟨fun h3 => absurd h3 (by omega), fun h3 => by rcases h3 with h3 | h3; exact absurd h3 h; omega⟩
      · rw [if_neg (fun h3 => h2 (beq_iff_eq.1 h3))]
        exact ⟨fun h3 => .inr (by omega), fun h3 => by omega⟩
  rw [Bool.eq_iff_iff]
  simp only [decide_eq_true_eq, Bool.or_eq_true]
  exact key
theorem bt_nat (x : ByteArray) (i : Nat) (h : i < x.size) : bt x (i : Int) = ((x.data.toList[i]'(by simpa using h)).toNat : Int) := by
  unfold bt
  rw [dif_pos (show (i : Int).toNat < x.size by omega)]
  rfl
theorem stands_ev (x : ByteArray) (c : UInt8) (hx : x.size ≤ 1048576) : Ev (fun k => spec_l1Stands.f k x (c.toNat : Int)) (has x c) := by
  have hl : x.data.toList.length = x.size := by simp
  have key : ∀ d i, x.size - i = d → i ≤ x.size → Ev (fun k => spec_l1Stands.l0 k x (c.toNat : Int) (i : Int)) (decide (0 ≤ Lib.indexByte (x.data.toList.drop i) c)) := by
    intro d
    induction d with
    | zero =>
      intro i hd hi
      obtain rfl : i = x.size := by omega
      refine Ev.step (fun q => by rw [spec_l1Stands.l0]) ?_
      rw [List.drop_of_length_le (by omega)]
      simp only [Int.lt_irrefl, if_false, Lib.indexByte]
      exact Ev.now _
    | succ d ih =>
      intro i hd hi
      have hlt : i < x.size := by omega
      have a3 : (i : Int) < (x.size : Int) := by omega
      have a4 : (0 : Int) ≤ (i : Int) := by omega
      refine Ev.step (fun q => by rw [spec_l1Stands.l0]) ?_
      simp only [a3, a4, if_true, bt_nat x i hlt, w64 i (by omega)]
      rw [List.drop_eq_getElem_cons (by omega), ix_cons]
      by_cases h : x.data.toList[i]'(by omega) = c
      · rw [h]
        simp only [if_true, beq_self_eq_true, Bool.true_or]
        exact Ev.now _
      · have h2 : ¬ ((x.data.toList[i]'(by omega)).toNat : Int) = (c.toNat : Int) := fun e => h (UInt8.toNat_inj.1 (by omega))
        have h3 : (x.data.toList[i]'(by omega) == c) = false := beq_eq_false_iff_ne.2 h
        simp only [h2, if_false, h3, Bool.false_or]
        exact ih (i + 1) (by omega) (by omega)
  exact key x.size 0 (by omega) (by omega)
/-- The bytes of the first i strings. -/
def S (l : List ByteArray) (i : Nat) : Nat := ((l.take i).map (·.size)).sum
theorem S_succ (l : List ByteArray) (i : Nat) (h : i < l.length) : S l (i + 1) = S l i + l[i].size := by
  unfold S
  rw [List.take_succ_eq_append_getElem h, List.map_append, List.sum_append]
  simp
theorem S_mono (l : List ByteArray) (i : Nat) : ∀ d, i + d ≤ l.length → S l i ≤ S l (i + d)
  | 0, _ => Nat.le_refl _
  | d + 1, h => by
    have := S_mono l i d (by omega)
    have h2 := S_succ l (i + d) (by omega)
    rw [show i + (d + 1) = i + d + 1 by omega]
    omega
theorem S_le (l : List ByteArray) (i : Nat) (h : i ≤ l.length) : S l i ≤ S l l.length := by
  have := S_mono l i (l.length - i) (by omega)
  rwa [show i + (l.length - i) = l.length by omega] at this
/-- The joined first i strings. -/
def out (l : List ByteArray) (c : UInt8) (i : Nat) : ByteArray := ⟨(Lib.join ((l.take i).map (·.data.toList)) [c]).toArray⟩
theorem join_snoc (sep y : List UInt8) : ∀ xs : List (List UInt8), xs ≠ [] → Lib.join (xs ++ [y]) sep = Lib.join xs sep ++ sep ++ y
  | [], h => absurd rfl h
  | x :: r, _ => by
    rw [List.cons_append, Lib.join_cons, Lib.join_cons]
    simp [Lib.joinTail, List.append_assoc]
theorem ba_append (a b : List UInt8) : (⟨a.toArray⟩ : ByteArray) ++ ⟨b.toArray⟩ = ⟨(a ++ b).toArray⟩ := by
  apply ByteArray.ext
  simp
theorem ba_self (x : ByteArray) : (⟨x.data.toList.toArray⟩ : ByteArray) = x := by
  show (⟨x.data.toList.toArray⟩ : ByteArray) = ⟨x.data⟩
  rw [Array.toArray_toList]
theorem out_succ (l : List ByteArray) (c : UInt8) (i : Nat) (h : i < l.length) : out l c (i + 1) = if i = 0 then l[i] else (out l c i ++ ⟨#[c]⟩) ++ l[i] := by
  unfold out
  rw [List.take_succ_eq_append_getElem h, List.map_append, List.map_singleton]
  by_cases h0 : i = 0
  · subst h0
    rw [if_pos rfl, List.take_zero, List.map_nil, List.nil_append, Lib.join_one]
  · have hne : (l.take i).map (·.data.toList) ≠ [] := by
      intro e
      have h3 : ((l.take i).map (·.data.toList)).length = 0 := by rw [e]; rfl
      rw [List.length_map, List.length_take] at h3
      omega
    rw [if_neg h0, join_snoc _ _ _ hne]
    rw [show (⟨#[c]⟩ : ByteArray) = ⟨([c] : List UInt8).toArray⟩ from rfl, ba_append]
    have h4 := ba_append (Lib.join ((l.take i).map (·.data.toList)) [c] ++ [c]) l[i].data.toList
    rw [ba_self] at h4
    exact h4.symm
theorem out_size (l : List ByteArray) (c : UInt8) : ∀ i, i ≤ l.length → (out l c i).size = S l i + (i - 1)
  | 0, _ => by
    have e : out l c 0 = (⟨#[]⟩ : ByteArray) := by
      unfold out
      rw [List.take_zero, List.map_nil, Lib.join_nil]
    have e2 : S l 0 = 0 := rfl
    rw [e, e2]
    rfl
  | i + 1, h => by
    have ih := out_size l c i (by omega)
    rw [out_succ l c i (by omega), S_succ l i (by omega)]
    by_cases h0 : i = 0
    · subst h0
      rw [if_pos rfl]
      simp [S]
    · rw [if_neg h0, ByteArray.size_append, ByteArray.size_append, ih]
      have : (⟨#[c]⟩ : ByteArray).size = 1 := rfl
      omega
def res (l : List ByteArray) (c : UInt8) (i : Nat) : ByteArray × Bool := if (l.drop i).all (fun x => !has x c) && decide (S l l.length + (l.length - 1) ≤ 4000) then (out l c l.length, true) else (⟨#[]⟩, false)
theorem res_bad (l : List ByteArray) (c : UInt8) (i : Nat) (h : i < l.length) (hb : has l[i] c = true) : res l c i = (⟨#[]⟩, false) := by
  unfold res
  rw [List.drop_eq_getElem_cons h, List.all_cons, hb]
  simp
theorem res_next (l : List ByteArray) (c : UInt8) (i : Nat) (h : i < l.length) (hb : has l[i] c = false) : res l c i = res l c (i + 1) := by
  unfold res
  rw [List.drop_eq_getElem_cons h, List.all_cons, hb]
  simp
theorem res_long (l : List ByteArray) (c : UInt8) (i : Nat) (h : 4000 < S l l.length + (l.length - 1)) : res l c i = (⟨#[]⟩, false) := by
  unfold res
  rw [show decide (S l l.length + (l.length - 1) ≤ 4000) = false from decide_eq_false (by omega)]
  simp
theorem res_end (l : List ByteArray) (c : UInt8) (h : S l l.length + (l.length - 1) ≤ 4000) : res l c l.length = (out l c l.length, true) := by
  unfold res
  simp [h]
theorem spec_ev (l : List ByteArray) (c : UInt8) (hl : l.length ≤ 1048576) (hS : S l l.length ≤ 1048576) (h0 : 0 < l.length) : Ev (fun k => spec_JoinStrings.l0 k l ⟨#[c]⟩ ⟨#[]⟩ 0) (res l c 0) := by
  have hsz1 : (⟨#[c]⟩ : ByteArray).size = 1 := rfl
  have key : ∀ d i, l.length - i = d → i ≤ l.length → (0 < i → S l i + (i - 1) ≤ 4000) → Ev (fun k => spec_JoinStrings.l0 k l ⟨#[c]⟩ (out l c i) (i : Int)) (res l c i) := by
    intro d
    induction d with
    | zero =>
      intro i hd hi hs
      obtain rfl : i = l.length := by omega
      refine Ev.step (fun q => by rw [spec_JoinStrings.l0]) ?_
      rw [res_end l c (hs h0)]
      simp only [Int.lt_irrefl, if_false]
      exact Ev.now _
    | succ d ih =>
      intro i hd hi hs
      have hlt : i < l.length := by omega
      have a3 : (i : Int) < (l.length : Int) := by omega
      have a4 : (0 : Int) ≤ (i : Int) := by omega
      have hs1 := S_succ l i hlt
      have hs2 := S_le l (i + 1) (by omega)
      have hx : l[i].size ≤ 1048576 := by omega
      have hb : bt (⟨#[c]⟩ : ByteArray) 0 = (c.toNat : Int) := bt_nat ⟨#[c]⟩ 0 (by rw [hsz1]; omega)
      refine Ev.step (fun q => by rw [spec_JoinStrings.l0]) ?_
      simp only [a3, a4, if_true, hsz1, rdS l i hlt, hb, show (0 : Int) < ((1 : Nat) : Int) by omega]
      refine Ev.bind (stands_ev l[i] c hx) ?_
      cases hh : has l[i] c with
      | true =>
        rw [res_bad l c i hlt hh]
        simp only [if_true]
        exact Ev.now _
      | false =>
        rw [res_next l c i hlt hh]
        simp only [Bool.false_eq_true, if_false, w64 i (by omega)]
        have ho := out_succ l c i hlt
        have hz := out_size l c i (by omega)
        have hz1 := out_size l c (i + 1) (by omega)
        have fin : Ev (fun k => if ((out l c (i + 1)).size : Int) > 4000 then some ((⟨#[]⟩ : ByteArray), false) else spec_JoinStrings.l0 k l ⟨#[c]⟩ (out l c (i + 1)) ((i + 1 : Nat) : Int)) (res l c (i + 1)) := by
          by_cases hg : ((out l c (i + 1)).size : Int) > 4000
          · rw [res_long l c (i + 1) (by omega)]
            simp only [hg, if_true]
            exact Ev.now _
          · simp only [hg, if_false]
            exact ih (i + 1) (by omega) (by omega) (fun _ => by omega)
        by_cases hi0 : i = 0
        · subst hi0
          have e0 : out l c 0 = (⟨#[]⟩ : ByteArray) := by simp [out, Lib.join_nil]
          have e1 : (⟨#[]⟩ : ByteArray) ++ l[0] = l[0] := by apply ByteArray.ext; simp
          have e2 : (⟨#[]⟩ : ByteArray).size = 0 := rfl
          rw [if_pos rfl] at ho
          simp only [e0, e1, e2, show ¬ ((0 : Nat) : Int) > 0 by omega, if_false, show 0 + l[0].size ≤ 9223372036854775807 by omega, if_true]
          rw [ho] at fin
          exact fin
        · rw [if_neg hi0] at ho
          simp only [show (i : Int) > 0 by omega, if_true, hsz1, show (out l c i).size + 1 ≤ 9223372036854775807 by omega, ByteArray.size_append, show (out l c i).size + 1 + l[i].size ≤ 9223372036854775807 by omega]
          rw [ho] at fin
          simp only [ByteArray.size_append, hsz1] at fin
          exact fin
  have h := key l.length 0 (by omega) (by omega) (fun h => absurd h (Nat.lt_irrefl _))
  have e0 : out l c 0 = (⟨#[]⟩ : ByteArray) := by simp [out, Lib.join_nil]
  rw [e0] at h
  exact h
theorem contains_f (x : ByteArray) (c : UInt8) : strings_Contains.f x ⟨#[c]⟩ = some (has x c) := by
  unfold strings_Contains.f
  rw [if_pos (show (⟨#[c]⟩ : ByteArray).size = 1 from rfl)]
  rfl
theorem impl_ev (l : List ByteArray) (c : UInt8) (hl : l.length ≤ 1048576) (hS : S l l.length ≤ 1048576) (h0 : 0 < l.length) : Ev (fun k => impl_JoinStrings.l0 k l ⟨#[c]⟩ ((l.length - 1 : Nat) : Int) l (l.length : Int) 0) (res l c 0) := by
  have key : ∀ d i, l.length - i = d → i ≤ l.length → (0 < i → l.length - 1 + S l i ≤ 4000) → Ev (fun k => impl_JoinStrings.l0 k l ⟨#[c]⟩ ((l.length - 1 + S l i : Nat) : Int) l (l.length : Int) (i : Int)) (res l c i) := by
    intro d
    induction d with
    | zero =>
      intro i hd hi hs
      obtain rfl : i = l.length := by omega
      have hs := hs h0
      refine Ev.step (fun q => by rw [impl_JoinStrings.l0]) ?_
      rw [res_end l c (by omega)]
      have hz := out_size l c l.length (Nat.le_refl _)
      have hj : strings_Join.f l ⟨#[c]⟩ = some (out l c l.length) := by
        unfold strings_Join.f
        have e : out l c l.length = ⟨(Lib.join (l.map (·.data.toList)) [c]).toArray⟩ := by unfold out; rw [List.take_length]
        have e2 : (out l c l.length).size = (Lib.join (l.map (·.data.toList)) [c]).length := by rw [e]; simp [ByteArray.size]
        rw [if_pos ⟨by show (Lib.join (l.map (·.data.toList)) [c]).length ≤ _; omega, by omega⟩, e]
      simp only [Int.lt_irrefl, if_false, hj, Option.bind_some]
      exact Ev.now _
    | succ d ih =>
      intro i hd hi hs
      have hlt : i < l.length := by omega
      have a3 : (i : Int) < (l.length : Int) := by omega
      have a4 : (0 : Int) ≤ (i : Int) := by omega
      have hs1 := S_succ l i hlt
      have hs2 := S_le l (i + 1) (by omega)
      have hw : wrap64 (((l.length - 1 + S l i : Nat) : Int) + (l[i].size : Int)) = ((l.length - 1 + S l (i + 1) : Nat) : Int) := by unfold wrap64; omega
      refine Ev.step (fun q => by rw [impl_JoinStrings.l0]) ?_
      simp only [a3, a4, if_true, rdS l i hlt, hw, contains_f, Option.bind_some, w64 i (by omega)]
      by_cases hg : ((l.length - 1 + S l (i + 1) : Nat) : Int) > 4000
      · rw [res_long l c i (by omega)]
        simp only [hg, if_true]
        exact Ev.now _
      · simp only [hg, if_false]
        cases hh : has l[i] c with
        | true =>
          rw [res_bad l c i hlt hh]
          simp only [if_true]
          exact Ev.now _
        | false =>
          rw [res_next l c i hlt hh]
          simp only [Bool.false_eq_true, if_false]
          exact ih (i + 1) (by omega) (by omega) (fun _ => by omega)
  have h := key l.length 0 (by omega) (by omega) (fun h => absurd h (Nat.lt_irrefl _))
  have e0 : S l 0 = 0 := by simp [S]
  rw [e0, Nat.add_zero] at h
  exact h
theorem sz_ev (l : List ByteArray) (hl : l.length ≤ 9223372036854775807) (hb : ∀ y ∈ l, y.size ≤ maxLen) : ∃ t, Ev (fun k => laws_szStringS.f k l 1048576) t ∧ (t < 0 ∨ (0 ≤ t ∧ l.length ≤ 1048576 ∧ S l l.length ≤ 1048576)) := by
  have hw0 : wrap64 (1048576 - (l.length : Int)) = 1048576 - (l.length : Int) := by unfold wrap64; omega
  by_cases h : 1048576 < l.length
  · refine ⟨-1, ?_, .inl (by omega)⟩
    unfold laws_szStringS.f
    simp only [hw0, show 1048576 - (l.length : Int) < 0 by omega, if_true]
    exact Ev.now _
  · have key : ∀ d i, l.length - i = d → i ≤ l.length → l.length + S l i ≤ 1048576 → ∃ t, Ev (fun k => laws_szStringS.l0 k l ((1048576 - (l.length + S l i) : Nat) : Int) (i : Int)) t ∧ (t < 0 ∨ (0 ≤ t ∧ S l l.length ≤ 1048576)) := by
      intro d
      induction d with
      | zero =>
        intro i hd hi hs
        obtain rfl : i = l.length := by omega
        refine ⟨_, Ev.step (fun q => by rw [laws_szStringS.l0]) ?_, .inr ⟨Int.natCast_nonneg (1048576 - (l.length + S l l.length)), by omega⟩⟩
        simp only [Int.lt_irrefl, if_false]
        exact Ev.now _
      | succ d ih =>
        intro i hd hi hs
        have hlt : i < l.length := by omega
        have a3 : (i : Int) < (l.length : Int) := by omega
        have a4 : (0 : Int) ≤ (i : Int) := by omega
        have hs1 := S_succ l i hlt
        have hm : l[i].size ≤ 9223372036854775807 := by have := hb l[i] (List.getElem_mem hlt); simpa [maxLen] using this
        have hw : wrap64 (((1048576 - (l.length + S l i) : Nat) : Int) - (l[i].size : Int)) = ((1048576 - (l.length + S l i) : Nat) : Int) - (l[i].size : Int) := by unfold wrap64; omega
        by_cases hg : l.length + S l (i + 1) ≤ 1048576
        · obtain ⟨t, h1, h2⟩ := ih (i + 1) (by omega) (by omega) hg
          refine ⟨t, Ev.step (fun q => by rw [laws_szStringS.l0]) ?_, h2⟩
          have e : ((1048576 - (l.length + S l i) : Nat) : Int) - (l[i].size : Int) = ((1048576 - (l.length + S l (i + 1)) : Nat) : Int) := by omega
          have hw2 := hw.trans e
          simp only [a3, a4, if_true, rdS l i hlt, hw2, show ¬ ((1048576 - (l.length + S l (i + 1)) : Nat) : Int) < 0 by omega, if_false, w64 i (by omega)]
          exact h1
        · refine ⟨-1, Ev.step (fun q => by rw [laws_szStringS.l0]) ?_, .inl (by omega)⟩
          simp only [a3, a4, if_true, rdS l i hlt, hw, show ((1048576 - (l.length + S l i) : Nat) : Int) - (l[i].size : Int) < 0 by omega]
          exact Ev.now _
    have e0 : S l 0 = 0 := by simp [S]
    obtain ⟨t, h1, h2⟩ := key l.length 0 (by omega) (by omega) (by omega)
    refine ⟨t, ?_, by rcases h2 with h2 | h2; exact .inl h2; exact .inr ⟨h2.1, by omega, h2.2⟩⟩
    unfold laws_szStringS.f
    simp only [hw0, show ¬ 1048576 - (l.length : Int) < 0 by omega, if_false]
    rw [e0, Nat.add_zero] at h1
    rw [show 1048576 - (l.length : Int) = ((1048576 - l.length : Nat) : Int) by omega]
    exact h1
theorem to_ev (l : List ByteArray) (hl : l.length ≤ 1048576) : Ev (fun k => laws_toStringS.f k l) l := by
  have key : ∀ d i, l.length - i = d → i ≤ l.length → Ev (fun k => laws_toStringS.l0 k l (l.take i ++ List.replicate (l.length - i) (⟨#[]⟩ : ByteArray)) (i : Int)) l := by
    intro d
    induction d with
    | zero =>
      intro i hd hi
      obtain rfl : i = l.length := by omega
      refine Ev.step (fun q => by rw [laws_toStringS.l0]) ?_
      simp only [Int.lt_irrefl, if_false, List.take_length, Nat.sub_self, List.replicate_zero, List.append_nil]
      exact Ev.now _
    | succ d ih =>
      intro i hd hi
      have hlt : i < l.length := by omega
      have a3 : (i : Int) < (l.length : Int) := by omega
      have a4 : (0 : Int) ≤ (i : Int) := by omega
      have e1 : (l.take i ++ List.replicate (l.length - i) (⟨#[]⟩ : ByteArray)).length = l.length := by simp; omega
      have e2 : (l.take i ++ List.replicate (l.length - i) (⟨#[]⟩ : ByteArray)).set i l[i] = l.take (i + 1) ++ List.replicate (l.length - (i + 1)) (⟨#[]⟩ : ByteArray) := by
        have hti : (l.take i).length = i := by rw [List.length_take]; omega
        rw [List.set_append_right _ _ (by omega), hti, Nat.sub_self, show l.length - i = (l.length - (i + 1)) + 1 by omega, List.replicate_succ, List.set_cons_zero, List.take_succ_eq_append_getElem hlt, List.append_assoc]
        rfl
      refine Ev.step (fun q => by rw [laws_toStringS.l0]) ?_
      simp only [a3, a4, if_true, e1, rdS l i hlt, Int.toNat_natCast, e2, w64 i (by omega)]
      exact ih (i + 1) (by omega) (by omega)
  have h := key l.length 0 (by omega) (by omega)
  unfold laws_toStringS.f
  simp only [show (0 : Int) ≤ (l.length : Int) by omega, if_true, Int.toNat_natCast, show l.length ≤ 17592186044416 by omega]
  exact h
theorem eq_ev (l : List ByteArray) (hl : l.length ≤ 1048576) : Ev (fun k => laws_eqStringS.f k l l) true := by
  have key : ∀ d i, l.length - i = d → i ≤ l.length → Ev (fun k => laws_eqStringS.l0 k l l (i : Int)) true := by
    intro d
    induction d with
    | zero =>
      intro i hd hi
      obtain rfl : i = l.length := by omega
      refine Ev.step (fun q => by rw [laws_eqStringS.l0]) ?_
      simp only [Int.lt_irrefl, if_false]
      exact Ev.now _
    | succ d ih =>
      intro i hd hi
      have a3 : (i : Int) < (l.length : Int) := by omega
      have a4 : (0 : Int) ≤ (i : Int) := by omega
      refine Ev.step (fun q => by rw [laws_eqStringS.l0]) ?_
      simp only [a3, a4, if_true, w64 i (by omega)]
      exact ih (i + 1) (by omega) (by omega)
  unfold laws_eqStringS.f
  simp only [if_true]
  exact key l.length 0 (by omega) (by omega)
theorem both (l : List ByteArray) (a : ByteArray) (hl : l.length ≤ 1048576) (hS : S l l.length ≤ 1048576) : ∃ A, Ev (fun k => spec_JoinStrings.f k l a) A ∧ Ev (fun k => impl_JoinStrings.f k l a) A := by
  have noS : Ev (fun k => spec_JoinStrings.j0 k l a true) (⟨#[]⟩, false) := Ev.step (fun q => by rw [spec_JoinStrings.j0]) (by simp only [if_true]; exact Ev.now _)
  have noI : Ev (fun k => impl_JoinStrings.j0 k l a true) (⟨#[]⟩, false) := Ev.step (fun q => by rw [impl_JoinStrings.j0]) (by simp only [if_true]; exact Ev.now _)
  unfold spec_JoinStrings.f impl_JoinStrings.f
  by_cases h1 : a.size = 1
  · have e1 : ((a.size : Int) != 1) = false := by simp [h1]
    simp only [show (a.size : Int) = 1 by omega, if_true]
    by_cases h0 : l.length = 0
    · have e0 : ((l.length : Int) == 0) = true := by simp [h0]
      simp only [e0, show (l.length : Int) = 0 by omega, if_true]
      exact ⟨_, noS, noI⟩
    · have e0 : ((l.length : Int) == 0) = false := beq_eq_false_iff_ne.2 (by omega)
      have e2 : ((1 : Int) != 1) = false := by simp
      obtain ⟨⟨q⟩⟩ := a
      match q, h1 with
      | [c], _ =>
        simp only [e0, show ¬ (l.length : Int) = 0 by omega, if_false]
        refine ⟨res l c 0, Ev.step (fun q => by rw [spec_JoinStrings.j0]) ?_, ?_⟩
        · simp only [Bool.false_eq_true, if_false]
          exact spec_ev l c hl hS (by omega)
        · rw [e2]
          refine Ev.step (fun q => by rw [impl_JoinStrings.j0]) ?_
          have hw : wrap64 ((l.length : Int) - 1) = ((l.length - 1 : Nat) : Int) := by unfold wrap64; omega
          simp only [Bool.false_eq_true, if_false, hw]
          exact impl_ev l c hl hS (by omega)
  · have e1 : ((a.size : Int) != 1) = true := by simp; omega
    simp only [show ¬ (a.size : Int) = 1 by omega, if_false, e1]
    refine ⟨_, noS, ?_⟩
    split
    · exact noI
    · exact noI
theorem FnExactJoinStrings : ∀ (l0 : List ByteArray) (a1 : ByteArray), ((l0.length ≤ 9223372036854775807) ∧ ∀ y2 ∈ l0, y2.size ≤ maxLen) → (a1.size ≤ maxLen) → ∃ k, laws_FnExactJoinStrings.f k l0 a1 = some true := by
  intro l a g0 _
  refine Ev.rounds ?_
  unfold laws_FnExactJoinStrings.f
  by_cases ha : (a.size : Int) > 1048576
  · simp only [ha, if_true]
    exact Ev.now _
  · simp only [ha, if_false]
    obtain ⟨t, ht, hc⟩ := sz_ev l g0.1 g0.2
    refine Ev.bind ht ?_
    rcases hc with hc | ⟨h0, hl, hS⟩
    · simp only [hc, if_true]
      exact Ev.now _
    · obtain ⟨A, hs, hi⟩ := both l a hl hS
      simp only [show ¬ t < 0 by omega, if_false]
      refine Ev.bind (to_ev l hl) ?_
      refine Ev.bind hs ?_
      refine Ev.bind (to_ev l hl) ?_
      refine Ev.bind hi ?_
      simp only [if_true, bne_self_eq_false]
      refine Ev.step (fun q => by rw [laws_FnExactJoinStrings.j0]) ?_
      simp only [Bool.false_eq_true, if_false]
      refine Ev.bind (to_ev l hl) ?_
      refine Ev.bind (eq_ev l hl) ?_
      simp only [if_true]
      exact Ev.now _
end Go.Proofs.Ytdmbboijcaelcaa.Pure
