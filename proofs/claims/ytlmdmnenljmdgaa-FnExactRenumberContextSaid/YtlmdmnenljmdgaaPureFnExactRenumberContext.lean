/- The law FnExactRenumberContext answers true at every record and two numbers. No conditions. -/
import Derived.Test.YtlmdmnenljmdgaaQ0
import Derived.Test.YtlmdmnenljmdgaaQF51
import Derived.Test.YtlmdmnenljmdgaaQF19
import Derived.Test.YtlmdmnenljmdgaaQF47
import Derived.Test.YtlmdmnenljmdgaaQF72
import Derived.Test.YtlmdmnenljmdgaaQF50
import Derived.Test.YtlmdmnenljmdgaaQV1
import Derived.Test.YtlmdmnenljmdgaaQF53
import Derived.Test.YtlmdmnenljmdgaaQF57
import Derived.Test.YtlmdmnenljmdgaaQF23
import Derived.Test.YtlmdmnenljmdgaaQF6
import Derived.Test.YtlmdmnenljmdgaaQF22
namespace Go.Proofs.Ytlmdmnenljmdgaa.Pure
open Go.RowKit Go.Proofs.Ytlmdmnenljmdgaa.Q Go.Proofs.YtlmdmnenljmdgaaW.PrintWords
set_option linter.unusedVariables false
set_option linter.unusedSimpArgs false
theorem Ev.some {α : Type} (r : α) : Ev (fun _ => Option.some r) r := Ev.now r
theorem w64 (i : Nat) (h : i ≤ 4611686018427387904) : wrap64 ((i : Int) + 1) = ((i + 1 : Nat) : Int) := by unfold wrap64; omega
theorem rdC (l : List S44) (i : Nat) (h : i < l.length) : rd_T44 l (i : Int) = l[i] := by simp [rd_T44, List.getD_eq_getElem?_getD, List.getElem?_eq_getElem h]
theorem rdR (l : List S36) (i : Nat) (h : i < l.length) : rd_T36 l (i : Int) = l[i] := by simp [rd_T36, List.getD_eq_getElem?_getD, List.getElem?_eq_getElem h]
theorem getDC (cs : List S44) (i : Nat) (h : i < cs.length) : cs.getD i z44 = cs[i] := by simp [List.getD_eq_getElem?_getD, List.getElem?_eq_getElem h]
def cvC (x : S42) : S44 := ⟨x.f0, x.f1⟩
def cvR (x : S27) : S36 := ⟨x.f0, x.f1⟩
theorem rel_ne (cs : List S44) : ∀ (rs : List S36) (p : Option S36), relOk cs p rs = true → ∀ x ∈ rs, x.f0 ≠ x.f1
  | [], _, _, x, hx => by simp at hx
  | c :: r, p, h, x, hx => by
    simp only [relOk, Bool.and_eq_true] at h
    rcases List.mem_cons.1 hx with rfl | hx
    · have := h.1.1.1.1; simpa using this
    · exact rel_ne cs r _ h.2 x hx
theorem rel_sorted (cs : List S44) : ∀ (rs : List S36) (p : Option S36), relOk cs p rs = true → rs.Pairwise (fun a b => before a b = true) ∧ (∀ q, p = some q → ∀ c, c ∈ rs → before q c = true)
  | [], _, _ => ⟨List.Pairwise.nil, fun _ _ _ h => by simp at h⟩
  | c :: r, p, h => by
    simp only [relOk, Bool.and_eq_true] at h
    obtain ⟨h1, h2⟩ := rel_sorted cs r _ h.2
    refine ⟨List.pairwise_cons.2 ⟨fun d hd => h2 _ rfl d hd, h1⟩, fun q hq d hd => ?_⟩
    subst hq
    have hqc : before q c = true := by simpa using h.1.2
    rcases List.mem_cons.1 hd with rfl | hd
    · exact hqc
    · exact bef_tr hqc (h2 _ rfl d hd)
theorem good_parts {cs : List S44} {rs : List S36} (h : goodB cs rs = true) : cs.length ≤ 10 ∧ rs.length ≤ 24 ∧ cs.Pairwise (fun a b => a.f0 < b.f0) ∧ rs.Pairwise (fun a b => before a b = true) ∧ ∀ x ∈ rs, x.f0 ≠ x.f1 := by
  have h1 := goodB_ctx h
  simp only [goodB, Bool.and_eq_true, decide_eq_true_eq] at h
  exact ⟨h.1.1.1, h.1.1.2, h1, (rel_sorted cs rs _ h.2).1, rel_ne cs rs _ h.2⟩
theorem tidyR_mem (rs : List S36) (x : S36) : x ∈ tidyR rs ↔ x ∈ rs ∧ x.f0 ≠ x.f1 := by
  show x ∈ cptTo (sortR (selfless rs)) (sortR (selfless rs)).length ↔ _
  rw [cptTo_mem _ _ _ (Nat.le_refl _), List.take_length, (show (sortR (selfless rs)).Perm (selfless rs) from List.mergeSort_perm _ _).mem_iff]
  simp [selfless]
theorem tidyR_strict (rs : List S36) : (tidyR rs).Pairwise fun a b => before a b = true := cptTo_strict (sortR_sorted _) _ (Nat.le_refl _)
/-- What is strictly sorted and has the right elements is what tidying makes. -/
theorem tidyR_is {rs l : List S36} (hs : l.Pairwise fun a b => before a b = true) (hm : ∀ x, x ∈ l ↔ x ∈ rs ∧ x.f0 ≠ x.f1) : tidyR rs = l :=
  sx (fun a b => before a b = true) bef_irr (fun a b c => bef_tr) _ _ (tidyR_strict rs) hs (fun x => by rw [tidyR_mem, hm])
theorem own_f (cs : List S44) (rs : List S36) (hc : cs.length ≤ 1048576) (hr : rs.length ≤ 1048576) : spec_l2Own.f cs rs = some (cs, rs) := by
  unfold spec_l2Own.f
  simp only [Option.bind_some, List.length_nil, Nat.zero_add, List.nil_append, show cs.length < 8796093022208 by omega, show rs.length < 8796093022208 by omega, if_true]
/-- The reference's place for a context. -/
theorem put_ev (cs : List S44) (rs : List S36) (a b : Int) (hc : cs.length ≤ 1048576) (hr : rs.length ≤ 1048576) : ∃ m, m ≤ cs.length ∧ (∀ j (h : j < cs.length), j < m → cs[j].f0 < a) ∧ (∀ h : m < cs.length, ¬ cs[m].f0 < a) ∧ Ev (fun k => spec_l2Put.f k cs rs a b) (cs.take m ++ ⟨a, b⟩ :: cs.drop m, rs) := by
  have key : ∀ d i, cs.length - i = d → i ≤ cs.length → (∀ j (h : j < cs.length), j < i → cs[j].f0 < a) → ∃ m, m ≤ cs.length ∧ (∀ j (h : j < cs.length), j < m → cs[j].f0 < a) ∧ (∀ h : m < cs.length, ¬ cs[m].f0 < a) ∧ Ev (fun k => spec_l2Put.l0 k (i : Int) cs rs a b) (cs.take m ++ ⟨a, b⟩ :: cs.drop m, rs) := by
    intro d
    induction d with
    | zero =>
      intro i hd hi hj
      obtain rfl : i = cs.length := by omega
      refine ⟨cs.length, Nat.le_refl _, fun j h hlt => hj j h hlt, fun h => absurd h (Nat.lt_irrefl _), ?_⟩
      refine Ev.step (fun q => by rw [spec_l2Put.l0]) ?_
      simp only [Int.lt_irrefl, if_false, own_f cs rs hc hr, Option.bind_some, show (0 : Int) ≤ (cs.length : Int) by omega, Int.le_refl, if_true, Int.toNat_natCast, List.take_length, List.drop_length, List.nil_append, List.length_nil, Nat.zero_add, List.length_append, List.length_singleton, List.append_nil, show cs.length < 8796093022208 by omega, show cs.length + 1 < 8796093022208 by omega, show cs.length + 1 + 0 < 8796093022208 by omega]
      exact Ev.now _
    | succ d ih =>
      intro i hd hi hj
      have hlt : i < cs.length := by omega
      have a3 : (i : Int) < (cs.length : Int) := by omega
      have a4 : (0 : Int) ≤ (i : Int) := by omega
      by_cases h : cs[i].f0 < a
      · obtain ⟨m, h1, h2, h3, h4⟩ := ih (i + 1) (by omega) (by omega) (fun j hl hlt2 => by
          by_cases e : j = i
          · subst e; exact h
          · exact hj j hl (by omega))
        refine ⟨m, h1, h2, h3, Ev.step (fun q => by rw [spec_l2Put.l0]) ?_⟩
        simp only [a3, a4, if_true, rdC cs i hlt, h, w64 i (by omega)]
        exact h4
      · refine ⟨i, hi, hj, fun _ => h, Ev.step (fun q => by rw [spec_l2Put.l0]) ?_⟩
        have e1 : (cs.take i).length = i := by rw [List.length_take]; omega
        have e2 : (cs.drop i).length = cs.length - i := List.length_drop
        simp only [a3, a4, if_true, rdC cs i hlt, h, if_false, own_f cs rs hc hr, Option.bind_some, show (i : Int) ≤ (cs.length : Int) by omega, Int.toNat_natCast, List.nil_append, List.length_nil, Nat.zero_add, List.length_append, List.length_singleton, e1, e2, show i < 8796093022208 by omega, show i + 1 < 8796093022208 by omega, show i + 1 + (cs.length - i) < 8796093022208 by omega, List.append_assoc, List.singleton_append]
        exact Ev.now _
  exact key cs.length 0 (by omega) (by omega) (fun j _ h => absurd h (Nat.not_lt_zero _))
/-- A context that is put to its place: sorted, and the same elements. -/
theorem put_sorted {cs : List S44} (hs : cs.Pairwise fun a b => a.f0 < b.f0) (c : S44) (m : Nat) (hm : m ≤ cs.length) (h1 : ∀ j (h : j < cs.length), j < m → cs[j].f0 < c.f0) (h2 : ∀ h : m < cs.length, ¬ cs[m].f0 < c.f0) : (cs.take m ++ c :: cs.drop m).Perm (cs ++ [c]) ∧ (cs.take m ++ c :: cs.drop m).Pairwise fun a b => Go.Proofs.ltOf cfC b a = false := by
  constructor
  · have h3 : (cs.take m ++ ([c] ++ cs.drop m)).Perm (cs.take m ++ (cs.drop m ++ [c])) := List.Perm.append_left _ List.perm_append_comm
    have e : cs.take m ++ (cs.drop m ++ [c]) = cs ++ [c] := by rw [← List.append_assoc, List.take_append_drop]
    rw [e] at h3
    exact h3
  · have hs2 := List.pairwise_iff_getElem.1 hs
    have key : (cs.take m ++ c :: cs.drop m).Pairwise fun a b => a.f0 ≤ b.f0 := by
      rw [List.pairwise_append]
      refine ⟨(hs.sublist (List.take_sublist _ _)).imp fun h => by omega, ?_, ?_⟩
      · rw [List.pairwise_cons]
        refine ⟨fun x hx => ?_, (hs.sublist (List.drop_sublist _ _)).imp fun h => by omega⟩
        obtain ⟨j, hj, rfl⟩ := List.mem_iff_getElem.1 hx
        rw [List.length_drop] at hj
        rw [List.getElem_drop]
        have h3 := h2 (by omega)
        by_cases e : j = 0
        · subst e; simp only [Nat.add_zero]; omega
        · have := hs2 m (m + j) (by omega) (by omega) (by omega); omega
      · intro x hx y hy
        obtain ⟨j, hj, rfl⟩ := List.mem_iff_getElem.1 hx
        rw [List.length_take] at hj
        rw [List.getElem_take]
        have h3 := h1 j (by omega) (by omega)
        rcases List.mem_cons.1 hy with rfl | hy
        · omega
        · obtain ⟨q, hq, rfl⟩ := List.mem_iff_getElem.1 hy
          rw [List.length_drop] at hq
          rw [List.getElem_drop]
          have := hs2 j (m + q) (by omega) (by omega) (by omega); omega
    exact key.imp fun h => by rw [ltC]; simp; omega
theorem bef_f (a b : S36) : spec_l2Before.f a.f0 a.f1 b.f0 b.f1 = some (before a b) := by
  unfold spec_l2Before.f before
  by_cases h : a.f0 < b.f0
  · simp [h]
  · by_cases h2 : a.f0 = b.f0
    · simp [h2]
    · simp [h, h2]
/-- What the reference's linking makes. -/
def linked (rs : List S36) (x : S36) : List S36 := tidyR (rs ++ [x])
theorem link_ev (cs : List S44) (rs : List S36) (x : S36) (hc : cs.length ≤ 1048576) (hr : rs.length ≤ 1048576) (hs : rs.Pairwise fun a b => before a b = true) (hn : ∀ y ∈ rs, y.f0 ≠ y.f1) (hx : x.f0 ≠ x.f1) : Ev (fun k => spec_l2Link.f k cs rs x.f0 x.f1) (cs, linked rs x) := by
  have hs2 := List.pairwise_iff_getElem.1 hs
  have key : ∀ d i, rs.length - i = d → i ≤ rs.length → (∀ j (h : j < rs.length), j < i → before rs[j] x = true) → Ev (fun k => spec_l2Link.l0 k (i : Int) cs rs x.f0 x.f1) (cs, linked rs x) := by
    have ins : ∀ i, i ≤ rs.length → (∀ j (h : j < rs.length), j < i → before rs[j] x = true) → (∀ h : i < rs.length, before x rs[i] = true) → rs.take i ++ x :: rs.drop i = linked rs x := by
      intro i hi h1 h2
      refine (tidyR_is ?_ (fun y => ?_)).symm
      · rw [List.pairwise_append]
        refine ⟨hs.sublist (List.take_sublist _ _), ?_, ?_⟩
        · rw [List.pairwise_cons]
          refine ⟨fun y hy => ?_, hs.sublist (List.drop_sublist _ _)⟩
          obtain ⟨j, hj, rfl⟩ := List.mem_iff_getElem.1 hy
          rw [List.length_drop] at hj
          rw [List.getElem_drop]
          have h3 := h2 (by omega)
          by_cases e : j = 0
          · subst e; exact h3
          · exact bef_tr h3 (hs2 i (i + j) (by omega) (by omega) (by omega))
        · intro y hy z hz
          obtain ⟨j, hj, rfl⟩ := List.mem_iff_getElem.1 hy
          rw [List.length_take] at hj
          rw [List.getElem_take]
          have h3 := h1 j (by omega) (by omega)
          rcases List.mem_cons.1 hz with rfl | hz
          · exact h3
          · obtain ⟨q, hq, rfl⟩ := List.mem_iff_getElem.1 hz
            rw [List.length_drop] at hq
            rw [List.getElem_drop]
            exact hs2 j (i + q) (by omega) (by omega) (by omega)
      · have e : y ∈ rs.take i ++ x :: rs.drop i ↔ y ∈ rs ∨ y = x := by
          rw [List.mem_append, List.mem_cons]
          conv => rhs; rw [← List.take_append_drop i rs, List.mem_append]
          constructor
          · rintro (h | h | h)
            · exact .inl (.inl h)
            · exact .inr h
            · exact .inl (.inr h)
          · rintro ((h | h) | h)
            · exact .inl h
            · exact .inr (.inr h)
            · exact .inr (.inl h)
        rw [e, List.mem_append, List.mem_singleton]
        constructor
        · rintro (h | rfl)
          · exact ⟨.inl h, hn y h⟩
          · exact ⟨.inr rfl, hx⟩
        · exact fun h => h.1
    intro d
    induction d with
    | zero =>
      intro i hd hi hj
      obtain rfl : i = rs.length := by omega
      rw [← ins rs.length (Nat.le_refl _) hj (fun h => absurd h (Nat.lt_irrefl _))]
      refine Ev.step (fun q => by rw [spec_l2Link.l0]) ?_
      simp only [Int.lt_irrefl, if_false, own_f cs rs hc hr, Option.bind_some, show (0 : Int) ≤ (rs.length : Int) by omega, Int.le_refl, if_true, Int.toNat_natCast, List.take_length, List.drop_length, List.nil_append, List.length_nil, Nat.zero_add, List.length_append, List.length_singleton, List.append_nil, show rs.length < 8796093022208 by omega, show rs.length + 1 < 8796093022208 by omega, show rs.length + 1 + 0 < 8796093022208 by omega]
      exact Ev.now _
    | succ d ih =>
      intro i hd hi hj
      have hlt : i < rs.length := by omega
      have a3 : (i : Int) < (rs.length : Int) := by omega
      have a4 : (0 : Int) ≤ (i : Int) := by omega
      refine Ev.step (fun q => by rw [spec_l2Link.l0]) ?_
      simp only [a3, a4, if_true, rdR rs i hlt, bef_f rs[i] x, Option.bind_some, w64 i (by omega)]
      cases hb : before rs[i] x with
      | true =>
        simp only [if_true]
        exact ih (i + 1) (by omega) (by omega) (fun j hl hlt2 => by
          by_cases e : j = i
          · subst e; exact hb
          · exact hj j hl (by omega))
      | false =>
        simp only [Bool.false_eq_true, if_false, own_f cs rs hc hr, Option.bind_some]
        by_cases he : rs[i] = x
        · have e1 : (rs[i].f0 == x.f0 && (rs[i].f1 == x.f1)) = true := by rw [he]; simp
          simp only [e1, if_true]
          have e2 : linked rs x = rs := by
            refine tidyR_is hs (fun y => ?_)
            rw [List.mem_append, List.mem_singleton]
            constructor
            · exact fun h => ⟨.inl h, hn y h⟩
            · rintro ⟨h | rfl, _⟩
              · exact h
              · rw [← he]; exact List.getElem_mem hlt
          rw [e2]
          exact Ev.now _
        · have e1 : ¬ (rs[i].f0 == x.f0 && (rs[i].f1 == x.f1)) = true := by
            intro h
            exact he ((eqR_iff _ _).1 h)
          have hb2 : before x rs[i] = true := by
            cases h : before x rs[i] with
            | true => rfl
            | false => exact absurd (bef_tot hb h) he
          rw [← ins i hi hj (fun _ => hb2)]
          have e3 : (rs.take i).length = i := by rw [List.length_take]; omega
          have e4 : (rs.drop i).length = rs.length - i := List.length_drop
          simp only [e1, if_false, show (i : Int) ≤ (rs.length : Int) by omega, if_true, Int.toNat_natCast, Option.bind_some, List.nil_append, List.length_nil, Nat.zero_add, List.length_append, List.length_singleton, e3, e4, show i < 8796093022208 by omega, show i + 1 < 8796093022208 by omega, show i + 1 + (rs.length - i) < 8796093022208 by omega, List.append_assoc, List.singleton_append]
          exact Ev.now _
  exact key rs.length 0 (by omega) (by omega) (fun j _ h => absurd h (Nat.not_lt_zero _))
theorem tidyR_len (rs : List S36) : (tidyR rs).length ≤ rs.length := by
  have h1 : ∀ (xs : List S36) m, (cptTo xs m).length ≤ m := by
    intro xs m
    induction m with
    | zero => simp [cptTo]
    | succ m ih =>
      rw [cptTo_succ]
      split
      · rw [List.length_append, List.length_singleton]; omega
      · omega
  have h2 : (sortR (selfless rs)).length = (selfless rs).length := List.length_mergeSort _
  have h3 : (selfless rs).length ≤ rs.length := List.length_filter_le _ _
  have h4 := h1 (sortR (selfless rs)) (sortR (selfless rs)).length
  show (cptTo (sortR (selfless rs)) (sortR (selfless rs)).length).length ≤ _
  omega
theorem tidyR_snoc (L : List S36) (y : S36) : tidyR (L ++ [y]) = if y.f0 = y.f1 then tidyR L else linked (tidyR L) y := by
  by_cases h : y.f0 = y.f1
  · rw [if_pos h]
    refine tidyR_is (tidyR_strict L) (fun x => ?_)
    rw [tidyR_mem, List.mem_append, List.mem_singleton]
    constructor
    · exact fun h2 => ⟨.inl h2.1, h2.2⟩
    · rintro ⟨h2 | rfl, h3⟩
      · exact ⟨h2, h3⟩
      · exact absurd h h3
  · rw [if_neg h]
    refine tidyR_is (tidyR_strict _) (fun x => ?_)
    rw [show linked (tidyR L) y = tidyR (tidyR L ++ [y]) from rfl, tidyR_mem, List.mem_append, List.mem_append, List.mem_singleton, tidyR_mem]
    constructor
    · rintro ⟨h2 | rfl, h3⟩
      · exact ⟨.inl h2.1, h3⟩
      · exact ⟨.inr rfl, h3⟩
    · rintro ⟨h2 | rfl, h3⟩
      · exact ⟨.inl ⟨h2, h3⟩, h3⟩
      · exact ⟨.inr rfl, h3⟩
theorem j1_ev (cs : List S44) (rs : List S36) (a1 a2 : Int) (i : Nat) (hc : cs.length ≤ 1048576) (hi : i < 1048576) (L : List S36) (hL : L.length ≤ 1048576) (y : S36) (b : Int) (hb : (if b = a1 then a2 else b) = y.f1) (R : List S44 × List S36)
    (h : Ev (fun k => spec_l2Swap.l0 k a1 a2 ((i + 1 : Nat) : Int) cs rs cs (tidyR (L ++ [y]))) R) : Ev (fun k => spec_l2Swap.j1 k a1 a2 (i : Int) cs rs cs (tidyR L) y.f0 b) R := by
  have hlen := Nat.le_trans (tidyR_len L) hL
  have hln : y.f0 ≠ y.f1 → Ev (fun k => spec_l2Link.f k cs (tidyR L) y.f0 y.f1) (cs, linked (tidyR L) y) := fun hne => link_ev cs (tidyR L) y hc hlen (tidyR_strict L) (fun x hx => ((tidyR_mem L x).1 hx).2) hne
  rw [tidyR_snoc] at h
  refine Ev.step (fun q => by rw [spec_l2Swap.j1]) ?_
  by_cases e : b = a1
  · rw [if_pos e] at hb
    simp only [e, if_true, w64 i (by omega)]
    by_cases e2 : y.f0 = a2
    · rw [if_pos (e2.trans hb)] at h
      simp only [if_pos e2]
      exact h
    · rw [if_neg (fun e3 => e2 (e3.trans hb.symm))] at h
      simp only [if_neg e2]
      have hl2 := hln (fun e3 => e2 (e3.trans hb.symm))
      rw [← hb] at hl2
      exact Ev.bind hl2 h
  · rw [if_neg e] at hb
    simp only [e, if_false, w64 i (by omega)]
    subst hb
    by_cases e2 : y.f0 = y.f1
    · rw [if_pos e2] at h
      simp only [if_pos e2]
      exact h
    · rw [if_neg e2] at h
      simp only [if_neg e2]
      exact Ev.bind (hln e2) h
theorem swap_ev (cs : List S44) (rs : List S36) (a1 a2 : Int) (hc : cs.length ≤ 1048576) (hr : rs.length ≤ 1048576) : Ev (fun k => spec_l2Swap.f k cs rs a1 a2) (cs, tidyR (rs.map (ren a1 a2))) := by
  have key : ∀ d i, rs.length - i = d → i ≤ rs.length → Ev (fun k => spec_l2Swap.l0 k a1 a2 (i : Int) cs rs cs (tidyR ((rs.take i).map (ren a1 a2)))) (cs, tidyR (rs.map (ren a1 a2))) := by
    intro d
    induction d with
    | zero =>
      intro i hd hi
      obtain rfl : i = rs.length := by omega
      refine Ev.step (fun q => by rw [spec_l2Swap.l0]) ?_
      simp only [Int.lt_irrefl, if_false, List.take_length]
      exact Ev.now _
    | succ d ih =>
      intro i hd hi
      have hlt : i < rs.length := by omega
      have a3 : (i : Int) < (rs.length : Int) := by omega
      have a4 : (0 : Int) ≤ (i : Int) := by omega
      have hn := ih (i + 1) (by omega) (by omega)
      rw [List.take_succ_eq_append_getElem hlt, List.map_append, List.map_singleton] at hn
      have hL : ((rs.take i).map (ren a1 a2)).length ≤ 1048576 := by rw [List.length_map, List.length_take]; omega
      have hj := j1_ev cs rs a1 a2 i hc (by omega) _ hL (ren a1 a2 rs[i]) rs[i].f1 rfl _ hn
      refine Ev.step (fun q => by rw [spec_l2Swap.l0]) ?_
      simp only [a3, a4, if_true, rdR rs i hlt]
      by_cases e : rs[i].f0 = a1
      · simp only [if_pos e]
        rw [show (ren a1 a2 rs[i]).f0 = a2 from if_pos e] at hj
        exact hj
      · simp only [if_neg e]
        rw [show (ren a1 a2 rs[i]).f0 = rs[i].f0 from if_neg e] at hj
        exact hj
  unfold spec_l2Swap.f
  simp only [Option.bind_some, List.length_nil, Nat.zero_add, List.nil_append, show cs.length < 8796093022208 by omega, if_true]
  have h0 := key rs.length 0 (by omega) (by omega)
  have e0 : tidyR ((rs.take 0).map (ren a1 a2)) = [] := tidyR_is List.Pairwise.nil (fun x => by simp)
  rw [e0] at h0
  exact h0
theorem both (cs : List S44) (rs : List S36) (a b : Int) (hc : cs.length ≤ 1048576) (hr : rs.length ≤ 1048576) : ∃ A, impl_RenumberContext.f cs rs a b = some A ∧ Ev (fun k => spec_RenumberContext.f k cs rs a b) A ∧ A.1.length ≤ 1000 ∧ A.2.1.length ≤ 1000 := by
  have no : ∀ x8, Ev (fun k => spec_RenumberContext.j0 k a b x8 true cs rs) ([], [], false) := fun x8 => Ev.step (fun q => by rw [spec_RenumberContext.j0]) (by simp only [if_true]; exact Ev.now _)
  unfold impl_RenumberContext.f spec_RenumberContext.f
  simp only [spec_l2Good.f, find_f, l1In_eq, Option.bind_some]
  by_cases hg : goodB cs rs = true
  · simp only [hg, if_true]
    by_cases hf : find cs a < 0
    · have hok : renOk cs rs a b = false := by unfold renOk; rw [hg]; simp; intro h; omega
      simp only [hf, if_true, hok, Bool.false_eq_true, if_false]
      exact ⟨_, rfl, no _, by simp, by simp⟩
    · simp only [hf, if_false]
      obtain ⟨i, hi⟩ : ∃ i : Nat, find cs a = (i : Int) := ⟨(find cs a).toNat, by omega⟩
      obtain ⟨hin, hget⟩ := find_get cs a i hi
      rw [getDC cs i hin] at hget
      by_cases hr9 : (decide (1 ≤ b) && decide (b ≤ 999)) = true
      · simp only [hr9, if_true]
        have hlt := (good_parts hg).2.2.1
        by_cases hbad : b ≠ a ∧ 0 ≤ find cs b
        · have hok : renOk cs rs a b = false := by unfold renOk; rw [hg, hr9]; simp [hbad.1]; intro _; omega
          have hne : (find cs b != find cs a) = true := by
            rw [bne_iff_ne]
            intro e
            obtain ⟨_, h2⟩ := find_get cs b i (e.trans hi)
            rw [getDC cs i hin] at h2
            exact hbad.1 (h2.symm.trans hget)
          simp only [show find cs b ≥ 0 from hbad.2, if_true, hne, hok, Bool.false_eq_true, if_false]
          exact ⟨_, rfl, no _, by simp, by simp⟩
        · have hok : renOk cs rs a b = true := by
            unfold renOk; rw [hg, hr9]; simp
            refine ⟨by omega, ?_⟩
            by_cases e : b = a
            · exact .inl e
            · exact .inr (by omega)
          have hgo : Ev (fun k => spec_RenumberContext.j0 k a b (find cs a) false cs rs) (tidyC (cs.set (find cs a).toNat ⟨b, (cs.getD (find cs a).toNat z44).f1⟩), tidyR (rs.map (ren a b)), true) := by
            rw [hi, Int.toNat_natCast, getDC cs i hin]
            refine Ev.step (fun q => by rw [spec_RenumberContext.j0]) ?_
            simp only [Bool.false_eq_true, if_false]
            refine Ev.bind (swap_ev cs rs a b hc hr) ?_
            have e1 : (cs.take i).length = i := by rw [List.length_take]; omega
            have e2 : (cs.drop (i + 1)).length = cs.length - (i + 1) := List.length_drop
            simp only [Option.bind_some, List.length_nil, Nat.zero_add, List.nil_append, w64 i (by omega), show (0 : Int) ≤ (i : Int) by omega, show (i : Int) ≤ (cs.length : Int) by omega, show (i : Int) < (cs.length : Int) by omega, show (0 : Int) ≤ ((i + 1 : Nat) : Int) by omega, show ((i + 1 : Nat) : Int) ≤ (cs.length : Int) by omega, if_true, Int.toNat_natCast, e1, e2, show i < 8796093022208 by omega, show i + (cs.length - (i + 1)) < 8796093022208 by omega, rdC cs i hin]
            have hE : (cs.take i ++ cs.drop (i + 1)) = cs.eraseIdx i := (List.eraseIdx_eq_take_drop_succ cs i).symm
            have hEs : (cs.eraseIdx i).Pairwise fun a b => a.f0 < b.f0 := hlt.sublist (List.eraseIdx_sublist cs i)
            have hEl : (cs.eraseIdx i).length ≤ 1048576 := Nat.le_trans (List.length_eraseIdx_le _ _) hc
            rw [hE]
            obtain ⟨m, h1, h2, h3, h4⟩ := put_ev (cs.eraseIdx i) (tidyR (rs.map (ren a b))) b cs[i].f1 hEl (Nat.le_trans (tidyR_len _) (by rw [List.length_map]; exact hr))
            obtain ⟨hp, hs⟩ := put_sorted hEs ⟨b, cs[i].f1⟩ m h1 h2 h3
            refine Ev.bind h4 ?_
            have hnd : ((cs.set i ⟨b, cs[i].f1⟩).map (·.f0)).Nodup := by
              refine set_nodup (nodup_of_lt hlt) i _ (fun j hj hji => ?_)
              show cs[j].f0 ≠ b
              by_cases e : b = a
              · subst e
                intro e2
                have hlt2 := hlt
                rw [List.pairwise_iff_getElem] at hlt2
                rcases Nat.lt_or_gt_of_ne hji with h | h
                · have := hlt2 j i hj hin h; omega
                · have := hlt2 i j hin hj h; omega
              · exact find_not cs b (by omega) _ (List.getElem_mem hj)
            have hpp : (cs.set i ⟨b, cs[i].f1⟩).Perm (cs.eraseIdx i ++ [⟨b, cs[i].f1⟩]) := by
              rw [List.set_eq_take_append_cons_drop, if_pos hin, ← hE, List.append_assoc]
              exact List.Perm.append_left _ (List.perm_append_comm (l₁ := [(⟨b, cs[i].f1⟩ : S44)]) (l₂ := cs.drop (i + 1)))
            rw [tidyC_uniq hnd (hp.trans hpp.symm) hs]
            exact Ev.now _
          have hlen : (tidyC (cs.set (find cs a).toNat ⟨b, (cs.getD (find cs a).toNat z44).f1⟩)).length ≤ 1000 := by rw [(tidyC_perm _).length_eq, List.length_set]; have := (good_parts hg).1; omega
          have hlen2 : (tidyR (rs.map (ren a b))).length ≤ 1000 := Nat.le_trans (tidyR_len _) (by rw [List.length_map]; have := (good_parts hg).2.1; omega)
          rw [if_pos hok]
          refine ⟨_, rfl, ?_, hlen, hlen2⟩
          by_cases hfb : find cs b ≥ 0
          · simp only [hfb, if_true]
            have e : b = a := Decidable.byContradiction fun h => hbad ⟨h, hfb⟩
            have hne : (find cs b != find cs a) = false := by rw [e]; simp
            rw [hne]
            exact hgo
          · simp only [hfb, if_false]
            exact hgo
      · have hok : renOk cs rs a b = false := by
          unfold renOk
          rw [show (decide (1 ≤ b) && decide (b ≤ 999)) = false from by simpa using hr9]
          simp
        simp only [hr9, Bool.false_eq_true, if_false, hok]
        exact ⟨_, rfl, no _, by simp, by simp⟩
  · have hok : renOk cs rs a b = false := by unfold renOk; simp [hg]
    simp only [hg, Bool.false_eq_true, if_false, hok]
    exact ⟨_, rfl, no _, by simp, by simp⟩
theorem FnExactRenumberContext : ∀ (l0_0 : List (S42)) (l0_1 : List (S27)) (a1 : Int) (a2 : Int), ((l0_0.length ≤ 9223372036854775807) ∧ ∀ y4 ∈ l0_0, ((Lit.int .i64 y4.f0).wf = true) ∧ ((Lit.int .i64 y4.f1).wf = true)) → ((l0_1.length ≤ 9223372036854775807) ∧ ∀ y4 ∈ l0_1, ((Lit.int .i64 y4.f0).wf = true) ∧ ((Lit.int .i64 y4.f1).wf = true)) → ((Lit.int .i64 a1).wf = true) → ((Lit.int .i64 a2).wf = true) → ∃ k, laws_FnExactRenumberContext.f k l0_0 l0_1 a1 a2 = some true := by
  intro l0 l1 a1 a2 _ _ _ _
  by_cases hbig : 1048576 < l0.length ∨ 1048576 < l1.length
  · exact ⟨0, by unfold laws_FnExactRenumberContext.f; rw [if_pos hbig]⟩
  · have hC : (l0.map LB.cvC).length ≤ 1048576 := by rw [List.length_map]; omega
    have hR : (l1.map LB.cvR).length ≤ 1048576 := by rw [List.length_map]; omega
    obtain ⟨A, hi, hev, h1, h2⟩ := both (l0.map LB.cvC) (l1.map LB.cvR) a1 a2 hC hR
    obtain ⟨k, hk⟩ := Ev.rounds hev
    refine ⟨k, ?_⟩
    unfold laws_FnExactRenumberContext.f
    rw [if_neg hbig, hi]
    exact if_pos ⟨hk, h1, h2⟩
end Go.Proofs.Ytlmdmnenljmdgaa.Pure
