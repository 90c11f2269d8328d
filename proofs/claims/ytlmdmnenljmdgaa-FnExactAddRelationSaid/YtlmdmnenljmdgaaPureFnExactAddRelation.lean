/- The law FnExactAddRelation answers true at every record and relation: AddRelation of the program and of the reference agree. No conditions. -/
import Derived.Test.YtlmdmnenljmdgaaQ0
import Derived.Test.YtlmdmnenljmdgaaQF51
import Derived.Test.YtlmdmnenljmdgaaQF19
import Derived.Test.YtlmdmnenljmdgaaQF72
import Derived.Test.YtlmdmnenljmdgaaQF50
import Derived.Test.YtlmdmnenljmdgaaQV1
import Derived.Test.YtlmdmnenljmdgaaQF5
import Derived.Test.YtlmdmnenljmdgaaQF20
import Derived.Test.YtlmdmnenljmdgaaQF21
namespace Go.Proofs.Ytlmdmnenljmdgaa.Pure
open Go.RowKit Go.Proofs.Ytlmdmnenljmdgaa.Q Go.Proofs.YtlmdmnenljmdgaaW.PrintWords
set_option linter.unusedVariables false
set_option linter.unusedSimpArgs false
theorem Ev.some {α : Type} (r : α) : Ev (fun _ => Option.some r) r := Ev.now r
theorem w64 (i : Nat) (h : i ≤ 4611686018427387904) : wrap64 ((i : Int) + 1) = ((i + 1 : Nat) : Int) := by unfold wrap64; omega
theorem rdR (l : List S36) (i : Nat) (h : i < l.length) : rd_T36 l (i : Int) = l[i] := by simp [rd_T36, List.getD_eq_getElem?_getD, List.getElem?_eq_getElem h]
def cvC (x : S42) : S44 := ⟨x.f0, x.f1⟩
def cvR (x : S27) : S36 := ⟨x.f0, x.f1⟩
theorem rel_ne (cs : List S44) : ∀ (rs : List S36) (p : Option S36), relOk cs p rs = true → ∀ x ∈ rs, x.f0 ≠ x.f1
  | [], _, _, x, hx => by simp at hx
  | c :: r, p, h, x, hx => by
    simp only [relOk, Bool.and_eq_true] at h
    rcases List.mem_cons.1 hx with rfl | hx
    · have := h.1.1.1.1; simpa using this
    · exact rel_ne cs r _ h.2 x hx
theorem rel_sorted (cs : List S44) : ∀ (rs : List S36) (p : Option S36), relOk cs p rs = true → rs.Pairwise (fun a b => before a b = true) ∧ (∀ q, p = some q → ∀ c, c ∈ rs → before q c = true)
  | [], _, _ => ⟨List.Pairwise.nil, fun _ _ _ h => by simp at h⟩
  | c :: r, p, h => by
    simp only [relOk, Bool.and_eq_true] at h
    obtain ⟨h1, h2⟩ := rel_sorted cs r _ h.2
    refine ⟨List.pairwise_cons.2 ⟨fun d hd => h2 _ rfl d hd, h1⟩, fun q hq d hd => ?_⟩
    subst hq
    have hqc : before q c = true := by simpa using h.1.2
    rcases List.mem_cons.1 hd with rfl | hd
    · exact hqc
    · exact bef_tr hqc (h2 _ rfl d hd)
theorem good_parts {cs : List S44} {rs : List S36} (h : goodB cs rs = true) : cs.length ≤ 10 ∧ rs.length ≤ 24 ∧ cs.Pairwise (fun a b => a.f0 < b.f0) ∧ rs.Pairwise (fun a b => before a b = true) ∧ ∀ x ∈ rs, x.f0 ≠ x.f1 := by
  have h1 := goodB_ctx h
  simp only [goodB, Bool.and_eq_true, decide_eq_true_eq] at h
  exact ⟨h.1.1.1, h.1.1.2, h1, (rel_sorted cs rs _ h.2).1, rel_ne cs rs _ h.2⟩
theorem tidyR_mem (rs : List S36) (x : S36) : x ∈ tidyR rs ↔ x ∈ rs ∧ x.f0 ≠ x.f1 := by
  show x ∈ cptTo (sortR (selfless rs)) (sortR (selfless rs)).length ↔ _
  rw [cptTo_mem _ _ _ (Nat.le_refl _), List.take_length, (show (sortR (selfless rs)).Perm (selfless rs) from List.mergeSort_perm _ _).mem_iff]
  simp [selfless]
theorem tidyR_strict (rs : List S36) : (tidyR rs).Pairwise fun a b => before a b = true := cptTo_strict (sortR_sorted _) _ (Nat.le_refl _)
/-- What is strictly sorted and has the right elements is what tidying makes. -/
theorem tidyR_is {rs l : List S36} (hs : l.Pairwise fun a b => before a b = true) (hm : ∀ x, x ∈ l ↔ x ∈ rs ∧ x.f0 ≠ x.f1) : tidyR rs = l :=
  sx (fun a b => before a b = true) bef_irr (fun a b c => bef_tr) _ _ (tidyR_strict rs) hs (fun x => by rw [tidyR_mem, hm])
theorem tidyC_self {cs : List S44} {rs : List S36} (h : goodB cs rs = true) : tidyC cs = cs :=
  sort_same (tidyC_perm cs) (tidyC_sorted cs) (good_parts h).2.2.1
theorem own_f (cs : List S44) (rs : List S36) (hc : cs.length ≤ 1048576) (hr : rs.length ≤ 1048576) : spec_l2Own.f cs rs = some (cs, rs) := by
  unfold spec_l2Own.f
  simp only [Option.bind_some, List.length_nil, Nat.zero_add, List.nil_append, show cs.length < 8796093022208 by omega, show rs.length < 8796093022208 by omega, if_true]
theorem bef_f (a b : S36) : spec_l2Before.f a.f0 a.f1 b.f0 b.f1 = some (before a b) := by
  unfold spec_l2Before.f before
  by_cases h : a.f0 < b.f0
  · simp [h]
  · by_cases h2 : a.f0 = b.f0
    · simp [h2]
    · simp [h, h2]
/-- What the reference's linking makes. -/
def linked (rs : List S36) (x : S36) : List S36 := tidyR (rs ++ [x])
theorem link_ev (cs : List S44) (rs : List S36) (x : S36) (hc : cs.length ≤ 1048576) (hr : rs.length ≤ 1048576) (hs : rs.Pairwise fun a b => before a b = true) (hn : ∀ y ∈ rs, y.f0 ≠ y.f1) (hx : x.f0 ≠ x.f1) : Ev (fun k => spec_l2Link.f k cs rs x.f0 x.f1) (cs, linked rs x) := by
  have hs2 := List.pairwise_iff_getElem.1 hs
  have key : ∀ d i, rs.length - i = d → i ≤ rs.length → (∀ j (h : j < rs.length), j < i → before rs[j] x = true) → Ev (fun k => spec_l2Link.l0 k (i : Int) cs rs x.f0 x.f1) (cs, linked rs x) := by
    have ins : ∀ i, i ≤ rs.length → (∀ j (h : j < rs.length), j < i → before rs[j] x = true) → (∀ h : i < rs.length, before x rs[i] = true) → rs.take i ++ x :: rs.drop i = linked rs x := by
      intro i hi h1 h2
      refine (tidyR_is ?_ (fun y => ?_)).symm
      · rw [List.pairwise_append]
        refine ⟨hs.sublist (List.take_sublist _ _), ?_, ?_⟩
        · rw [List.pairwise_cons]
          refine ⟨fun y hy => ?_, hs.sublist (List.drop_sublist _ _)⟩
          obtain ⟨j, hj, rfl⟩ := List.mem_iff_getElem.1 hy
          rw [List.length_drop] at hj
          rw [List.getElem_drop]
          have h3 := h2 (by omega)
          by_cases e : j = 0
          · subst e; exact h3
          · exact bef_tr h3 (hs2 i (i + j) (by omega) (by omega) (by omega))
        · intro y hy z hz
          obtain ⟨j, hj, rfl⟩ := List.mem_iff_getElem.1 hy
          rw [List.length_take] at hj
          rw [List.getElem_take]
          have h3 := h1 j (by omega) (by omega)
          rcases List.mem_cons.1 hz with rfl | hz
          · exact h3
          · obtain ⟨q, hq, rfl⟩ := List.mem_iff_getElem.1 hz
            rw [List.length_drop] at hq
            rw [List.getElem_drop]
            exact hs2 j (i + q) (by omega) (by omega) (by omega)
      · have e : y ∈ rs.take i ++ x :: rs.drop i ↔ y ∈ rs ∨ y = x := by
          rw [List.mem_append, List.mem_cons]
          conv => rhs; rw [← List.take_append_drop i rs, List.mem_append]
          constructor
          · rintro (h | h | h)
            · exact .inl (.inl h)
            · exact .inr h
            · exact .inl (.inr h)
          · rintro ((h | h) | h)
            · exact .inl h
            · exact .inr (.inr h)
            · exact .inr (.inl h)
        rw [e, List.mem_append, List.mem_singleton]
        constructor
        · rintro (h | rfl)
          · exact ⟨.inl h, hn y h⟩
          · exact ⟨.inr rfl, hx⟩
        · exact fun h => h.1
    intro d
    induction d with
    | zero =>
      intro i hd hi hj
      obtain rfl : i = rs.length := by omega
      rw [← ins rs.length (Nat.le_refl _) hj (fun h => absurd h (Nat.lt_irrefl _))]
      refine Ev.step (fun q => by rw [spec_l2Link.l0]) ?_
      simp only [Int.lt_irrefl, if_false, own_f cs rs hc hr, Option.bind_some, show (0 : Int) ≤ (rs.length : Int) by omega, Int.le_refl, if_true, Int.toNat_natCast, List.take_length, List.drop_length, List.nil_append, List.length_nil, Nat.zero_add, List.length_append, List.length_singleton, List.append_nil, show rs.length < 8796093022208 by omega, show rs.length + 1 < 8796093022208 by omega, show rs.length + 1 + 0 < 8796093022208 by omega]
      exact Ev.now _
    | succ d ih =>
      intro i hd hi hj
      have hlt : i < rs.length := by omega
      have a3 : (i : Int) < (rs.length : Int) := by omega
      have a4 : (0 : Int) ≤ (i : Int) := by omega
      refine Ev.step (fun q => by rw [spec_l2Link.l0]) ?_
      simp only [a3, a4, if_true, rdR rs i hlt, bef_f rs[i] x, Option.bind_some, w64 i (by omega)]
      cases hb : before rs[i] x with
      | true =>
        simp only [if_true]
        exact ih (i + 1) (by omega) (by omega) (fun j hl hlt2 => by
          by_cases e : j = i
          · subst e; exact hb
          · exact hj j hl (by omega))
      | false =>
        simp only [Bool.false_eq_true, if_false, own_f cs rs hc hr, Option.bind_some]
        by_cases he : rs[i] = x
        · have e1 : (rs[i].f0 == x.f0 && (rs[i].f1 == x.f1)) = true := by rw [he]; simp
          simp only [e1, if_true]
          have e2 : linked rs x = rs := by
            refine tidyR_is hs (fun y => ?_)
            rw [List.mem_append, List.mem_singleton]
            constructor
            · exact fun h => ⟨.inl h, hn y h⟩
            · rintro ⟨h | rfl, _⟩
              · exact h
              · rw [← he]; exact List.getElem_mem hlt
          rw [e2]
          exact Ev.now _
        · have e1 : ¬ (rs[i].f0 == x.f0 && (rs[i].f1 == x.f1)) = true := by
            intro h
            exact he ((eqR_iff _ _).1 h)
          have hb2 : before x rs[i] = true := by
            cases h : before x rs[i] with
            | true => rfl
            | false => exact absurd (bef_tot hb h) he
          rw [← ins i hi hj (fun _ => hb2)]
          have e3 : (rs.take i).length = i := by rw [List.length_take]; omega
          have e4 : (rs.drop i).length = rs.length - i := List.length_drop
          simp only [e1, if_false, show (i : Int) ≤ (rs.length : Int) by omega, if_true, Int.toNat_natCast, Option.bind_some, List.nil_append, List.length_nil, Nat.zero_add, List.length_append, List.length_singleton, e3, e4, show i < 8796093022208 by omega, show i + 1 < 8796093022208 by omega, show i + 1 + (rs.length - i) < 8796093022208 by omega, List.append_assoc, List.singleton_append]
          exact Ev.now _
  exact key rs.length 0 (by omega) (by omega) (fun j _ h => absurd h (Nat.not_lt_zero _))
theorem link_any (cs : List S44) (rs : List S36) (x : S36) (hc : cs.length ≤ 1048576) (hr : rs.length ≤ 1048576) : ∃ L, Ev (fun k => spec_l2Link.f k cs rs x.f0 x.f1) (cs, L) ∧ (x ∈ L) := by
  have key : ∀ d i, rs.length - i = d → i ≤ rs.length → ∃ L, Ev (fun k => spec_l2Link.l0 k (i : Int) cs rs x.f0 x.f1) (cs, L) ∧ x ∈ L := by
    intro d
    induction d with
    | zero =>
      intro i hd hi
      obtain rfl : i = rs.length := by omega
      refine ⟨rs ++ [x], Ev.step (fun q => by rw [spec_l2Link.l0]) ?_, by simp⟩
      simp only [Int.lt_irrefl, if_false, own_f cs rs hc hr, Option.bind_some, show (0 : Int) ≤ (rs.length : Int) by omega, Int.le_refl, if_true, Int.toNat_natCast, List.take_length, List.drop_length, List.nil_append, List.length_nil, Nat.zero_add, List.length_append, List.length_singleton, List.append_nil, show rs.length < 8796093022208 by omega, show rs.length + 1 < 8796093022208 by omega, show rs.length + 1 + 0 < 8796093022208 by omega]
      exact Ev.now _
    | succ d ih =>
      intro i hd hi
      have hlt : i < rs.length := by omega
      have a3 : (i : Int) < (rs.length : Int) := by omega
      have a4 : (0 : Int) ≤ (i : Int) := by omega
      cases hb : before rs[i] x with
      | true =>
        obtain ⟨L, h1, h2⟩ := ih (i + 1) (by omega) (by omega)
        refine ⟨L, Ev.step (fun q => by rw [spec_l2Link.l0]) ?_, h2⟩
        simp only [a3, a4, if_true, rdR rs i hlt, bef_f rs[i] x, hb, Option.bind_some, w64 i (by omega)]
        exact h1
      | false =>
        by_cases e1 : (rs[i].f0 == x.f0 && (rs[i].f1 == x.f1)) = true
        · refine ⟨rs, Ev.step (fun q => by rw [spec_l2Link.l0]) ?_, by rw [← (eqR_iff _ _).1 e1]; exact List.getElem_mem hlt⟩
          simp only [a3, a4, if_true, rdR rs i hlt, bef_f rs[i] x, hb, Option.bind_some, Bool.false_eq_true, if_false, own_f cs rs hc hr, e1]
          exact Ev.now _
        · refine ⟨rs.take i ++ x :: rs.drop i, Ev.step (fun q => by rw [spec_l2Link.l0]) ?_, by simp⟩
          have e3 : (rs.take i).length = i := by rw [List.length_take]; omega
          have e4 : (rs.drop i).length = rs.length - i := List.length_drop
          simp only [a3, a4, if_true, rdR rs i hlt, bef_f rs[i] x, hb, Option.bind_some, Bool.false_eq_true, if_false, own_f cs rs hc hr, e1, show (i : Int) ≤ (rs.length : Int) by omega, Int.toNat_natCast, List.nil_append, List.length_nil, Nat.zero_add, List.length_append, List.length_singleton, e3, e4, show i < 8796093022208 by omega, show i + 1 < 8796093022208 by omega, show i + 1 + (rs.length - i) < 8796093022208 by omega, List.append_assoc, List.singleton_append]
          exact Ev.now _
  exact key rs.length 0 (by omega) (by omega)
theorem both (cs : List S44) (rs : List S36) (a b : Int) (hc : cs.length ≤ 1048576) (hr : rs.length ≤ 1048576) : ∃ A, impl_AddRelation.f cs rs a b = some A ∧ Ev (fun k => spec_AddRelation.f k cs rs a b) A ∧ A.1.length ≤ 1000 ∧ A.2.1.length ≤ 1000 := by
  unfold impl_AddRelation.f spec_AddRelation.f
  simp only [spec_l2Good.f, Option.bind_some]
  by_cases hg : goodB cs rs = true
  · by_cases hab : a = b
    · subst hab
      obtain ⟨L, h1, h2⟩ := link_any cs rs ⟨a, a⟩ hc hr
      have hbad : goodB cs L = false := by
        cases h : goodB cs L with
        | false => rfl
        | true => exact absurd rfl ((good_parts h).2.2.2.2 _ h2)
      refine ⟨([], [], false), by simp, ?_, by simp, by simp⟩
      simp only [hg, if_true]
      refine Ev.bind h1 ?_
      simp only [hbad, Bool.false_eq_true, if_false]
      exact Ev.now _
    · have hl := link_ev cs rs ⟨a, b⟩ hc hr (good_parts hg).2.2.2.1 (good_parts hg).2.2.2.2 hab
      have e1 : (goodB cs rs && !(a == b)) = true := by simp [hg, hab]
      rw [tidyC_self hg, if_pos e1]
      refine ⟨_, rfl, ?_, ?_⟩
      · simp only [hg, if_true]
        refine Ev.bind hl ?_
        show Ev _ (if goodB cs (linked rs ⟨a, b⟩) = true then (cs, linked rs ⟨a, b⟩, true) else ([], [], false))
        cases hG : goodB cs (linked rs ⟨a, b⟩) with
        | false =>
          simp only [Bool.false_eq_true, if_false]
          exact Ev.now _
        | true =>
          simp only [if_true]
          exact Ev.bind hl (Ev.now _)
      · show (if goodB cs (linked rs ⟨a, b⟩) = true then (cs, linked rs ⟨a, b⟩, true) else ([], [], false)).1.length ≤ 1000 ∧ (if goodB cs (linked rs ⟨a, b⟩) = true then (cs, linked rs ⟨a, b⟩, true) else ([], [], false)).2.1.length ≤ 1000
        cases hG : goodB cs (linked rs ⟨a, b⟩) with
        | false => simp
        | true =>
          simp only [if_true]
          have h1 := (good_parts hG).1
          have h2 := (good_parts hG).2.1
          omega
  · simp only [hg, if_false, Bool.false_eq_true, Bool.false_and]
    exact ⟨_, rfl, Ev.now _, by simp, by simp⟩
theorem FnExactAddRelation : ∀ (l0_0 : List (S42)) (l0_1 : List (S27)) (a1_0 : Int) (a1_1 : Int), ((l0_0.length ≤ 9223372036854775807) ∧ ∀ y4 ∈ l0_0, ((Lit.int .i64 y4.f0).wf = true) ∧ ((Lit.int .i64 y4.f1).wf = true)) → ((l0_1.length ≤ 9223372036854775807) ∧ ∀ y4 ∈ l0_1, ((Lit.int .i64 y4.f0).wf = true) ∧ ((Lit.int .i64 y4.f1).wf = true)) → ((Lit.int .i64 a1_0).wf = true) → ((Lit.int .i64 a1_1).wf = true) → ∃ k, laws_FnExactAddRelation.f k l0_0 l0_1 a1_0 a1_1 = some true := by
  intro l0 l1 a1 a2 _ _ _ _
  by_cases hbig : 1048576 < l0.length ∨ 1048576 < l1.length
  · exact ⟨0, by unfold laws_FnExactAddRelation.f; rw [if_pos hbig]⟩
  · have hC : (l0.map LB.cvC).length ≤ 1048576 := by rw [List.length_map]; omega
    have hR : (l1.map LB.cvR).length ≤ 1048576 := by rw [List.length_map]; omega
    obtain ⟨A, hi, hev, h1, h2⟩ := both (l0.map LB.cvC) (l1.map LB.cvR) a1 a2 hC hR
    obtain ⟨k, hk⟩ := Ev.rounds hev
    refine ⟨k, ?_⟩
    unfold laws_FnExactAddRelation.f
    rw [if_neg hbig, hi]
    exact if_pos ⟨hk, h1, h2⟩
end Go.Proofs.Ytlmdmnenljmdgaa.Pure
