/- The law FnExactAddContext answers true at every record and context: AddContext of the program and of the reference agree. No conditions. -/
import Derived.Test.YtlmdmnenljmdgaaQ0
import Derived.Test.YtlmdmnenljmdgaaQF51
import Derived.Test.YtlmdmnenljmdgaaQF19
import Derived.Test.YtlmdmnenljmdgaaQF47
import Derived.Test.YtlmdmnenljmdgaaQF72
import Derived.Test.YtlmdmnenljmdgaaQF4
import Derived.Test.YtlmdmnenljmdgaaQF17
namespace Go.Proofs.Ytlmdmnenljmdgaa.Pure
open Go.RowKit Go.Proofs.Ytlmdmnenljmdgaa.Q Go.Proofs.YtlmdmnenljmdgaaW.PrintWords
set_option linter.unusedVariables false
set_option linter.unusedSimpArgs false
theorem Ev.some {α : Type} (r : α) : Ev (fun _ => Option.some r) r := Ev.now r
theorem w64 (i : Nat) (h : i ≤ 4611686018427387904) : wrap64 ((i : Int) + 1) = ((i + 1 : Nat) : Int) := by unfold wrap64; omega
theorem rdC (l : List S44) (i : Nat) (h : i < l.length) : rd_T44 l (i : Int) = l[i] := by simp [rd_T44, List.getD_eq_getElem?_getD, List.getElem?_eq_getElem h]
def cvC (x : S42) : S44 := ⟨x.f0, x.f1⟩
def cvR (x : S27) : S36 := ⟨x.f0, x.f1⟩
theorem rel_ne (cs : List S44) : ∀ (rs : List S36) (p : Option S36), relOk cs p rs = true → ∀ x ∈ rs, x.f0 ≠ x.f1
  | [], _, _, x, hx => by simp at hx
  | c :: r, p, h, x, hx => by
    simp only [relOk, Bool.and_eq_true] at h
    rcases List.mem_cons.1 hx with rfl | hx
    · have := h.1.1.1.1; simpa using this
    · exact rel_ne cs r _ h.2 x hx
theorem rel_sorted (cs : List S44) : ∀ (rs : List S36) (p : Option S36), relOk cs p rs = true → rs.Pairwise (fun a b => before a b = true) ∧ (∀ q, p = some q → ∀ c, c ∈ rs → before q c = true)
  | [], _, _ => ⟨List.Pairwise.nil, fun _ _ _ h => by simp at h⟩
  | c :: r, p, h => by
    simp only [relOk, Bool.and_eq_true] at h
    obtain ⟨h1, h2⟩ := rel_sorted cs r _ h.2
    refine ⟨List.pairwise_cons.2 ⟨fun d hd => h2 _ rfl d hd, h1⟩, fun q hq d hd => ?_⟩
    subst hq
    have hqc : before q c = true := by simpa using h.1.2
    rcases List.mem_cons.1 hd with rfl | hd
    · exact hqc
    · exact bef_tr hqc (h2 _ rfl d hd)
theorem good_parts {cs : List S44} {rs : List S36} (h : goodB cs rs = true) : cs.length ≤ 10 ∧ rs.length ≤ 24 ∧ cs.Pairwise (fun a b => a.f0 < b.f0) ∧ rs.Pairwise (fun a b => before a b = true) ∧ ∀ x ∈ rs, x.f0 ≠ x.f1 := by
  have h1 := goodB_ctx h
  simp only [goodB, Bool.and_eq_true, decide_eq_true_eq] at h
  exact ⟨h.1.1.1, h.1.1.2, h1, (rel_sorted cs rs _ h.2).1, rel_ne cs rs _ h.2⟩
theorem tidyR_mem (rs : List S36) (x : S36) : x ∈ tidyR rs ↔ x ∈ rs ∧ x.f0 ≠ x.f1 := by
  show x ∈ cptTo (sortR (selfless rs)) (sortR (selfless rs)).length ↔ _
  rw [cptTo_mem _ _ _ (Nat.le_refl _), List.take_length, (show (sortR (selfless rs)).Perm (selfless rs) from List.mergeSort_perm _ _).mem_iff]
  simp [selfless]
theorem tidyR_strict (rs : List S36) : (tidyR rs).Pairwise fun a b => before a b = true := cptTo_strict (sortR_sorted _) _ (Nat.le_refl _)
/-- What is strictly sorted and has the right elements is what tidying makes. -/
theorem tidyR_is {rs l : List S36} (hs : l.Pairwise fun a b => before a b = true) (hm : ∀ x, x ∈ l ↔ x ∈ rs ∧ x.f0 ≠ x.f1) : tidyR rs = l :=
  sx (fun a b => before a b = true) bef_irr (fun a b c => bef_tr) _ _ (tidyR_strict rs) hs (fun x => by rw [tidyR_mem, hm])
theorem tidyR_self {cs : List S44} {rs : List S36} (h : goodB cs rs = true) : tidyR rs = rs :=
  tidyR_is (good_parts h).2.2.2.1 (fun x => ⟨fun hx => ⟨hx, (good_parts h).2.2.2.2 x hx⟩, fun hx => hx.1⟩)
theorem own_f (cs : List S44) (rs : List S36) (hc : cs.length ≤ 1048576) (hr : rs.length ≤ 1048576) : spec_l2Own.f cs rs = some (cs, rs) := by
  unfold spec_l2Own.f
  simp only [Option.bind_some, List.length_nil, Nat.zero_add, List.nil_append, show cs.length < 8796093022208 by omega, show rs.length < 8796093022208 by omega, if_true]
/-- The reference's place for a context. -/
theorem put_ev (cs : List S44) (rs : List S36) (a b : Int) (hc : cs.length ≤ 1048576) (hr : rs.length ≤ 1048576) : ∃ m, m ≤ cs.length ∧ (∀ j (h : j < cs.length), j < m → cs[j].f0 < a) ∧ (∀ h : m < cs.length, ¬ cs[m].f0 < a) ∧ Ev (fun k => spec_l2Put.f k cs rs a b) (cs.take m ++ ⟨a, b⟩ :: cs.drop m, rs) := by
  have key : ∀ d i, cs.length - i = d → i ≤ cs.length → (∀ j (h : j < cs.length), j < i → cs[j].f0 < a) → ∃ m, m ≤ cs.length ∧ (∀ j (h : j < cs.length), j < m → cs[j].f0 < a) ∧ (∀ h : m < cs.length, ¬ cs[m].f0 < a) ∧ Ev (fun k => spec_l2Put.l0 k (i : Int) cs rs a b) (cs.take m ++ ⟨a, b⟩ :: cs.drop m, rs) := by
    intro d
    induction d with
    | zero =>
      intro i hd hi hj
      obtain rfl : i = cs.length := by omega
      refine ⟨cs.length, Nat.le_refl _, fun j h hlt => hj j h hlt, fun h => absurd h (Nat.lt_irrefl _), ?_⟩
      refine Ev.step (fun q => by rw [spec_l2Put.l0]) ?_
      simp only [Int.lt_irrefl, if_false, own_f cs rs hc hr, Option.bind_some, show (0 : Int) ≤ (cs.length : Int) by omega, Int.le_refl, if_true, Int.toNat_natCast, List.take_length, List.drop_length, List.nil_append, List.length_nil, Nat.zero_add, List.length_append, List.length_singleton, List.append_nil, show cs.length < 8796093022208 by omega, show cs.length + 1 < 8796093022208 by omega, show cs.length + 1 + 0 < 8796093022208 by omega]
      exact Ev.now _
    | succ d ih =>
      intro i hd hi hj
      have hlt : i < cs.length := by omega
      have a3 : (i : Int) < (cs.length : Int) := by omega
      have a4 : (0 : Int) ≤ (i : Int) := by omega
      by_cases h : cs[i].f0 < a
      · obtain ⟨m, h1, h2, h3, h4⟩ := ih (i + 1) (by omega) (by omega) (fun j hl hlt2 => by
          by_cases e : j = i
          · subst e; exact h
          · exact hj j hl (by omega))
        refine ⟨m, h1, h2, h3, Ev.step (fun q => by rw [spec_l2Put.l0]) ?_⟩
        simp only [a3, a4, if_true, rdC cs i hlt, h, w64 i (by omega)]
        exact h4
      · refine ⟨i, hi, hj, fun _ => h, Ev.step (fun q => by rw [spec_l2Put.l0]) ?_⟩
        have e1 : (cs.take i).length = i := by rw [List.length_take]; omega
        have e2 : (cs.drop i).length = cs.length - i := List.length_drop
        simp only [a3, a4, if_true, rdC cs i hlt, h, if_false, own_f cs rs hc hr, Option.bind_some, show (i : Int) ≤ (cs.length : Int) by omega, Int.toNat_natCast, List.nil_append, List.length_nil, Nat.zero_add, List.length_append, List.length_singleton, e1, e2, show i < 8796093022208 by omega, show i + 1 < 8796093022208 by omega, show i + 1 + (cs.length - i) < 8796093022208 by omega, List.append_assoc, List.singleton_append]
        exact Ev.now _
  exact key cs.length 0 (by omega) (by omega) (fun j _ h => absurd h (Nat.not_lt_zero _))
/-- A context that is put to its place: sorted, and the same elements. -/
theorem put_sorted {cs : List S44} (hs : cs.Pairwise fun a b => a.f0 < b.f0) (c : S44) (m : Nat) (hm : m ≤ cs.length) (h1 : ∀ j (h : j < cs.length), j < m → cs[j].f0 < c.f0) (h2 : ∀ h : m < cs.length, ¬ cs[m].f0 < c.f0) : (cs.take m ++ c :: cs.drop m).Perm (cs ++ [c]) ∧ (cs.take m ++ c :: cs.drop m).Pairwise fun a b => Go.Proofs.ltOf cfC b a = false := by
  constructor
  · have h3 : (cs.take m ++ ([c] ++ cs.drop m)).Perm (cs.take m ++ (cs.drop m ++ [c])) := List.Perm.append_left _ List.perm_append_comm
    have e : cs.take m ++ (cs.drop m ++ [c]) = cs ++ [c] := by rw [← List.append_assoc, List.take_append_drop]
    rw [e] at h3
    exact h3
  · have hs2 := List.pairwise_iff_getElem.1 hs
    have key : (cs.take m ++ c :: cs.drop m).Pairwise fun a b => a.f0 ≤ b.f0 := by
      rw [List.pairwise_append]
      refine ⟨(hs.sublist (List.take_sublist _ _)).imp fun h => by omega, ?_, ?_⟩
      · rw [List.pairwise_cons]
        refine ⟨fun x hx => ?_, (hs.sublist (List.drop_sublist _ _)).imp fun h => by omega⟩
        obtain ⟨j, hj, rfl⟩ := List.mem_iff_getElem.1 hx
        rw [List.length_drop] at hj
        rw [List.getElem_drop]
        have h3 := h2 (by omega)
        by_cases e : j = 0
        · subst e; simp only [Nat.add_zero]; omega
        · have := hs2 m (m + j) (by omega) (by omega) (by omega); omega
      · intro x hx y hy
        obtain ⟨j, hj, rfl⟩ := List.mem_iff_getElem.1 hx
        rw [List.length_take] at hj
        rw [List.getElem_take]
        have h3 := h1 j (by omega) (by omega)
        rcases List.mem_cons.1 hy with rfl | hy
        · omega
        · obtain ⟨q, hq, rfl⟩ := List.mem_iff_getElem.1 hy
          rw [List.length_drop] at hq
          rw [List.getElem_drop]
          have := hs2 j (m + q) (by omega) (by omega) (by omega); omega
    exact key.imp fun h => by rw [ltC]; simp; omega
theorem both (cs : List S44) (rs : List S36) (a b : Int) (hc : cs.length ≤ 1048576) (hr : rs.length ≤ 1048576) : ∃ A, impl_AddContext.f cs rs a b = some A ∧ Ev (fun k => spec_AddContext.f k cs rs a b) A ∧ A.1.length ≤ 1000 ∧ A.2.1.length ≤ 1000 := by
  unfold impl_AddContext.f spec_AddContext.f
  simp only [spec_l2Good.f, Option.bind_some]
  by_cases hg : goodB cs rs = true
  · obtain ⟨m, h1, h2, h3, h4⟩ := put_ev cs rs a b hc hr
    obtain ⟨hp, hs⟩ := put_sorted (good_parts hg).2.2.1 ⟨a, b⟩ m h1 h2 h3
    have ht := tidyC_eq hp hs rs
    rw [tidyR_self hg, ← ht.1]
    refine ⟨_, rfl, ?_, ?_⟩
    · simp only [hg, if_true]
      refine Ev.bind h4 ?_
      cases hG : goodB (cs.take m ++ ⟨a, b⟩ :: cs.drop m) rs with
      | false =>
        simp only [Bool.false_eq_true, if_false]
        exact Ev.now _
      | true =>
        simp only [if_true]
        refine Ev.bind h4 ?_
        rw [← ht.2 hG]
        exact Ev.now _
    · simp only [hg, if_true]
      cases hG : goodB (cs.take m ++ ⟨a, b⟩ :: cs.drop m) rs with
      | false => simp
      | true =>
        simp only [if_true]
        rw [← ht.2 hG]
        have := good_parts hG
        have := this.1
        have := (good_parts hG).2.1
        omega
  · simp only [hg, if_false, Bool.false_eq_true]
    exact ⟨_, rfl, Ev.now _, by simp, by simp⟩
theorem FnExactAddContext : ∀ (l0_0 : List (S42)) (l0_1 : List (S27)) (a1_0 : Int) (a1_1 : Int), ((l0_0.length ≤ 9223372036854775807) ∧ ∀ y4 ∈ l0_0, ((Lit.int .i64 y4.f0).wf = true) ∧ ((Lit.int .i64 y4.f1).wf = true)) → ((l0_1.length ≤ 9223372036854775807) ∧ ∀ y4 ∈ l0_1, ((Lit.int .i64 y4.f0).wf = true) ∧ ((Lit.int .i64 y4.f1).wf = true)) → ((Lit.int .i64 a1_0).wf = true) → ((Lit.int .i64 a1_1).wf = true) → ∃ k, laws_FnExactAddContext.f k l0_0 l0_1 a1_0 a1_1 = some true := by
  intro l0 l1 a1 a2 _ _ _ _
  by_cases hbig : 1048576 < l0.length ∨ 1048576 < l1.length
  · exact ⟨0, by unfold laws_FnExactAddContext.f; rw [if_pos hbig]⟩
  · have hC : (l0.map LB.cvC).length ≤ 1048576 := by rw [List.length_map]; omega
    have hR : (l1.map LB.cvR).length ≤ 1048576 := by rw [List.length_map]; omega
    obtain ⟨A, hi, hev, h1, h2⟩ := both (l0.map LB.cvC) (l1.map LB.cvR) a1 a2 hC hR
    obtain ⟨k, hk⟩ := Ev.rounds hev
    refine ⟨k, ?_⟩
    unfold laws_FnExactAddContext.f
    rw [if_neg hbig, hi]
    exact if_pos ⟨hk, h1, h2⟩
end Go.Proofs.Ytlmdmnenljmdgaa.Pure
