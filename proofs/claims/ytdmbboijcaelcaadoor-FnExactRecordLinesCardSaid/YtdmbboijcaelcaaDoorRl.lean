/- Plain facts: the lines of a record in which a context occurs. -/
import Derived.Test.YtdmbboijcaelcaaDoorFr
import Derived.Test.YtdmbboijcaelcaaDoorQF40
import Derived.Test.YtdmbboijcaelcaaDoorQF41
namespace Go.Proofs.YtdmbboijcaelcaaDoor.Q
open Go.RowKit Go.Proofs.YtdmbboijcaelcaaDoorW.PrintWords Go.Proofs.YtdmbboijcaelcaaDoorW.PrintLast
set_option linter.unusedVariables false
set_option linter.unusedSimpArgs false
theorem ctx_rising : ∀ (cs : List S94) (p : Option Int), ctxOk p cs = true → (∀ q, p = some q → ∀ x ∈ cs, q < x.f0) ∧ cs.Pairwise (fun a b => a.f0 < b.f0)
  | [], _, _ => ⟨fun _ _ x hx => by simp at hx, List.Pairwise.nil⟩
  | c :: r, p, h => by
    simp only [ctxOk, Bool.and_eq_true, decide_eq_true_eq] at h
    obtain ⟨h1, h2⟩ := ctx_rising r (some c.f0) h.2
    refine ⟨fun q hq x hx => ?_, List.pairwise_cons.2 ⟨fun x hx => h1 c.f0 rfl x hx, h2⟩⟩
    subst hq
    have hqc : q < c.f0 := by have := h.1.2; simpa using this
    rcases List.mem_cons.1 hx with rfl | hx
    · exact hqc
    · exact Int.lt_trans hqc (h1 c.f0 rfl x hx)
theorem filter_one (n : Int) : ∀ (cs : List S94), cs.Pairwise (fun a b => a.f0 < b.f0) → ∀ x ∈ cs, x.f0 = n → cs.filter (fun y => inK n [y.f0]) = [x]
  | [], _, x, hx, _ => by simp at hx
  | c :: r, h, x, hx, hn => by
    obtain ⟨h1, h2⟩ := List.pairwise_cons.1 h
    rw [List.filter_cons]
    rcases List.mem_cons.1 hx with rfl | hx
    · rw [if_pos (by simp [inK, hn])]
      have : r.filter (fun y => inK n [y.f0]) = [] := by
        rw [List.filter_eq_nil_iff]
        intro y hy
        have := h1 y hy
        have hne : ¬ n = y.f0 := by omega
        simp [inK, hne]
      rw [this]
    · have := h1 x hx
      have hne : ¬ n = c.f0 := by omega
      rw [if_neg (by simp [inK, hne])]
      exact filter_one n r h2 x hx hn
theorem inK_two (n a b : Int) : inK n [a, b] = (decide (a = n) || decide (b = n)) := by
  show [a, b].contains n = _
  by_cases h1 : a = n
  · subst h1; simp
  · by_cases h2 : b = n
    · subst h2; simp
    · have h1' : ¬ n = a := fun e => h1 e.symm
      have h2' : ¬ n = b := fun e => h2 e.symm
      simp [h1, h2, h1', h2']
theorem lines_loop (cs : List S94) (rs : List S96) (n : Int) (hr : ∀ x ∈ rs, (1 ≤ x.f0 ∧ x.f0 ≤ 999) ∧ 1 ≤ x.f1 ∧ x.f1 ≤ 999) (hrl : rs.length ≤ 1000) : ∀ d i (out : List ByteArray), rs.length - i = d → i ≤ rs.length → out.length ≤ 1 + i →
    Ev (fun k => spec_RecordLines.l0 k n out (i : Int) cs rs) (out ++ ((rs.drop i).filter (fun x => inK n [x.f0, x.f1])).map relB, true) := by
  intro d
  induction d with
  | zero =>
    intro i out hd hi ho
    obtain rfl : i = rs.length := by omega
    refine Ev.step (fun q => by rw [spec_RecordLines.l0]) ?_
    simp only [Int.lt_irrefl, if_false, List.drop_length, List.filter_nil, List.map_nil, List.append_nil]
    exact Ev.now _
  | succ d ih =>
    intro i out hd hi ho
    have hlt : i < rs.length := by omega
    have hm := hr rs[i] (List.getElem_mem hlt)
    have e2 : rd_T96 rs (i : Int) = rs[i] := by simp [rd_T96, hlt]
    refine Ev.step (fun q => by rw [spec_RecordLines.l0]) ?_
    simp only [show (i : Int) < (rs.length : Int) by omega, show (0 : Int) ≤ (i : Int) by omega, if_true, e2]
    rw [List.drop_eq_getElem_cons hlt, List.filter_cons, inK_two]
    by_cases h0 : (rs[i]).f0 = n
    · simp only [h0, if_true, decide_true, Bool.true_or, List.map_cons]
      have he := rel_ev hm
      rw [h0] at he
      refine Ev.bind he ?_
      simp only [show out.length < 8796093022208 by omega, if_true, wsucc i (by omega)]
      have h := ih (i + 1) (out ++ [relB rs[i]]) (by omega) (by omega) (by rw [List.length_append, List.length_singleton]; omega)
      rw [List.append_assoc] at h
      exact h
    · simp only [h0, if_false, decide_false, Bool.false_or]
      by_cases h1 : (rs[i]).f1 = n
      · simp only [h1, if_true, decide_true, List.map_cons]
        have he := rel_ev hm
        rw [h1] at he
        refine Ev.bind he ?_
        simp only [show out.length < 8796093022208 by omega, if_true, wsucc i (by omega)]
        have h := ih (i + 1) (out ++ [relB rs[i]]) (by omega) (by omega) (by rw [List.length_append, List.length_singleton]; omega)
        rw [List.append_assoc] at h
        exact h
      · simp only [h1, if_false, decide_false, Bool.false_eq_true, wsucc i (by omega)]
        exact ih (i + 1) out (by omega) (by omega) (by omega)
theorem lines_ev (cs : List S94) (rs : List S96) (n : Int) : ∃ k, spec_RecordLines.f k cs rs n = some (linesI cs rs n) := by
  refine Ev.rounds ?_
  unfold spec_RecordLines.f linesI
  have hg : spec_l2Good.f cs rs = some (goodB cs rs) := rfl
  have hf : spec_l2Find.f cs rs n = some (find cs n) := rfl
  simp only [hg, hf, Option.bind_some]
  have hno : Ev (fun k => spec_RecordLines.j0 k n [] (find cs n) true cs rs) ([], false) := by
    refine Ev.step (fun q => by rw [spec_RecordLines.j0]) ?_
    simp only [if_true]
    exact Ev.now _
  cases hb : goodB cs rs with
  | false =>
    simp only [Bool.false_eq_true, if_false, Bool.false_and]
    exact hno
  | true =>
    simp only [if_true, Bool.true_and]
    by_cases h0 : 0 ≤ find cs n
    · have hgb := good_bounds hb
      have hlt0 : decide (find cs n < 0) = false := decide_eq_false (by omega)
      simp only [hlt0, h0, decide_true, if_true]
      unfold find at h0
      obtain ⟨i, hi, he, hp, _⟩ := idxI_found (fun c : S94 => c.f0 == n) z94 cs (by omega)
      have hfi : find cs n = (i : Int) := he
      have hgd : cs.getD i z94 = cs[i] := by simp [List.getD_eq_getElem?_getD, hi]
      rw [hgd] at hp
      have hn : (cs[i]).f0 = n := by simpa using hp
      have hmem : cs[i] ∈ cs := List.getElem_mem hi
      have hm := hgb.2.2.1 _ hmem
      have e2 : rd_T94 cs (i : Int) = cs[i] := by simp [rd_T94, hi]
      rw [hfi]
      refine Ev.step (fun q => by rw [spec_RecordLines.j0]) ?_
      simp only [Bool.false_eq_true, if_false, show (0 : Int) ≤ (i : Int) by omega, show (i : Int) < (cs.length : Int) by omega, if_true, e2]
      refine Ev.bind (ctx_ev hm) ?_
      simp only [List.length_nil, show 0 < 8796093022208 by omega, if_true, List.nil_append]
      have hz := lines_loop cs rs n hgb.2.2.2 (by omega) rs.length 0 [ctxB cs[i]] (by omega) (by omega) (by simp)
      have hok : ctxOk none cs = true := by
        simp only [goodB, Bool.and_eq_true] at hb
        exact hb.1.2
      have hfl := filter_one n cs (ctx_rising cs none hok).2 cs[i] hmem hn
      have hk : keepR (inK n) cs rs = [ctxB cs[i]] ++ ((rs.drop 0).filter (fun x => inK n [x.f0, x.f1])).map relB := by
        unfold keepR keepC
        rw [hfl]
        rfl
      rw [hk]
      exact hz
    · have hlt0 : decide (find cs n < 0) = true := decide_eq_true (by omega)
      simp only [hlt0, h0, decide_false, Bool.false_eq_true, if_false]
      exact hno
theorem lines_len (cs : List S94) (rs : List S96) (n : Int) : (linesI cs rs n).1.length ≤ 1048576 := by
  unfold linesI
  split
  · rename_i h
    rw [Bool.and_eq_true] at h
    have hgb := good_bounds h.1
    have := keepR_len (inK n) cs rs
    show (keepR (inK n) cs rs).length ≤ _
    omega
  · simp
theorem RecordLines_both (cs : List S94) (rs : List S96) (n : Int) : ∃ (k : Nat) (l : List ByteArray) (bb : Bool), spec_RecordLines.f k cs rs n = some (l, bb) ∧ l.length ≤ 1048576 ∧ ∀ (W : World) (A B : Option Addr) (c d : Nat), LW W → Kd.C k94 W A cs.length cs → cs.length ≤ c → Kd.C k96 W B rs.length rs → rs.length ≤ d → Calls Tryd.prog 41 #[.agg #[.slice A cs.length c, .slice B rs.length d], .int .i64 n] W fun e w' => ∃ v, e = .returned (.tuple #[v, .bool bb]) ∧ Kd.R Kd.string 9 w' W.heap.size (fun _ => True) v l ∧ Below W.heap.size W w' := by
  obtain ⟨k, hk⟩ := lines_ev cs rs n
  exact ⟨k, _, _, hk, lines_len cs rs n, fun W A B c d hl h1 h2 h3 h4 => impl_RecordLines.calls A c cs B d rs n W h1 h2 h3 h4 hl⟩
end Go.Proofs.YtdmbboijcaelcaaDoor.Q
