/- Plain facts: the text of a record, written by the program and by the reference; the law of FormatRecord. -/
import Derived.Test.YtdmbboijcaelcaaDoorQF10
import Derived.Test.YtdmbboijcaelcaaDoorQF38
import Derived.Test.YtdmbboijcaelcaaDoorQF36
import Derived.Test.YtdmbboijcaelcaaDoorNum
namespace Go.Proofs.YtdmbboijcaelcaaDoor.Q
open Go.RowKit Go.Proofs.YtdmbboijcaelcaaDoorW.PrintWords Go.Proofs.YtdmbboijcaelcaaDoorW.PrintLast
set_option linter.unusedVariables false
set_option linter.unusedSimpArgs false
def nlFrom : ByteArray → List ByteArray → ByteArray
  | a, [] => a
  | a, x :: r => nlFrom (a ++ (x ++ (⟨#[10]⟩ : ByteArray))) r
theorem nl_size (x : ByteArray) : (x ++ (⟨#[10]⟩ : ByteArray)).size = x.size + 1 := by rw [ByteArray.size_append]; rfl
theorem nlFrom_append (a : ByteArray) (x y : List ByteArray) : nlFrom a (x ++ y) = nlFrom (nlFrom a x) y := by
  induction x generalizing a with
  | nil => rfl
  | cons z r ih => rw [List.cons_append, nlFrom, nlFrom, ih]
theorem newlines_ev (xs : List ByteArray) (hl : xs.length ≤ 1000) (hx : ∀ x ∈ xs, x.size ≤ 100) : Ev (fun k => impl_withNewlines.f k xs) (nlFrom ⟨#[]⟩ xs) := by
  have key : ∀ d i (a : ByteArray), xs.length - i = d → i ≤ xs.length → a.size ≤ 200 * i → Ev (fun k => impl_withNewlines.l0 k a xs (xs.length : Int) (i : Int)) (nlFrom a (xs.drop i)) := by
    intro d
    induction d with
    | zero =>
      intro i a hd hi ha
      obtain rfl : i = xs.length := by omega
      refine Ev.step (fun q => by rw [impl_withNewlines.l0]) ?_
      simp only [Int.lt_irrefl, if_false, List.drop_length, nlFrom]
      exact Ev.now _
    | succ d ih =>
      intro i a hd hi ha
      have hlt : i < xs.length := by omega
      have hs := hx xs[i] (List.getElem_mem hlt)
      have e2 : rdOf ByteArray.empty xs (i : Int) = xs[i] := by simp [rdOf, hlt]
      refine Ev.step (fun q => by rw [impl_withNewlines.l0]) ?_
      simp only [show (i : Int) < (xs.length : Int) by omega, show (0 : Int) ≤ (i : Int) by omega, if_true, e2, nl_size, show xs[i].size + 1 ≤ 9223372036854775807 by omega, show a.size + (xs[i].size + 1) ≤ 9223372036854775807 by omega, wsucc i (by omega)]
      rw [List.drop_eq_getElem_cons hlt, nlFrom]
      exact ih (i + 1) _ (by omega) (by omega) (by rw [ByteArray.size_append, nl_size]; omega)
  exact key xs.length 0 ⟨#[]⟩ (by omega) (by omega) (by show 0 ≤ _; omega)
theorem ctxB_size {x : S94} (h : 1 ≤ x.f0 ∧ x.f0 ≤ 999 ∧ 1 ≤ x.f1 ∧ x.f1 ≤ 4) : (ctxB x).size ≤ 100 := by
  have h1 := itB_small x.f0 (by omega) (by omega)
  have h2 := kw_small x.f1 (by omega) (by omega)
  unfold ctxB
  rw [ByteArray.size_append, ByteArray.size_append, ByteArray.size_append]
  have e1 : (⟨#[99, 111, 110, 116, 101, 120, 116, 32]⟩ : ByteArray).size = 8 := rfl
  have e2 : (⟨#[32]⟩ : ByteArray).size = 1 := rfl
  omega
theorem relB_size {x : S96} (h : (1 ≤ x.f0 ∧ x.f0 ≤ 999) ∧ 1 ≤ x.f1 ∧ x.f1 ≤ 999) : (relB x).size ≤ 100 := by
  have h1 := itB_small x.f0 (by omega) (by omega)
  have h2 := itB_small x.f1 (by omega) (by omega)
  unfold relB
  rw [ByteArray.size_append, ByteArray.size_append]
  have e1 : (⟨#[32, 97, 98, 111, 118, 101, 32]⟩ : ByteArray).size = 7 := rfl
  omega
theorem ctx_ev {x : S94} (h : 1 ≤ x.f0 ∧ x.f0 ≤ 999 ∧ 1 ≤ x.f1 ∧ x.f1 ≤ 4) : Ev (fun k => spec_l3Context.f k x.f0 x.f1) (ctxB x) := by
  have h1 := itB_small x.f0 (by omega) (by omega)
  have h2 := kw_small x.f1 (by omega) (by omega)
  unfold spec_l3Context.f
  refine Ev.bind (num_ev x.f0 (by omega) (by omega)) ?_
  rw [if_pos ⟨by omega, by omega, Nat.le_trans h1 (by decide), Nat.le_trans h2 (by decide)⟩]
  exact Ev.now _
theorem rel_ev {x : S96} (h : (1 ≤ x.f0 ∧ x.f0 ≤ 999) ∧ 1 ≤ x.f1 ∧ x.f1 ≤ 999) : Ev (fun k => spec_l3Relation.f k x.f0 x.f1) (relB x) := by
  have h1 := itB_small x.f0 (by omega) (by omega)
  have h2 := itB_small x.f1 (by omega) (by omega)
  unfold spec_l3Relation.f
  refine Ev.bind (num_ev x.f0 (by omega) (by omega)) ?_
  refine Ev.bind (num_ev x.f1 (by omega) (by omega)) ?_
  rw [if_pos ⟨Nat.le_trans h1 (by decide), Nat.le_trans h2 (by decide)⟩]
  exact Ev.now _
theorem app_assoc (a b c : ByteArray) : (a ++ b) ++ c = a ++ (b ++ c) := by
  apply ByteArray.ext
  simp [Array.append_assoc]
theorem rectext_ev (cs : List S94) (rs : List S96) (hc : ∀ x ∈ cs, 1 ≤ x.f0 ∧ x.f0 ≤ 999 ∧ 1 ≤ x.f1 ∧ x.f1 ≤ 4) (hr : ∀ x ∈ rs, (1 ≤ x.f0 ∧ x.f0 ≤ 999) ∧ 1 ≤ x.f1 ∧ x.f1 ≤ 999) (hcl : cs.length ≤ 1000) (hrl : rs.length ≤ 1000) :
    Ev (fun k => spec_l3Text.f k cs rs) (nlFrom ⟨#[]⟩ (cs.map ctxB ++ rs.map relB)) := by
  have key1 : ∀ d i (a : ByteArray), rs.length - i = d → i ≤ rs.length → a.size ≤ 200 * (i + 1000) → Ev (fun k => spec_l3Text.l1 k a (i : Int) cs rs) (nlFrom a ((rs.drop i).map relB)) := by
    intro d
    induction d with
    | zero =>
      intro i a hd hi ha
      obtain rfl : i = rs.length := by omega
      refine Ev.step (fun q => by rw [spec_l3Text.l1]) ?_
      simp only [Int.lt_irrefl, if_false, List.drop_length, List.map_nil, nlFrom]
      exact Ev.now _
    | succ d ih =>
      intro i a hd hi ha
      have hlt : i < rs.length := by omega
      have hm := hr rs[i] (List.getElem_mem hlt)
      have hs := relB_size hm
      have e2 : rd_T96 rs (i : Int) = rs[i] := by simp [rd_T96, hlt]
      refine Ev.step (fun q => by rw [spec_l3Text.l1]) ?_
      simp only [show (i : Int) < (rs.length : Int) by omega, show (0 : Int) ≤ (i : Int) by omega, if_true, e2]
      refine Ev.bind (rel_ev hm) ?_
      simp only [ByteArray.size_append, show a.size + (relB rs[i]).size ≤ 9223372036854775807 by omega, show a.size + (relB rs[i]).size + 1 ≤ 9223372036854775807 by omega, if_true, wsucc i (by omega), app_assoc]
      rw [List.drop_eq_getElem_cons hlt, List.map_cons, nlFrom]
      exact ih (i + 1) _ (by omega) (by omega) (by rw [ByteArray.size_append, nl_size]; omega)
  have key0 : ∀ d i (a : ByteArray), cs.length - i = d → i ≤ cs.length → a.size ≤ 200 * i → Ev (fun k => spec_l3Text.l0 k a (i : Int) cs rs) (nlFrom a ((cs.drop i).map ctxB ++ rs.map relB)) := by
    intro d
    induction d with
    | zero =>
      intro i a hd hi ha
      obtain rfl : i = cs.length := by omega
      refine Ev.step (fun q => by rw [spec_l3Text.l0]) ?_
      simp only [Int.lt_irrefl, if_false, List.drop_length, List.map_nil, List.nil_append]
      have h := key1 rs.length 0 a (by omega) (by omega) (by omega)
      rw [List.drop_zero] at h
      exact h
    | succ d ih =>
      intro i a hd hi ha
      have hlt : i < cs.length := by omega
      have hm := hc cs[i] (List.getElem_mem hlt)
      have hs := ctxB_size hm
      have e2 : rd_T94 cs (i : Int) = cs[i] := by simp [rd_T94, hlt]
      refine Ev.step (fun q => by rw [spec_l3Text.l0]) ?_
      simp only [show (i : Int) < (cs.length : Int) by omega, show (0 : Int) ≤ (i : Int) by omega, if_true, e2]
      refine Ev.bind (ctx_ev hm) ?_
      simp only [ByteArray.size_append, show a.size + (ctxB cs[i]).size ≤ 9223372036854775807 by omega, show a.size + (ctxB cs[i]).size + 1 ≤ 9223372036854775807 by omega, if_true, wsucc i (by omega), app_assoc]
      rw [List.drop_eq_getElem_cons hlt, List.map_cons, List.cons_append, nlFrom]
      exact ih (i + 1) _ (by omega) (by omega) (by rw [ByteArray.size_append, nl_size]; omega)
  exact key0 cs.length 0 ⟨#[]⟩ (by omega) (by omega) (by show 0 ≤ _; omega)
theorem keep_all (cs : List S94) (rs : List S96) : keepR allK cs rs = cs.map ctxB ++ rs.map relB := by
  have h1 : cs.filter (fun x => allK [x.f0]) = cs := List.filter_eq_self.2 (fun x _ => rfl)
  have h2 : rs.filter (fun x => allK [x.f0, x.f1]) = rs := List.filter_eq_self.2 (fun x _ => rfl)
  unfold keepR keepC
  rw [h1, h2]
/-- The text of a record. -/
def recT (cs : List S94) (rs : List S96) : ByteArray := nlFrom ⟨#[]⟩ (cs.map ctxB ++ rs.map relB)
theorem format_spec (cs : List S94) (rs : List S96) : ∃ k, spec_FormatRecord.f k cs rs = some (fmtRI cs rs (recT cs rs)) := by
  refine Ev.rounds ?_
  unfold spec_FormatRecord.f fmtRI
  have hg : spec_l2Good.f cs rs = some (goodB cs rs) := rfl
  simp only [hg, Option.bind_some]
  cases hb : goodB cs rs with
  | false => simp only [Bool.false_eq_true, if_false]; exact Ev.now _
  | true =>
    have h := good_bounds hb
    simp only [if_true]
    refine Ev.bind (rectext_ev cs rs h.2.2.1 h.2.2.2 (by omega) (by omega)) ?_
    exact Ev.now _
theorem newlines_rec {cs : List S94} {rs : List S96} (hb : goodB cs rs = true) : ∃ kn, impl_withNewlines.f kn (keepR allK cs rs) = some (recT cs rs) := by
  have h := good_bounds hb
  refine Ev.rounds ?_
  rw [keep_all]
  refine newlines_ev _ (by rw [List.length_append, List.length_map, List.length_map]; omega) (fun x hx => ?_)
  rcases List.mem_append.1 hx with hx | hx
  · obtain ⟨y, hy, rfl⟩ := List.mem_map.1 hx
    exact ctxB_size (h.2.2.1 y hy)
  · obtain ⟨y, hy, rfl⟩ := List.mem_map.1 hx
    exact relB_size (h.2.2.2 y hy)
theorem FormatRecord_both (cs : List S94) (rs : List S96) : ∃ (k : Nat) (tx : ByteArray) (bb : Bool), spec_FormatRecord.f k cs rs = some (tx, bb) ∧ ∀ (W : World) (A B : Option Addr) (c d : Nat), LW W → Kd.C k94 W A cs.length cs → cs.length ≤ c → Kd.C k96 W B rs.length rs → rs.length ≤ d → Calls Tryd.prog 38 #[.agg #[.slice A cs.length c, .slice B rs.length d]] W fun e w' => e = .returned (.tuple #[.string tx, .bool bb]) ∧ Below W.heap.size W w' := by
  obtain ⟨k, hk⟩ := format_spec cs rs
  have hn : ∃ kn, goodB cs rs = true → impl_withNewlines.f kn (keepR allK cs rs) = some (recT cs rs) := by
    cases hb : goodB cs rs with
    | false => exact ⟨0, fun h => by cases h⟩
    | true =>
      obtain ⟨kn, hkn⟩ := newlines_rec hb
      exact ⟨kn, fun _ => hkn⟩
  obtain ⟨kn, hkn⟩ := hn
  exact ⟨k, _, _, hk, fun W A B c d hl h1 h2 h3 h4 => impl_FormatRecord.calls kn (recT cs rs) A c cs B d rs W h1 h2 h3 h4 hkn hl⟩
theorem law_FnExactFormatRecord_calls (A0 : Option Addr) (c0 : Nat) (l0 : List S119) (A1 : Option Addr) (c1 : Nat) (l1 : List S121) (w : World) (hr0 : Kd.C k119 w A0 l0.length l0) (hc0 : l0.length ≤ c0) (hr1 : Kd.C k121 w A1 l1.length l1) (hc1 : l1.length ≤ c1) (hlw : LW w) :
    Calls Tryd.prog 10 #[.agg #[.slice A0 l0.length c0, .slice A1 l1.length c1]] w fun e w' => e = .returned (.bool true) ∧ Below w.heap.size w w' :=
  laws_FnExactFormatRecord.calls A0 c0 l0 A1 c1 l1 w hr0 hc0 hr1 hc1 hlw (fun cs rs _ _ => FormatRecord_both cs rs)
end Go.Proofs.YtdmbboijcaelcaaDoor.Q
