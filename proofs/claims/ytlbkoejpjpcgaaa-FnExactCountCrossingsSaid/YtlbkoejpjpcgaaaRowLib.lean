-- Written by a program of this session (wip/xprint.py over the kit's printer).
/- How an argument's data read as the printed kinds: integers, strings, structs, slices of whatever is told so. No program is named here. -/
import Derived.Deep.Slices
import Derived.Lib.SmallJoins
import Derived.Test.YtlbkoejpjpcgaaaWAll
namespace Go.Proofs.Ytlbkoejpjpcgaaa.RowLib
open Go.RowKit Go.Deep Go.Joins Go.ChangeShapes Go.Proofs.YtlbkoejpjpcgaaaW.PrintWords
set_option linter.unusedVariables false
section
variable {H : Type} {enc : TypeId × Value → H} {P : Program} {w : World} {base : Nat} {spare : Nat → Bool} {held : Bool}
/-- Whatever reads as data of type t is, cell by cell, what the kind d tells of some x, and Q x. -/
def RK {α : Type} (enc : TypeId × Value → H) (P : Program) (w : World) (base : Nat) (spare : Nat → Bool) (held : Bool) (d : Kd α) (Q : α → Prop) (t : TypeId) : Prop :=
  P.cellsOf t = d.sz ∧ ∀ n cs x, DataW.trod enc P w base spare held n t cs = some x → ∃ v, d.K w v cs ∧ Q v
theorem rk_int {t : TypeId} (ht : P.underlying t = some (.int .i64)) (hc : P.cellsOf t = 1) : RK enc P w base spare held (Kd.int .i64) (fun n => (Lit.int .i64 n).wf = true) t :=
  ⟨hc, fun n cs x h => by
    obtain ⟨m, rfl, _, hw⟩ := DataW.trod_int ht h
    exact ⟨m, rfl, hw⟩⟩
theorem rk_string {t : TypeId} (ht : P.underlying t = some .string) (hc : P.cellsOf t = 1) : RK enc P w base spare held Kd.string (fun s => s.size ≤ maxLen) t :=
  ⟨hc, fun n cs x h => by
    obtain ⟨m, rfl, _, hw⟩ := DataW.trod_string ht h
    exact ⟨m, rfl, hw⟩⟩
theorem rk_pair {α β : Type} {d : Kd α} {d' : Kd β} {Q : α → Prop} {Q' : β → Prop} {t : TypeId} {f0 f1 : Field} (ht : P.underlying t = some (.struct #[f0, f1])) (hc : P.cellsOf t = d.sz + d'.sz) (ho0 : f0.offset = 0) (ho1 : f1.offset = d.sz)
    (h0 : RK enc P w base spare held d Q f0.type) (h1 : RK enc P w base spare held d' Q' f1.type) : RK enc P w base spare held (Kd.pair d d') (fun p => Q p.1 ∧ Q' p.2) t :=
  ⟨hc, fun n cs x h => by
    obtain ⟨y0, y1, m, _, hl, hf0, hf1⟩ := trod_struct2 ht h
    obtain ⟨v0, k0, q0⟩ := h0.2 _ _ _ hf0
    obtain ⟨v1, k1, q1⟩ := h1.2 _ _ _ hf1
    rw [ho0, List.drop_zero, h0.1] at k0
    rw [ho1, h1.1, List.take_of_length_le (by rw [List.length_drop]; omega)] at k1
    exact ⟨(v0, v1), ⟨cs.take d.sz, cs.drop d.sz, (List.take_append_drop _ _).symm, k0, k1⟩, q0, q1⟩⟩
theorem rk_iso {α β : Type} {d : Kd α} {Q : α → Prop} {t : TypeId} (f : β → α) (g : α → β) (hg : ∀ x, f (g x) = x) (h : RK enc P w base spare held d Q t) : RK enc P w base spare held (Kd.iso d f) (fun x => Q (f x)) t :=
  ⟨h.1, fun n cs x hx => by
    obtain ⟨v, k, q⟩ := h.2 _ _ _ hx
    exact ⟨g v, (by show d.K w (f (g v)) cs; rw [hg]; exact k), by show Q (f (g v)); rw [hg]; exact q⟩⟩
theorem rk_row {α : Type} [Inhabited α] {d : Kd α} {Q : α → Prop} {t e : TypeId} (ht : P.underlying t = some (.slice e)) (h : RK enc P w base spare held d Q e) {n : Nat} {cs : List Value} {x : DataW H × List MemPlace} (hx : DataW.trod enc P w base spare held n t cs = some x) :
    ∃ (A : Option Addr) (c : Nat) (xs : List α), cs = [.slice A xs.length c] ∧ xs.length ≤ c ∧ d.C w A xs.length xs ∧ xs.length ≤ 9223372036854775807 ∧ ∀ y ∈ xs, Q y := by
  rcases open_slice ht hx with ⟨rfl, _⟩ | ⟨a, len, cap, m, n', D, Pl, rfl, hb, hl, hm, hmm, _, hi⟩
  · exact ⟨none, 0, [], rfl, Nat.le_refl _, ⟨rfl, by simp, fun h => absurd h (by simp)⟩, by simp, fun y hy => by simp at hy⟩
  · have hml : len ≤ m := by rw [hmm]; split <;> omega
    obtain ⟨f, hf⟩ := choose_lt (α := α) (n := len) (p := fun i v => (∃ c : List Value, c.length = d.sz ∧ d.K w v c ∧ ∀ j u, c[j]? = some u → w.cell? (a.add (i * d.sz + j)) = some u) ∧ Q v) (fun i hlt => by
      obtain ⟨cs', h1, h2⟩ := hi i (by omega)
      obtain ⟨v, hk, hq⟩ := h.2 _ _ _ h2
      obtain ⟨_, hlen, hcell⟩ := World.cells?_some h1
      rw [h.1] at hlen hcell
      refine ⟨v, ⟨cs', hlen, hk, fun j u hu => ?_⟩, hq⟩
      have hj : j < d.sz := by
        have := (List.getElem?_eq_some_iff.1 hu).1
        omega
      rw [← Deep.add_add, hcell j hj, hu])
    have hlen0 : ((List.range len).map f).length ≤ 9223372036854775807 := by
      rw [List.length_map, List.length_range]
      have : cap ≤ 9223372036854775807 := by simpa [maxLen] using hm
      omega
    refine ⟨some a, cap, (List.range len).map f, by rw [List.length_map, List.length_range], by rw [List.length_map, List.length_range]; exact hl, ⟨rfl, hlen0, fun _ => ⟨a, rfl, fun j p hj => ?_⟩⟩, hlen0, fun y hy => ?_⟩
    · obtain ⟨hj1, rfl⟩ := List.getElem?_eq_some_iff.1 hj
      rw [List.length_map, List.length_range] at hj1
      rw [List.getElem_map, List.getElem_range]
      exact (hf j hj1).1
    · obtain ⟨i, hi2, rfl⟩ := List.mem_map.1 hy
      exact (hf i (by simpa using hi2)).2
theorem rk_slice {α : Type} [Inhabited α] {d : Kd α} {Q : α → Prop} {t e : TypeId} (ht : P.underlying t = some (.slice e)) (hc : P.cellsOf t = 1) (h : RK enc P w base spare held d Q e) : RK enc P w base spare held (Kd.slice e d) (fun l => l.length ≤ 9223372036854775807 ∧ ∀ y ∈ l, Q y) t :=
  ⟨hc, fun n cs x hx => by
    obtain ⟨A, c, xs, rfl, hl, hC, _, hq⟩ := rk_row ht h hx
    exact ⟨xs, ⟨A, c, rfl, hl, hC⟩, hC.2.1, hq⟩⟩
/-- A slice that is an argument. -/
theorem row_arg {α : Type} [Inhabited α] {d : Kd α} {Q : α → Prop} {t e : TypeId} {v : Value} {x : DataW H} {p : List MemPlace} (ht : P.underlying t = some (.slice e)) (hv : v.cells = #[v]) (h : RK enc P w base spare held d Q e) (hx : DataW.Trod enc P w base spare held t v x p) :
    ∃ (A : Option Addr) (c : Nat) (xs : List α), v = .slice A xs.length c ∧ xs.length ≤ c ∧ d.C w A xs.length xs ∧ xs.length ≤ 9223372036854775807 ∧ ∀ y ∈ xs, Q y := by
  obtain ⟨fuel, hf⟩ := hx
  obtain ⟨A, c, xs, he, hl, hC, hn, hq⟩ := rk_row ht h hf
  rw [hv] at he
  injection he with he
  exact ⟨A, c, xs, he, hl, hC, hn, hq⟩
end
end Go.Proofs.Ytlbkoejpjpcgaaa.RowLib
