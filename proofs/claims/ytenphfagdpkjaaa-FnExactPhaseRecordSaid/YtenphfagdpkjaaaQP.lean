-- Written by a program of this session (wip/xprint.py over the kit's printer).
import Derived.Test.YtenphfagdpkjaaaQ0
namespace Go.Proofs.Ytenphfagdpkjaaa.Q
open Go.RowKit Go.Proofs.YtenphfagdpkjaaaW.PrintWords Go.Proofs.YtenphfagdpkjaaaW.PrintLast
set_option linter.unusedVariables false
set_option linter.unusedSimpArgs false

/-! ### what the externals share -/
/-- What is asked of a predicate that is handed over as a function value: in whatever world in which all that lay in w lies unturned it answers p x; it may lay blocks of its own. -/
def PredB {α : Type} (P : Program) (g : Nat) (lb : Array Value) (enc : α → Value) (p : α → Bool) (w : World) : Prop :=
  ∀ (W : World) (x : α), Below w.heap.size w W → Calls P g (#[enc x] ++ lb) W fun e w' => e = .returned (.bool (p x)) ∧ Below W.heap.size W w'
theorem below_chain {w W W' : World} (h : Below w.heap.size w W) (k : Below W.heap.size W W') : Below w.heap.size w W' := h.trans (k.mono h.size)
/-- The index of the first element that p holds of, or -1. -/
def idxI {α : Type} (p : α → Bool) : List α → Int
  | [] => -1
  | x :: r => if p x then 0 else (if idxI p r = -1 then -1 else idxI p r + 1)
theorem idxI_range {α : Type} (p : α → Bool) (l : List α) : -1 ≤ idxI p l ∧ idxI p l < l.length := by
  induction l with
  | nil => simp [idxI]
  | cons x r ih => simp only [idxI, List.length_cons]; split <;> (try split) <;> omega
theorem idxI_miss {α : Type} (p : α → Bool) (d : α) : ∀ (l : List α), (∀ j, j < l.length → p (l.getD j d) = false) → idxI p l = -1
  | [], _ => rfl
  | x :: r, h => by
    have h0 : p x = false := by simpa using h 0 (by simp)
    have hr := idxI_miss p d r (fun j hj => by simpa using h (j + 1) (by simpa using hj))
    simp [idxI, h0, hr]
theorem idxI_hit {α : Type} (p : α → Bool) (d : α) : ∀ (l : List α) (k : Nat), k < l.length → p (l.getD k d) = true → (∀ j, j < k → p (l.getD j d) = false) → idxI p l = (k : Int)
  | [], k, hk, _, _ => by simp at hk
  | x :: r, 0, _, hp, _ => by
    have : p x = true := by simpa using hp
    simp [idxI, this]
  | x :: r, k + 1, hk, hp, h => by
    have h0 : p x = false := by simpa using h 0 (by omega)
    have hr := idxI_hit p d r k (by simpa using hk) (by simpa using hp) (fun j hj => by simpa using h (j + 1) (by omega))
    have hn : ¬ ((k : Int) = -1) := by omega
    simp only [idxI, h0, hr, hn]
    simp
theorem idxI_found {α : Type} (p : α → Bool) (d : α) : ∀ (l : List α), idxI p l ≠ -1 → ∃ k : Nat, k < l.length ∧ idxI p l = (k : Int) ∧ p (l.getD k d) = true ∧ ∀ j, j < k → p (l.getD j d) = false
  | [], h => absurd rfl h
  | y :: r, h => by
    by_cases hy : p y = true
    · exact ⟨0, by simp, by simp [idxI, hy], by simpa using hy, fun j hj => absurd hj (Nat.not_lt_zero _)⟩
    · have hy' : p y = false := by simpa using hy
      have hr : idxI p r ≠ -1 := by
        intro e
        exact h (by simp [idxI, hy', e])
      obtain ⟨k, hk, e, hp, hb⟩ := idxI_found p d r hr
      refine ⟨k + 1, by simpa using hk, ?_, by simpa using hp, fun j hj => ?_⟩
      · have hn : ¬ ((k : Int) = -1) := by omega
        simp only [idxI, hy', e, hn]
        simp
      · cases j with
        | zero => simpa using hy'
        | succ j => simpa using hb j (by omega)
structure KInv {α : Type} (p : α → Bool) (xs ys : List α) (i j : Nat) : Prop where
  len : ys.length = xs.length
  lt : i < j
  le : j ≤ xs.length
  take : ys.take i = (xs.take j).filter (fun x => !p x)
  drop : ys.drop j = xs.drop j
theorem KInv.start {α : Type} {p : α → Bool} {xs : List α} {d : α} {k : Nat} (hk : k < xs.length) (hp : p (xs.getD k d) = true) (hb : ∀ j, j < k → p (xs.getD j d) = false) : KInv p xs xs k (k + 1) := by
  refine ⟨rfl, by omega, by omega, ?_, rfl⟩
  rw [List.take_succ_eq_append_getElem hk, List.filter_append]
  have h1 : p xs[k] = true := by rw [List.getD_eq_getElem?_getD, List.getElem?_eq_getElem hk] at hp; exact hp
  have h2 : (xs.take k).filter (fun x => !p x) = xs.take k := by
    rw [List.filter_eq_self]
    intro x hx
    obtain ⟨j, hj, rfl⟩ := List.mem_iff_getElem.1 hx
    rw [List.length_take] at hj
    rw [List.getElem_take]
    have := hb j (by omega)
    rw [List.getD_eq_getElem?_getD, List.getElem?_eq_getElem (by omega)] at this
    simpa using this
  rw [h2]
  simp [h1]
theorem KInv.skip {α : Type} {p : α → Bool} {xs ys : List α} {i j : Nat} {d : α} (h : KInv p xs ys i j) (hj : j < xs.length) (hp : p (xs.getD j d) = true) : KInv p xs ys i (j + 1) := by
  refine ⟨h.len, by have := h.lt; omega, hj, ?_, ?_⟩
  · rw [List.take_succ_eq_append_getElem hj, List.filter_append, h.take]
    have h1 : p xs[j] = true := by rw [List.getD_eq_getElem?_getD, List.getElem?_eq_getElem hj] at hp; exact hp
    simp [h1]
  · have := congrArg (List.drop 1) h.drop
    simpa [List.drop_drop, Nat.add_comm] using this
theorem KInv.done {α : Type} {p : α → Bool} {xs ys : List α} {i : Nat} (h : KInv p xs ys i xs.length) : ys.take i = xs.filter (fun x => !p x) := by rw [h.take, List.take_length]
theorem R_form {α : Type} {d : Kd α} {e : Nat} {w : World} {base : Nat} {ok : Nat → Prop} {v : Value} {xs : List α} (h : d.R e w base ok v xs) (hne : 0 < xs.length) : ∃ g0 cap, v = .slice (some ⟨g0, 0, none⟩) xs.length cap ∧ xs.length ≤ cap ∧ base ≤ g0 ∧ g0 < w.heap.size ∧ ok g0 := by
  obtain ⟨h0, inner, ho, hr⟩ := h
  obtain ⟨ho1, ho2⟩ := ho
  rcases ho2 with ⟨rfl, hz⟩ | ⟨g, cap, cur, rfl, hb, hh, hnc, hcm, hcs, ht⟩
  · omega
  · exact ⟨g, cap, rfl, hnc, hb, blk_lt hh, h0 g (by simp [Value.ownBlock])⟩
theorem rows_ne {α β : Type} {d : Kd α} {d' : Kd β} {e e' : Nat} {w : World} {base base' : Nat} {ok ok' : Nat → Prop} {v v' : Value} {xs : List α} {ys : List β} (h : d.R e w base ok v xs) (h' : d'.R e' w base' ok' v' ys) (ht : e' ≠ e) : ∀ k, v.ownBlock = some k → some k ≠ v'.ownBlock := by
  intro k hk
  obtain ⟨h0, inner, ho, hr⟩ := h
  obtain ⟨ho1, ho2⟩ := ho
  rcases ho2 with ⟨rfl, hz⟩ | ⟨g, cap, cur, rfl, hb, hh, hnc, hcm, hcs, htk⟩
  · simp [Value.ownBlock] at hk
  · have : k = g := by simp [Value.ownBlock] at hk; exact hk.symm
    subst this
    exact Kd.R_ne h' hh ht
/-- k operations listed of n, the first ones, and some others. -/
def bx (k : Nat) (ks : List Nat) (n : Nat) : Array Bool := ((List.range n).map fun i => Nat.blt i k || ks.elem i).toArray

end Go.Proofs.Ytenphfagdpkjaaa.Q
