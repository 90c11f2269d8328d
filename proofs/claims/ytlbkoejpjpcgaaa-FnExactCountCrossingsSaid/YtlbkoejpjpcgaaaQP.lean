-- Written by a program of this session (wip/xprint.py over the kit's printer).
import Derived.Test.YtlbkoejpjpcgaaaQ0
namespace Go.Proofs.Ytlbkoejpjpcgaaa.Q
open Go.RowKit Go.Proofs.YtlbkoejpjpcgaaaW.PrintWords Go.Proofs.YtlbkoejpjpcgaaaW.PrintLast
set_option linter.unusedVariables false
set_option linter.unusedSimpArgs false

/-! ### what the externals share -/
/-- What is asked of a predicate that is handed over as a function value: in whatever world in which all that lay in w lies unturned it answers p x; it may lay blocks of its own. -/
def PredB {α : Type} (P : Program) (g : Nat) (lb : Array Value) (enc : α → Value) (p : α → Bool) (w : World) : Prop :=
  ∀ (W : World) (x : α), Below w.heap.size w W → Calls P g (#[enc x] ++ lb) W fun e w' => e = .returned (.bool (p x)) ∧ Below W.heap.size W w'
theorem below_chain {w W W' : World} (h : Below w.heap.size w W) (k : Below W.heap.size W W') : Below w.heap.size w W' := h.trans (k.mono h.size)
/-- The index of the first element that p holds of, or -1. -/
def idxI {α : Type} (p : α → Bool) : List α → Int
  | [] => -1
  | x :: r => if p x then 0 else (if idxI p r = -1 then -1 else idxI p r + 1)
theorem idxI_range {α : Type} (p : α → Bool) (l : List α) : -1 ≤ idxI p l ∧ idxI p l < l.length := by
  induction l with
  | nil => simp [idxI]
  | cons x r ih => simp only [idxI, List.length_cons]; split <;> (try split) <;> omega
theorem idxI_miss {α : Type} (p : α → Bool) (d : α) : ∀ (l : List α), (∀ j, j < l.length → p (l.getD j d) = false) → idxI p l = -1
  | [], _ => rfl
  | x :: r, h => by
    have h0 : p x = false := by simpa using h 0 (by simp)
    have hr := idxI_miss p d r (fun j hj => by simpa using h (j + 1) (by simpa using hj))
    simp [idxI, h0, hr]
theorem idxI_hit {α : Type} (p : α → Bool) (d : α) : ∀ (l : List α) (k : Nat), k < l.length → p (l.getD k d) = true → (∀ j, j < k → p (l.getD j d) = false) → idxI p l = (k : Int)
  | [], k, hk, _, _ => by simp at hk
  | x :: r, 0, _, hp, _ => by
    have : p x = true := by simpa using hp
    simp [idxI, this]
  | x :: r, k + 1, hk, hp, h => by
    have h0 : p x = false := by simpa using h 0 (by omega)
    have hr := idxI_hit p d r k (by simpa using hk) (by simpa using hp) (fun j hj => by simpa using h (j + 1) (by omega))
    have hn : ¬ ((k : Int) = -1) := by omega
    simp only [idxI, h0, hr, hn]
    simp
/-! ### worlds that have grown -/
theorem grown_refl (w : World) (row : Option Nat) : w.grownBy w row := ⟨rfl, rfl, rfl, Nat.le_refl _, fun _ _ _ => rfl⟩
theorem grown_trans {w w1 w2 : World} {row : Option Nat} (h : w.grownBy w1 row) (k : w1.grownBy w2 row) : w.grownBy w2 row :=
  ⟨k.os.trans h.os, k.tape.trans h.tape, k.output.trans h.output, Nat.le_trans h.size k.size, fun i hi hn => (k.block i (Nat.lt_of_lt_of_le hi h.size) hn).trans (h.block i hi hn)⟩
theorem grown_below {w w1 w2 : World} {row : Option Nat} (h : w.grownBy w1 row) (k : Below w1.heap.size w1 w2) : w.grownBy w2 row := grown_trans h (grown_of_below k row)
theorem grown_alloc {w w1 : World} {row : Option Nat} (h : w.grownBy w1 row) (o : Obj) : w.grownBy (w1.alloc o) row := grown_below h (below_alloc (Below.refl _ _) o)
theorem grown_set {w w1 : World} {row : Option Nat} (h : w.grownBy w1 row) {b : Nat} (hb : w.heap.size ≤ b) (j : Nat) (u : Value) : w.grownBy (w1.setCell ⟨b, j, none⟩ u) row :=
  ⟨h.os, h.tape, h.output, by have := h.size; simpa [World.setCell] using this, fun k hk hn => (Below.heap_setCell w1 ⟨b, j, none⟩ u k (by show k ≠ b; omega)).trans (h.block k hk hn)⟩
theorem grown_drewN {w w1 : World} {row : Option Nat} (h : w.grownBy w1 row) (n : Nat) : w.grownBy (w1.drewN n) row := ⟨h.os, h.tape, h.output, h.size, h.block⟩
theorem grown_drew {w w1 : World} {row : Option Nat} (h : w.grownBy w1 row) : w.grownBy w1.drew row := ⟨h.os, h.tape, h.output, h.size, h.block⟩
/-- The one row that was written is none of the elder world's. -/
theorem below_of_grown {w W W' : World} (h : Below w.heap.size w W) {row : Option Nat} (k : W.grownBy W' row) (hr : ∀ b, row = some b → w.heap.size ≤ b) : Below w.heap.size w W' := h.grown k h.size hr
/-- What is asked of a predicate while the row of v is being written. -/
def PredV {α : Type} (P : Program) (g : Nat) (lb : Array Value) (enc : α → Value) (p : α → Bool) (v : Value) (w : World) : Prop :=
  ∀ (W : World) (x : α), w.grownBy W v.ownBlock → Calls P g (#[enc x] ++ lb) W fun e w' => e = .returned (.bool (p x)) ∧ Below W.heap.size W w'
theorem PredV.predB {α : Type} {P : Program} {g : Nat} {lb : Array Value} {enc : α → Value} {p : α → Bool} {v : Value} {w : World} (h : PredV P g lb enc p v w) : PredB P g lb enc p w := fun W x hb => h W x (grown_of_below hb _)
/-! ### 'clear' of a row's end -/
theorem zeroCells_length (z : Array Value) (n : Nat) : (Builtin.zeroCells z n).toList.length = n * z.size := by simp [Builtin.zeroCells]
theorem zeroCells_one (z : Array Value) (n : Nat) (h1 : ∀ u ∈ z.toList, u.oneCell' = true) : ∀ u ∈ (Builtin.zeroCells z n).toList, u.oneCell' = true := by
  intro u hu
  simp only [Builtin.zeroCells, Array.toList_map, List.mem_map, Array.toList_range, List.mem_range] at hu
  obtain ⟨i, hi, rfl⟩ := hu
  have hp : 0 < z.size := by
    rcases Nat.eq_zero_or_pos z.size with h | h
    · rw [h] at hi; simp at hi
    · exact h
  have hm : i % z.size < z.size := Nat.mod_lt _ hp
  rw [getElem!_pos z _ hm]
  exact h1 _ (by simp)
theorem run_clear_cells {P : Program} (w : World) (t e ty : TypeId) (z : Value) {i0 : TypeInfo} (ht : P.underlying t = some (.slice e)) (hi : P.info? e = some i0) (hz : i0.zero = some z) (h1 : ∀ u ∈ z.cells.toList, u.oneCell' = true) (b o n c : Nat) (hn : 0 < n)
    (hc : ∀ j, j < n * z.cells.size → (w.cell? ⟨b, o + j, none⟩).isSome = true) (hf : ∀ j, j < n * z.cells.size → w.frozen? ⟨b, o + j, none⟩ = false) :
    (Builtin.clear_ #[t] ty #[.slice (some ⟨b, o, none⟩) n c]).run P w = .ok (.tuple #[]) (w.setCells b o (Builtin.zeroCells z.cells n).toList) := by
  have hst := run_storeCells_cells (P := P) b o (Builtin.zeroCells z.cells n).toList 0 w (by rw [zeroCells_length]; simpa using hc) (by rw [zeroCells_length]; simpa using hf) (zeroCells_one _ _ h1)
  simp only [Nat.add_zero] at hst
  have hv : (zeroValue e).run P w = .ok z w := by simp [zeroValue, typeInfo, hi, hz]
  obtain ⟨m, rfl⟩ : ∃ m, n = m + 1 := ⟨n - 1, by omega⟩
  simp [Builtin.clear_, run_underlying ht, hv, hst]
/-- 's = s[:i]' behind 'clear(s[i:])'. -/
theorem R_cleared {α : Type} (d : Kd α) {P : Program} {W : World} {base e g n cap : Nat} {ok : Nat → Prop} {xs : List α} (HO : d.R e W base ok (.slice (some ⟨g, 0, none⟩) n cap) xs) (t ty : TypeId) (z : Value) (bytes : Nat) (ht : P.underlying t = some (.slice e))
    (hinfo : (P.info? e).map (fun i => (i.zero, i.size, i.bytes)) = some (some z, d.sz, bytes)) (hz : z.cells.size = d.sz) (h1 : ∀ u ∈ z.cells.toList, u.oneCell' = true) (i : Nat) (hi : i ≤ n) (c' : Nat) (A' : Option Addr) (hA : i < n → A' = some ⟨g, i * d.sz, none⟩) :
    ∃ W', (Builtin.clear_ #[t] ty #[.slice A' (n - i) c']).run P W = .ok (.tuple #[]) W' ∧ d.R e W' base ok (.slice (some ⟨g, 0, none⟩) i cap) (xs.take i) ∧ W.grownBy W' (some g) := by
  obtain ⟨i0, hi0, hz0, hz1, hz2⟩ := info_parts hinfo
  have hn : n = xs.length := (Kd.R_reads' HO).1
  have HT : d.R e W base ok (.slice (some ⟨g, 0, none⟩) i cap) (xs.take i) := Kd.R_take HO (by omega)
  by_cases hlt : i < n
  · obtain rfl := hA hlt
    obtain ⟨hok, inner, ho, hr⟩ := HT
    obtain ⟨ho1, ho2⟩ := ho
    rcases ho2 with ⟨hv, _⟩ | ⟨g', cap', cur, hv, hb, hh, hnc', hcm, hcs, htk⟩
    · cases hv
    injection hv with ha _ hc
    injection ha with ha
    injection ha with hg
    subst hg; subst hc
    have hnc : n ≤ cap := (Kd.R_reads' HO).2.1
    have hfit : i * d.sz + (Builtin.zeroCells z.cells (n - i)).toList.length ≤ cur.size := by
      rw [zeroCells_length, hz, hcs, ← Nat.add_mul]
      exact Nat.mul_le_mul_right _ (by omega)
    have hrun := run_clear_cells (P := P) W t e ty z ht hi0 hz0 h1 g (i * d.sz) (n - i) c' (by omega)
      (fun j hj => by
        rw [hz] at hj
        have : i * d.sz + j < cur.size := by
          have h2 := hfit
          rw [zeroCells_length, hz] at h2
          omega
        rw [blk_cell hh, Array.getElem?_eq_getElem this]
        rfl)
      (fun j _ => blk_frozen hh _)
    obtain ⟨cur', h3, h4, h5⟩ := setCells_row (Builtin.zeroCells z.cells (n - i)).toList (i * d.sz) W cur hh hfit
    obtain ⟨s1, s2, s3, s4⟩ := setCells_same g (Builtin.zeroCells z.cells (n - i)).toList (i * d.sz) W
    have hil : (xs.take i).length = i := by rw [List.length_take]; omega
    refine ⟨_, hrun, ⟨hok, inner, ⟨ho1, .inr ⟨g, cap, cur', by rw [hil], hb, h3, hnc', hcm, by rw [h4, hcs], ?_⟩⟩, hr.imp_ (fun p c hp => d.M_move (fun k hk => setCells_far _ _ k (fun he => hk.2 (by rw [he]; simp [Value.ownBlock]))) hp)⟩, ⟨s1, s2, s3, by rw [s4]; exact Nat.le_refl _, fun k _ hk => setCells_far _ _ k (fun he => hk (by rw [he]))⟩⟩
    rw [hil] at htk ⊢
    rw [h5, List.append_assoc, List.take_append_of_le_length (by rw [List.length_take, Array.length_toList, hcs]; have := Nat.mul_le_mul_right d.sz (show i ≤ cap by omega); omega), List.take_take, Nat.min_self]
    exact htk
  · obtain rfl : i = n := by omega
    refine ⟨W, ?_, HT, grown_refl _ _⟩
    rw [Nat.sub_self]
    cases A' <;> simp [Builtin.clear_, run_underlying ht]
/-! ### a row that is filtered in place -/
theorem idxI_all {α : Type} (p : α → Bool) (d : α) : ∀ (l : List α), idxI p l = -1 → ∀ x ∈ l, p x = false
  | [], _, x, hx => by simp at hx
  | y :: r, h, x, hx => by
    simp only [idxI] at h
    have hr := idxI_range p r
    split at h
    · omega
    · rename_i hy
      split at h
      · rename_i hr1
        rcases List.mem_cons.1 hx with rfl | hx
        · simpa using hy
        · exact idxI_all p d r hr1 x hx
      · omega
theorem idxI_found {α : Type} (p : α → Bool) (d : α) : ∀ (l : List α), idxI p l ≠ -1 → ∃ k : Nat, k < l.length ∧ idxI p l = (k : Int) ∧ p (l.getD k d) = true ∧ ∀ j, j < k → p (l.getD j d) = false
  | [], h => absurd rfl h
  | y :: r, h => by
    by_cases hy : p y = true
    · exact ⟨0, by simp, by simp [idxI, hy], by simpa using hy, fun j hj => absurd hj (Nat.not_lt_zero _)⟩
    · have hy' : p y = false := by simpa using hy
      have hr : idxI p r ≠ -1 := by
        intro e
        exact h (by simp [idxI, hy', e])
      obtain ⟨k, hk, e, hp, hb⟩ := idxI_found p d r hr
      refine ⟨k + 1, by simpa using hk, ?_, by simpa using hp, fun j hj => ?_⟩
      · have hn : ¬ ((k : Int) = -1) := by omega
        simp only [idxI, hy', e, hn]
        simp
      · cases j with
        | zero => simpa using hy'
        | succ j => simpa using hb j (by omega)
structure KInv {α : Type} (p : α → Bool) (xs ys : List α) (i j : Nat) : Prop where
  len : ys.length = xs.length
  lt : i < j
  le : j ≤ xs.length
  take : ys.take i = (xs.take j).filter (fun x => !p x)
  drop : ys.drop j = xs.drop j
theorem KInv.start {α : Type} {p : α → Bool} {xs : List α} {d : α} {k : Nat} (hk : k < xs.length) (hp : p (xs.getD k d) = true) (hb : ∀ j, j < k → p (xs.getD j d) = false) : KInv p xs xs k (k + 1) := by
  refine ⟨rfl, by omega, by omega, ?_, rfl⟩
  rw [List.take_succ_eq_append_getElem hk, List.filter_append]
  have h1 : p xs[k] = true := by rw [List.getD_eq_getElem?_getD, List.getElem?_eq_getElem hk] at hp; exact hp
  have h2 : (xs.take k).filter (fun x => !p x) = xs.take k := by
    rw [List.filter_eq_self]
    intro x hx
    obtain ⟨j, hj, rfl⟩ := List.mem_iff_getElem.1 hx
    rw [List.length_take] at hj
    rw [List.getElem_take]
    have := hb j (by omega)
    rw [List.getD_eq_getElem?_getD, List.getElem?_eq_getElem (by omega)] at this
    simpa using this
  rw [h2]
  simp [h1]
theorem KInv.get {α : Type} {p : α → Bool} {xs ys : List α} {i j : Nat} (h : KInv p xs ys i j) (d : α) : ys.getD j d = xs.getD j d := by
  have := congrArg (fun l => l[0]?) h.drop
  simp only [List.getElem?_drop, Nat.add_zero] at this
  rw [List.getD_eq_getElem?_getD, List.getD_eq_getElem?_getD, this]
theorem KInv.skip {α : Type} {p : α → Bool} {xs ys : List α} {i j : Nat} {d : α} (h : KInv p xs ys i j) (hj : j < xs.length) (hp : p (xs.getD j d) = true) : KInv p xs ys i (j + 1) := by
  refine ⟨h.len, by have := h.lt; omega, hj, ?_, ?_⟩
  · rw [List.take_succ_eq_append_getElem hj, List.filter_append, h.take]
    have h1 : p xs[j] = true := by rw [List.getD_eq_getElem?_getD, List.getElem?_eq_getElem hj] at hp; exact hp
    simp [h1]
  · have := congrArg (List.drop 1) h.drop
    simpa [List.drop_drop, Nat.add_comm] using this
theorem KInv.keep {α : Type} {p : α → Bool} {xs ys : List α} {i j : Nat} {d : α} (h : KInv p xs ys i j) (hj : j < xs.length) (hp : p (xs.getD j d) = false) : KInv p xs (ys.set i (xs.getD j d)) (i + 1) (j + 1) := by
  have hlt := h.lt
  have hlen := h.len
  refine ⟨by rw [List.length_set, h.len], by omega, hj, ?_, ?_⟩
  · rw [List.take_succ_eq_append_getElem hj, List.filter_append, ← h.take]
    have hg : xs.getD j d = xs[j] := by rw [List.getD_eq_getElem?_getD, List.getElem?_eq_getElem hj]; rfl
    have h1 : p xs[j] = false := by rw [← hg]; exact hp
    rw [hg, List.take_succ_eq_append_getElem (by rw [List.length_set]; omega), List.getElem_set_self]
    simp only [List.take_set_of_le (Nat.le_refl i), List.filter_cons, h1]
    simp
  · rw [List.drop_set_of_lt (by omega)]
    have := congrArg (List.drop 1) h.drop
    simpa [List.drop_drop, Nat.add_comm] using this
theorem KInv.done {α : Type} {p : α → Bool} {xs ys : List α} {i : Nat} (h : KInv p xs ys i xs.length) : ys.take i = xs.filter (fun x => !p x) := by rw [h.take, List.take_length]
theorem R_form {α : Type} {d : Kd α} {e : Nat} {w : World} {base : Nat} {ok : Nat → Prop} {v : Value} {xs : List α} (h : d.R e w base ok v xs) (hne : 0 < xs.length) : ∃ g0 cap, v = .slice (some ⟨g0, 0, none⟩) xs.length cap ∧ xs.length ≤ cap ∧ base ≤ g0 ∧ g0 < w.heap.size ∧ ok g0 := by
  obtain ⟨h0, inner, ho, hr⟩ := h
  obtain ⟨ho1, ho2⟩ := ho
  rcases ho2 with ⟨rfl, hz⟩ | ⟨g, cap, cur, rfl, hb, hh, hnc, hcm, hcs, ht⟩
  · omega
  · exact ⟨g, cap, rfl, hnc, hb, blk_lt hh, h0 g (by simp [Value.ownBlock])⟩
theorem rows_ne {α β : Type} {d : Kd α} {d' : Kd β} {e e' : Nat} {w : World} {base base' : Nat} {ok ok' : Nat → Prop} {v v' : Value} {xs : List α} {ys : List β} (h : d.R e w base ok v xs) (h' : d'.R e' w base' ok' v' ys) (ht : e' ≠ e) : ∀ k, v.ownBlock = some k → some k ≠ v'.ownBlock := by
  intro k hk
  obtain ⟨h0, inner, ho, hr⟩ := h
  obtain ⟨ho1, ho2⟩ := ho
  rcases ho2 with ⟨rfl, hz⟩ | ⟨g, cap, cur, rfl, hb, hh, hnc, hcm, hcs, htk⟩
  · simp [Value.ownBlock] at hk
  · have : k = g := by simp [Value.ownBlock] at hk; exact hk.symm
    subst this
    exact Kd.R_ne h' hh ht
theorem bcell {W w1 : World} (hb : Below W.heap.size W w1) : (∀ b o, b < W.heap.size → w1.cell? ⟨b, o, none⟩ = W.cell? ⟨b, o, none⟩) ∧ (∀ b o, b < W.heap.size → w1.frozen? ⟨b, o, none⟩ = W.frozen? ⟨b, o, none⟩) :=
  ⟨fun b o h => hb.cell (p := ⟨b, o, none⟩) h, fun b o h => hb.frozen (p := ⟨b, o, none⟩) h⟩

/-- k operations listed of n, the first ones, and some others. -/
def bx (k : Nat) (ks : List Nat) (n : Nat) : Array Bool := ((List.range n).map fun i => Nat.blt i k || ks.elem i).toArray

end Go.Proofs.Ytlbkoejpjpcgaaa.Q
