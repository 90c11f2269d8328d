-- Written by a program of this session (wip/xprint.py over the kit's printer).
import Derived.Test.YtenphfagdpkjaaaQ0
namespace Go.Proofs.Ytenphfagdpkjaaa.Q
open Go.RowKit Go.Proofs.YtenphfagdpkjaaaW.PrintWords Go.Proofs.YtenphfagdpkjaaaW.PrintLast
set_option linter.unusedVariables false
set_option linter.unusedSimpArgs false

/-! ### impl_Phase_92: function 92 -/
/-- The cells of a row of phases, as lists of values. -/
theorem C_rows {w : World} {A : Option Addr} {l : List S64} (h : Kd.C k64 w A l.length l) : ∃ rows : List (List Value), rows.length = l.length ∧ Kd.C (Kd.raw 2) w A rows.length rows ∧ ∀ (j : Nat) (p : S64), l[j]? = some p → ∃ c, rows[j]? = some c ∧ k64.K w p c := by
  by_cases h0 : 0 < l.length
  · obtain ⟨ad, hA, hc⟩ := h.2.2 h0
    have hx : ∀ j : Fin l.length, ∃ c : List Value, c.length = 2 ∧ k64.K w l[j.val] c ∧ ∀ i u, c[i]? = some u → w.cell? (ad.add (j.val * 2 + i)) = some u := fun j => hc j.val _ (List.getElem?_eq_getElem j.isLt)
    obtain ⟨f, hf⟩ := Classical.axiomOfChoice hx
    refine ⟨List.ofFn f, List.length_ofFn, ⟨rfl, by rw [List.length_ofFn]; exact h.2.1, fun _ => ⟨ad, hA, fun j p hj => ?_⟩⟩, fun j p hj => ?_⟩
    · obtain ⟨hj1, rfl⟩ := List.getElem?_eq_some_iff.1 hj
      rw [List.length_ofFn] at hj1
      rw [List.getElem_ofFn]
      have := hf ⟨j, hj1⟩
      exact ⟨_, this.1, ⟨rfl, this.1, k64.K_one this.2.1⟩, this.2.2⟩
    · obtain ⟨hj1, rfl⟩ := List.getElem?_eq_some_iff.1 hj
      refine ⟨f ⟨j, hj1⟩, ?_, (hf ⟨j, hj1⟩).2.1⟩
      rw [List.getElem?_eq_getElem (by rw [List.length_ofFn]; exact hj1), List.getElem_ofFn]
  · have : l = [] := List.length_eq_zero_iff.1 (by omega)
    subst this
    exact ⟨[], rfl, ⟨rfl, by simp, fun h => absurd h (by simp)⟩, fun j p hj => by simp at hj⟩
set_option maxHeartbeats 8000000 in
set_option maxRecDepth 100000 in
theorem impl_Phase_92.calls (A0 : Option Addr) (c0 : Nat) (l0 : List (List Value)) (w : World) (hr0 : Kd.C (Kd.raw 2) w A0 l0.length l0) (hc0 : l0.length ≤ c0) (hl : l0.length < 1099511627776) :
    Calls Try.prog 92 #[.slice A0 l0.length c0] w fun e w' => ∃ v0_ : Value, e = .returned (v0_) ∧ Kd.R (Kd.raw 2) 64 w' w.heap.size (fun _ => True) v0_ l0 ∧ Below w.heap.size w w' := by
    have LM := Aside0.mk hl
    clear hl
    have HR0 := Aside0.mk hr0
    have HC0 := Aside0.mk hc0
    clear hr0 hc0
    have q := fun (W : World) (a : Option Addr) (n c n' c' : Nat) => Lib.run_eql_slice_nil (P := Try.prog) W 35 64 a n c n' c' Try.underlying35
    cases A0 with
    | none =>
      have e0 : l0 = [] := by
        cases l0 with
        | nil => rfl
        | cons x r => obtain ⟨ad, e, _⟩ := HR0.out.2.2 (by simp); cases e
      subst e0
      go_enter Try.func92, Try.ntmps92
      go_wp2
      go_ret
      exact ⟨_, rfl, Kd.R_nil _ _ _ _ _, by repeat (first | exact Below.refl _ _ | apply below_alloc | apply pw_below_drewN | apply below_drew1)⟩
    | some ad0 =>
      have HB := Aside0.mk (Below.refl w.heap.size w)
      go_enter Try.func92, Try.ntmps92
      go_wp2_with (first
        | ((with_reducible refine gate_dst (N := 5) rfl ?_); refine Kd.R_lit (Kd.raw 2) w.heap.size 64 ?hg (N := 5) ?hd (xs := ([] : List (List Value))) (inner := []) (ok := fun _ => True) (okp := fun _ => True) ?hr ?hp (fun _ hk => hk) trivial (Below.refl _ _) (Nat.le_refl _) (by simp) ?_; (case hd => rfl); (case hg => rfl); (case hr => first | (go_simp; done) | (go_simp; rfl)); (case hp => exact Reps.none _ _); intro v1 w1 ho hb hg hat; have HO := Aside0.mk ho; have HB1 := Aside0.mk hb; clear ho hb hg hat HB)
        | ((with_reducible refine gate_builtin (b := .append) (xs := #[.tmp 5, .tmp 6]) rfl ?_); at_builtin; refine Kd.R_append_rows (Kd.raw 2) (w0 := w) w.heap.size rfl (.tmp 5) (.tmp 6) 35 64 (.agg #[(.string ⟨#[]⟩), (.slice none 0 0)]) 40 rfl Try.underlying35 info64 rfl (by decide) (by omega) v1 [] l0 _ _ _ (fun _ => True) (fun _ => False) rfl rfl HO.out ?aR (fun _ _ h => h) (fun _ h => h.elim) (fun _ _ => trivial) HB1.out (below_size HB1.out) ?aL ?_; (case aR => exact Kd.C_below HR0.out HB1.out); (case aL => have := LM.out; simp only [List.length_nil]; omega); intro v2 w2 ho hb hg hat; have HO2 := Aside0.mk ho; have HB2 := Aside0.mk hb; clear ho hb hg hat))
      go_ret
      exact ⟨_, rfl, (by have := HO2.out; simpa using this), HB2.out⟩

end Go.Proofs.Ytenphfagdpkjaaa.Q
