/- ParseInt: the law walked. -/
import Derived.Test.YtdmbboijcaelcaaDoorIntE
import Derived.Test.YtdmbboijcaelcaaDoorQF29
import Derived.Test.YtdmbboijcaelcaaDoorLib
namespace Go.Proofs.YtdmbboijcaelcaaDoor.Q
open Go.RowKit Go.ChangeShapes Go.Proofs.YtdmbboijcaelcaaDoorW.PrintWords Go.Proofs.YtdmbboijcaelcaaDoorW.PrintLast
set_option linter.unusedVariables false
set_option linter.unusedSimpArgs false
theorem parseint_ev (s : ByteArray) (hs : s.size ≤ 1048576) : ∃ k, spec_ParseInt.f k s = some (readL s.data.toList) := by
  obtain ⟨k, hk⟩ := Ev.rounds (read_ev s hs)
  exact ⟨k, by unfold spec_ParseInt.f; rw [hk]; rfl⟩
theorem star : "*" ++ "errors.errorString" = "*errors.errorString" := by decide
theorem row180 (u : TypeId) (h : Tryd.prog.typeName? 3 u = some "*errors.errorString") : u = 180 :=
  typeName_ptr_named (nm := "errors.errorString") (by rw [star]; kernel_rfl) (by kernel_rfl) (by decide) u (by rw [star]; exact h)
theorem named_type {n : String} {t : TypeId} (h : (Tryd.prog.globalNamed n).bind (fun g => (Tryd.prog.globals[g]?).map (·.type)) = some t) : ∃ g, Tryd.prog.globalNamed n = some g ∧ (Tryd.prog.globals[g]?).map (·.type) = some t := by
  cases hh : Tryd.prog.globalNamed n with
  | some g => rw [hh] at h; exact ⟨g, rfl, h⟩
  | none => rw [hh] at h; cases h
/-- The sentinels, out of the laid condition. -/
theorem ew_of {W : World} {r : List (String × DataW Unit)} (h : laidMet Tryd.prog (("strconv.ErrRange", Rows.laid_strconv_ErrRange) :: ("strconv.ErrSyntax", Rows.laid_strconv_ErrSyntax) :: r) W) : EW W := by
  obtain ⟨g1, hg1, ht1⟩ := named_type (n := "strconv.ErrSyntax") (t := 78) (by kernel_rfl)
  obtain ⟨g2, hg2, ht2⟩ := named_type (n := "strconv.ErrRange") (t := 78) (by kernel_rfl)
  obtain ⟨a1, _, hv1, _⟩ := laid_sentinel h.tail hg1 ht1 Tryd.underlying78 row180 Tryd.underlying180 Tryd.underlying182 rfl rfl Tryd.underlying9 (by kernel_rfl) (by kernel_rfl)
  obtain ⟨a2, _, hv2, _⟩ := laid_sentinel h hg2 ht2 Tryd.underlying78 row180 Tryd.underlying180 Tryd.underlying182 rfl rfl Tryd.underlying9 (by kernel_rfl) (by kernel_rfl)
  exact ⟨⟨_, _, hv1⟩, ⟨_, _, hv2⟩⟩
set_option maxHeartbeats 2000000 in
set_option maxRecDepth 100000 in
theorem law_FnExactParseInt_calls (s : ByteArray) (w : World) (hl : LW w) (he : EW w) :
    Calls Tryd.prog 8 #[.string s] w fun e w' => e = .returned (.bool true) ∧ Below w.heap.size w w' := by
  by_cases hbig : 1048576 < s.size
  · have h1z : decide (1048576 < (s.size : Int)) = true := decide_eq_true (by omega)
    have h1y : decide (1048576 < s.size) = true := decide_eq_true hbig
    clear hl he
    go_enter Tryd.func8, Tryd.ntmps8
    go_wp2
    go_ret
    exact ⟨rfl, by repeat (first | exact Below.refl _ _ | apply below_alloc | apply pw_below_drewN | apply below_drew1)⟩
  · obtain ⟨k2, hk2⟩ := parseint_ev s (by omega)
    have h1z : decide (1048576 < (s.size : Int)) = false := decide_eq_false (by omega)
    have h1y : decide (1048576 < s.size) = false := decide_eq_false hbig
    have hF := fun (W : World) (h : LW W) (h2 : EW W) => parseint_calls s (by omega) W h h2
    generalize readL s.data.toList = r at hk2 hF
    obtain ⟨x, b⟩ := r
    have HK := Aside0.mk hk2
    have HF := Aside0.mk hF
    have HL := Aside0.mk hl
    have HE := Aside0.mk he
    have hne : (b != b) = false := bne_self_eq_false b
    have hnx : (x != x) = false := bne_self_eq_false x
    have HB := Aside0.mk (Below.refl w.heap.size w)
    clear hk2 hF hl he hbig
    go_enter Tryd.func8, Tryd.ntmps8
    go_wp2_with (first | (go_at_call 29; (refine (spec_ParseInt.calls k2 s x b _ HK.out).mono ?_); rintro e w1 ⟨rfl, hb⟩; have HB := Aside0.mk (below_chain (w := w) (by repeat (first | exact HB.out | apply below_alloc | apply pw_below_drewN | apply below_drew1)) hb); clear hb) | (go_at_call 30; (refine (HF.out _ (LW.below HL.out (by repeat (first | exact HB.out | apply below_alloc | apply pw_below_drewN | apply below_drew1))) (EW.below HE.out (by repeat (first | exact HB.out | apply below_alloc | apply pw_below_drewN | apply below_drew1)))).mono ?_); rintro e w2 ⟨rfl, hb⟩; have HB := Aside0.mk (below_chain (w := w) (by repeat (first | exact HB.out | apply below_alloc | apply pw_below_drewN | apply below_drew1)) hb); clear hb))
    go_ret
    exact ⟨rfl, by repeat (first | exact HB.out | apply below_alloc | apply pw_below_drewN | apply below_drew1)⟩
end Go.Proofs.YtdmbboijcaelcaaDoor.Q
