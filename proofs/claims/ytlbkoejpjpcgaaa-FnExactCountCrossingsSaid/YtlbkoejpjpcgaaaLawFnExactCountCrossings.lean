-- Written by a program of this session (wip/xprint.py over the kit's printer).
import Derived.Test.YtlbkoejpjpcgaaaRows
import Derived.Test.YtlbkoejpjpcgaaaQF4
import Derived.Test.YtlbkoejpjpcgaaaPureFnExactCountCrossings
import Derived.Test.YtlbkoejpjpcgaaaRowLib
import Derived.WalkKit
import Derived.ProofKit
import Derived.OpenShut
import Derived.ShutString
import Derived.ChangeOld
import Derived.Below
import Derived.SizedLaws
import Derived.Carry
namespace Go.Proofs.Ytlbkoejpjpcgaaa.fnExactCountCrossings
open Go.ChangeShapes Go.WideShapes Go.ChangeAt Go.RowKit Go.Joins Go.Proofs.Ytlbkoejpjpcgaaa.RowLib Go.Proofs.Ytlbkoejpjpcgaaa.Q
open Go.ChangeMaps (open_string shut_string)
set_option linter.unusedVariables false
theorem own : ownKnob Try.prog.godebug = none := by kernel_rfl
theorem laidOut : laidOutB Try.prog = true := by kernel_rfl
set_option maxRecDepth 100000 in
theorem lifted (os : Os) (started : os.Started) (H : Type) (enc : TypeId × Value → H) :
    ReturnsInHanded {} Try.checked os 4 .any (Rows.fnExactCountCrossingsSpec.pre6 enc Try.prog Try.f4 Rows.fnExactCountCrossingsRow.domain false) (Rows.fnExactCountCrossingsSpec.post enc Try.prog Try.f4 false true false false) := by
  refine returnsInHanded_of_change_sized (C := Try.checked) own started (by kernel_rfl) Try.func4
    (ChangeSpec.witness6 (enc := enc) (C := Try.checked) false ⟨#[], #[.agg #[.slice none 0 0, .slice none 0 0], .slice none 0 0], []⟩ 8 (by kernel_rfl) (by kernel_rfl) (by kernel_rfl) (by kernel_rfl)) ?_
  intro W base args ds gs before hval0 hW hcnd hsz0 _
  have hval : ∀ (j : Nat) t v, Try.f4.params[j]? = some t → args[j]? = some v → Value.okWide Try.prog W .any base t v := hval0
  have hW' := hW
  obtain ⟨p, q, hA0, hV, rfl, hfz, hnd⟩ := hW
  have hA : DataW.TrodAll enc Try.prog W 0 (fun _ => true) true Try.f4.params.toList args.toList ds p := hA0
  rw [Try.params4] at hA hval
  obtain ⟨v0, vs0, d0, ds0, p0, q0, hargs, rfl, rfl, h0, r0⟩ := trodAll_cons hA
  obtain ⟨v1, vs1, d1, ds1, p1, q1, rfl, rfl, rfl, h1, r1⟩ := trodAll_cons r0
  obtain ⟨rfl, rfl, rfl⟩ := trodAll_nil r1
  obtain rfl : args = #[v0, v1] := by cases args; simp_all
  obtain ⟨rfl, rfl⟩ := trodVars_none hV
  haveI : Inhabited S118 := ⟨z118⟩
  haveI : Inhabited S120 := ⟨z120⟩
  have k0 := h0
  have lt0 : ∀ x ∈ p0, x.block < W.heap.size := by obtain ⟨m, hm⟩ := k0; exact DataW.trod_lt m _ _ _ hm
  obtain ⟨x0_0, x0_1, y0_0, y0_1, n0, rfl, rfl, rfl, t0_0, t0_1⟩ := open_agg2 Try.underlying25 (by kernel_rfl) (by kernel_rfl) (hval 0 25 v0 rfl rfl) h0
  obtain ⟨A0_0, c0_0, l0_0, e0_0, hc0_0, hr0_0, w0_0⟩ := rk_row Try.underlying22 (rk_iso (fun x : S118 => (x.f0, x.f1)) (fun p => ⟨p.1, p.2⟩) (fun _ => rfl) (rk_pair Try.underlying118 (by kernel_rfl) rfl rfl (rk_int Try.underlying3 (by kernel_rfl)) (rk_int Try.underlying3 (by kernel_rfl)))) t0_0
  obtain rfl := List.head_eq_of_cons_eq e0_0
  obtain ⟨A0_1, c0_1, l0_1, e0_1, hc0_1, hr0_1, w0_1⟩ := rk_row Try.underlying23 (rk_iso (fun x : S120 => (x.f0, x.f1)) (fun p => ⟨p.1, p.2⟩) (fun _ => rfl) (rk_pair Try.underlying120 (by kernel_rfl) rfl rfl (rk_int Try.underlying3 (by kernel_rfl)) (rk_int Try.underlying3 (by kernel_rfl)))) t0_1
  obtain rfl := List.head_eq_of_cons_eq e0_1
  have k1 := h1
  have lt1 : ∀ x ∈ p1, x.block < W.heap.size := by obtain ⟨m, hm⟩ := k1; exact DataW.trod_lt m _ _ _ hm
  obtain ⟨b1, len1, cap1, rfl⟩ := okWide_slice Try.underlying27 (hval 1 27 v1 rfl rfl)
  obtain ⟨A1, c1, l1, e1, hc1, hr1, w1⟩ := row_arg Try.underlying27 rfl (rk_slice Try.underlying54 (by kernel_rfl) (rk_int Try.underlying3 (by kernel_rfl))) h1
  injection e1 with ea eb ec
  subst ea; subst eb; subst ec
  obtain ⟨k, hk⟩ := Pure.FnExactCountCrossings l0_0 l0_1 l1 w0_0 w0_1 w1
  clear hA0 hval0 hsz0
  refine (laws_FnExactCountCrossings.calls k _ _ l0_0 _ _ l0_1 _ _ l1 true W hr0_0 hc0_0 hr0_1 hc0_1 hr1 hc1 hk).mono fun e W' ⟨he, bel0⟩ => ?_
  have bel : Below W.heap.size W W' := bel0
  subst he
  exact ⟨_, rfl, _, _, _, [], _, [], hW', trodAll_mk1 (shut_bool Try.underlying4 _), (trodAll_cons_mk (Below.trod laidOut (by kernel_rfl) (of_decide_eq_true (by kernel_rfl)) k0 bel lt0) (trodAll_cons_mk (Below.trod laidOut (by kernel_rfl) (of_decide_eq_true (by kernel_rfl)) k1 bel lt1) trodAll_mk0)), rfl, bel.frame _, fun h => by cases h⟩
theorem over : Rows.fnExactCountCrossingsRow.holds Try.pinned (OpenSpec.ofChange Rows.fnExactCountCrossingsSpec) :=
  OpenClaim.holds_of_wide 4 Try.f4 rfl rfl rfl rfl rfl rfl rfl ⟨rfl, rfl, rfl, rfl, rfl⟩ rfl rfl rfl rfl rfl (by kernel_rfl) Try.func4 (by kernel_rfl)
    (of_decide_eq_true (by kernel_rfl)) (by unfold Func.isWrapper; first | (rw [if_pos (by decide +kernel)]; kernel_rfl) | (rw [if_neg (by decide +kernel)]; exact ⟨rfl, rfl⟩))
    (fun os started H enc _ => lifted os started H enc)
theorem proved : Rows.FnExactCountCrossingsSaid := over
#print axioms proved
end Go.Proofs.Ytlbkoejpjpcgaaa.fnExactCountCrossings
namespace Go.Proofs.Ytlbkoejpjpcgaaa
/-- The row, under a short name, for the claim. -/
theorem fnExactCountCrossings_holds : Rows.FnExactCountCrossingsSaid := fnExactCountCrossings.proved
end Go.Proofs.Ytlbkoejpjpcgaaa
