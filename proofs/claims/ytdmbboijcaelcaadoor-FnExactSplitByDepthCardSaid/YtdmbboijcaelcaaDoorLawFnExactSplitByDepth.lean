import Derived.Test.YtdmbboijcaelcaaDoorRows
import Derived.Test.YtdmbboijcaelcaaDoorCards
import Derived.Test.YtdmbboijcaelcaaDoorTie
import Derived.Test.YtdmbboijcaelcaaDoorLib
import Derived.Test.YtdmbboijcaelcaaDoorPureFnExactSplitByDepth
import Derived.Test.YtdmbboijcaelcaaDoorRowLib
import Derived.Lay
import Derived.MakeChecks
namespace Go.Proofs.YtdmbboijcaelcaaDoor.fnExactSplitByDepth
open Go.ChangeShapes Go.WideShapes Go.ChangeAt Go.RowKit Go.Proofs.YtdmbboijcaelcaaDoor.Q Go.Joins Go.Proofs.YtdmbboijcaelcaaDoor.RowLib Go.Proofs.YtdmbboijcaelcaaDoorW.PrintWords
set_option linter.unusedVariables false
set_option maxRecDepth 100000 in
theorem lifted (os : Os) (started : os.Started) (H : Type) (enc : TypeId × Value → H) :
    ReturnsInHanded {} Tryd.checked os 13 .any (fun w args => (Rows.fnExactSplitByDepthSpec.pre enc Tryd.prog Tryd.f13 [] false w args ∧ laidMetH Tryd.prog Rows.fnExactSplitByDepthRow.laid w) ∧ sizedMet enc Tryd.prog Tryd.f13 (OpenSpec.ofChange Rows.fnExactSplitByDepthSpec) false w args)
      (Rows.fnExactSplitByDepthSpec.post enc Tryd.prog Tryd.f13 false true false false) := by
  refine returnsInHanded_laid_shaped (C := Tryd.checked) (X := fun w _ => laidMetH Tryd.prog Rows.fnExactSplitByDepthRow.laid w) (fun _ _ _ hh h => h.of_heap hh) own started (by kernel_rfl) Tryd.func13
    (ChangeSpec.witness_shaped (enc := enc) (C := Tryd.checked) (os := os) (X := fun w _ => laidMetH Tryd.prog Rows.fnExactSplitByDepthRow.laid w) false (World.laidAll Tryd.prog os Rows.fnExactSplitByDepthRow.laid) #[.agg #[.slice none 0 0, .slice none 0 0]] 8 (World.laidAll_os _ _ _) (World.shaped_of_ZipB (by kernel_rfl) (by kernel_rfl)) (by kernel_rfl) (by kernel_rfl) (by kernel_rfl) (by rw [MakeChecks.laidMetH_plain _ _ _ (by kernel_rfl)]; exact laidMet_laidAll _ (by kernel_rfl) (by kernel_rfl))) ?_
  intro W base args ds gs before hval0 hW _ _ hL hSH _
  have hval : ∀ (j : Nat) t v, Tryd.f13.params[j]? = some t → args[j]? = some v → Value.okWide Tryd.prog W .any base t v := hval0
  have hW' := hW
  obtain ⟨p, q, hA0, hV, rfl, hfz, hnd⟩ := hW
  have hA : DataW.TrodAll enc Tryd.prog W 0 (fun _ => true) true Tryd.f13.params.toList args.toList ds p := hA0
  rw [Tryd.params13] at hA hval
  obtain ⟨v0, vs0, d0, ds0, p0, q0, hargs, rfl, rfl, h0, r0⟩ := trodAll_cons hA
  obtain ⟨rfl, rfl, rfl⟩ := trodAll_nil r0
  obtain rfl : args = #[v0] := by cases args; simp_all
  obtain ⟨rfl, rfl⟩ := trodVars_none hV
  have k0 := h0
  have lt0 : ∀ x ∈ p0, x.block < W.heap.size := by obtain ⟨m, hm⟩ := k0; exact DataW.trod_lt m _ _ _ hm
  haveI : Inhabited S119 := ⟨z119⟩
  haveI : Inhabited S121 := ⟨z121⟩
  obtain ⟨x0_0, x0_1, y0_0, y0_1, n0, rfl, rfl, rfl, t0_0, t0_1⟩ := open_agg2 Tryd.underlying46 (by kernel_rfl) (by kernel_rfl) (hval 0 46 v0 rfl rfl) h0
  obtain ⟨A0_0, c0_0, l0_0, e0_0, hc0_0, hr0_0, w0_0⟩ := rk_row Tryd.underlying43 (rk_iso (fun x : S119 => (x.f0, x.f1)) (fun p => ⟨p.1, p.2⟩) (fun _ => rfl) (rk_pair Tryd.underlying119 (by kernel_rfl) rfl rfl (rk_int Tryd.underlying3 (by kernel_rfl)) (rk_int Tryd.underlying3 (by kernel_rfl)))) t0_0
  obtain rfl := List.head_eq_of_cons_eq e0_0
  obtain ⟨A0_1, c0_1, l0_1, e0_1, hc0_1, hr0_1, w0_1⟩ := rk_row Tryd.underlying44 (rk_iso (fun x : S121 => (x.f0, x.f1)) (fun p => ⟨p.1, p.2⟩) (fun _ => rfl) (rk_pair Tryd.underlying121 (by kernel_rfl) rfl rfl (rk_int Tryd.underlying3 (by kernel_rfl)) (rk_int Tryd.underlying3 (by kernel_rfl)))) t0_1
  obtain rfl := List.head_eq_of_cons_eq e0_1
  have hL1 : laidMet Tryd.prog [("math/bits.deBruijn32tab", Rows.laid_math_bits_deBruijn32tab), ("math/bits.deBruijn64tab", Rows.laid_math_bits_deBruijn64tab), ("internal/strconv.uint64pow10", Rows.laid_internal_strconv_uint64pow10)] W := hL
  have hlw := lw_of hL1
  clear hA0 hval0
  refine (law_FnExactSplitByDepth_calls _ _ l0_0 _ _ l0_1 W hr0_0 hc0_0 hr0_1 hc0_1 hlw).mono fun e W' ⟨he, bel0⟩ => ?_
  have bel : Below W.heap.size W W' := bel0
  subst he
  exact ⟨_, rfl, _, _, _, [], _, [], hW', trodAll_mk1 (shut_bool Tryd.underlying4 _), (trodAll_cons_mk (Below.trod laidOut (by kernel_rfl) (of_decide_eq_true (by kernel_rfl)) k0 bel lt0) trodAll_mk0), rfl, bel.frame _, fun h => by cases h⟩
theorem over : Rows.fnExactSplitByDepthRow.holds Tryd.pinned (OpenSpec.ofChange Rows.fnExactSplitByDepthSpec) :=
  OpenClaim.holds_of_wide 13 Tryd.f13 rfl rfl rfl rfl rfl rfl rfl ⟨rfl, rfl, rfl, rfl, rfl⟩ rfl rfl rfl rfl rfl (by kernel_rfl) Tryd.func13 (by kernel_rfl)
    (of_decide_eq_true (by kernel_rfl)) (by unfold Func.isWrapper; first | (rw [if_pos (by decide +kernel)]; kernel_rfl) | (rw [if_neg (by decide +kernel)]; exact ⟨rfl, rfl⟩))
    (fun os started H enc _ => lifted os started H enc)
theorem card : Rows.FnExactSplitByDepthCardSaid :=
  Claim7.holds_tied_plain_at .later [] [.data, .data, .data] true (true, "ab9b44c29c8f3873b252f75053787d069ef1729433dc85f2cb58bfdd0daba7c2") true
    over (fun _ h => by cases h) (by kernel_rfl) (fun _ h => by cases h) fnExactSplitByDepth_row_tie rfl ⟨rfl, rfl⟩ (by kernel_rfl) rfl
    (fun f fn hf hfn => by
      obtain rfl : f = 13 := Option.some.inj ((show Tryd.prog.funcNamed "loop.example/g00876/laws.FnExactSplitByDepth" = some 13 by kernel_rfl).symm.trans hf) |>.symm
      obtain rfl : fn = Tryd.f13 := (Option.some.inj (Tryd.func13.symm.trans hfn)).symm
      exact ⟨by kernel_rfl, fun j t ht => by
        rw [Tryd.params13] at ht
        have h3 : t = 46 := by
          rcases j with _ | j
          · simpa using ht.symm
          · simp at ht
        subst h3
        exact (show Tryd.prog.wantsStandIn 46 = false by kernel_rfl)⟩)
    (by kernel_rfl)
#print axioms card
end Go.Proofs.YtdmbboijcaelcaaDoor.fnExactSplitByDepth
namespace Go.Proofs.YtdmbboijcaelcaaDoor
/-- The tied card, under a short name, for the claim. -/
theorem fnExactSplitByDepth_holds : Rows.FnExactSplitByDepthCardSaid := fnExactSplitByDepth.card
end Go.Proofs.YtdmbboijcaelcaaDoor
