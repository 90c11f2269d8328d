import Derived.Test.YtdmbboijcaelcaaDoorRows
import Derived.Test.YtdmbboijcaelcaaDoorCards
import Derived.Test.YtdmbboijcaelcaaDoorTie
import Derived.Test.YtdmbboijcaelcaaDoorLib
import Derived.Test.YtdmbboijcaelcaaDoorRlL
import Derived.Test.YtdmbboijcaelcaaDoorRowLib
import Derived.Lay
import Derived.MakeChecks
namespace Go.Proofs.YtdmbboijcaelcaaDoor.fnExactRecordLines
open Go.ChangeShapes Go.WideShapes Go.ChangeAt Go.RowKit Go.Proofs.YtdmbboijcaelcaaDoor.Q Go.Joins Go.Proofs.YtdmbboijcaelcaaDoor.RowLib Go.Proofs.YtdmbboijcaelcaaDoorW.PrintWords
set_option linter.unusedVariables false
set_option maxRecDepth 100000 in
theorem lifted (os : Os) (started : os.Started) (H : Type) (enc : TypeId × Value → H) :
    ReturnsInHanded {} Tryd.checked os 11 .any (fun w args => (Rows.fnExactRecordLinesSpec.pre enc Tryd.prog Tryd.f11 [] false w args ∧ laidMetH Tryd.prog Rows.fnExactRecordLinesRow.laid w) ∧ sizedMet enc Tryd.prog Tryd.f11 (OpenSpec.ofChange Rows.fnExactRecordLinesSpec) false w args)
      (Rows.fnExactRecordLinesSpec.post enc Tryd.prog Tryd.f11 false true false false) := by
  refine returnsInHanded_laid_shaped (C := Tryd.checked) (X := fun w _ => laidMetH Tryd.prog Rows.fnExactRecordLinesRow.laid w) (fun _ _ _ hh h => h.of_heap hh) own started (by kernel_rfl) Tryd.func11
    (ChangeSpec.witness_shaped (enc := enc) (C := Tryd.checked) (os := os) (X := fun w _ => laidMetH Tryd.prog Rows.fnExactRecordLinesRow.laid w) false (World.laidAll Tryd.prog os Rows.fnExactRecordLinesRow.laid) #[.agg #[.slice none 0 0, .slice none 0 0], .int .i64 0] 8 (World.laidAll_os _ _ _) (World.shaped_of_ZipB (by kernel_rfl) (by kernel_rfl)) (by kernel_rfl) (by kernel_rfl) (by kernel_rfl) (by rw [MakeChecks.laidMetH_plain _ _ _ (by kernel_rfl)]; exact laidMet_laidAll _ (by kernel_rfl) (by kernel_rfl))) ?_
  intro W base args ds gs before hval0 hW _ _ hL hSH _
  have hval : ∀ (j : Nat) t v, Tryd.f11.params[j]? = some t → args[j]? = some v → Value.okWide Tryd.prog W .any base t v := hval0
  have hW' := hW
  obtain ⟨p, q, hA0, hV, rfl, hfz, hnd⟩ := hW
  have hA : DataW.TrodAll enc Tryd.prog W 0 (fun _ => true) true Tryd.f11.params.toList args.toList ds p := hA0
  rw [Tryd.params11] at hA hval
  obtain ⟨v0, vs0, d0, ds0, p0, q0, hargs, rfl, rfl, h0, r0⟩ := trodAll_cons hA
  obtain ⟨v1, vs1, d1, ds1, p1, q1, rfl, rfl, rfl, h1, r1⟩ := trodAll_cons r0
  obtain ⟨rfl, rfl, rfl⟩ := trodAll_nil r1
  obtain rfl : args = #[v0, v1] := by cases args; simp_all
  obtain ⟨rfl, rfl⟩ := trodVars_none hV
  have k0 := h0
  have lt0 : ∀ x ∈ p0, x.block < W.heap.size := by obtain ⟨m, hm⟩ := k0; exact DataW.trod_lt m _ _ _ hm
  haveI : Inhabited S119 := ⟨z119⟩
  haveI : Inhabited S121 := ⟨z121⟩
  obtain ⟨x0_0, x0_1, y0_0, y0_1, n0, rfl, rfl, rfl, t0_0, t0_1⟩ := open_agg2 Tryd.underlying46 (by kernel_rfl) (by kernel_rfl) (hval 0 46 v0 rfl rfl) h0
  obtain ⟨A0_0, c0_0, l0_0, e0_0, hc0_0, hr0_0, w0_0⟩ := rk_row Tryd.underlying43 (rk_iso (fun x : S119 => (x.f0, x.f1)) (fun p => ⟨p.1, p.2⟩) (fun _ => rfl) (rk_pair Tryd.underlying119 (by kernel_rfl) rfl rfl (rk_int Tryd.underlying3 (by kernel_rfl)) (rk_int Tryd.underlying3 (by kernel_rfl)))) t0_0
  obtain rfl := List.head_eq_of_cons_eq e0_0
  obtain ⟨A0_1, c0_1, l0_1, e0_1, hc0_1, hr0_1, w0_1⟩ := rk_row Tryd.underlying44 (rk_iso (fun x : S121 => (x.f0, x.f1)) (fun p => ⟨p.1, p.2⟩) (fun _ => rfl) (rk_pair Tryd.underlying121 (by kernel_rfl) rfl rfl (rk_int Tryd.underlying3 (by kernel_rfl)) (rk_int Tryd.underlying3 (by kernel_rfl)))) t0_1
  obtain rfl := List.head_eq_of_cons_eq e0_1
  have k1 := h1
  have lt1 : ∀ x ∈ p1, x.block < W.heap.size := by obtain ⟨m, hm⟩ := k1; exact DataW.trod_lt m _ _ _ hm
  obtain ⟨a1, rfl, rfl, rfl, w1⟩ := open_int Tryd.underlying3 (hval 1 3 v1 rfl rfl) h1
  have hL1 : laidMet Tryd.prog [("math/bits.deBruijn32tab", Rows.laid_math_bits_deBruijn32tab), ("math/bits.deBruijn64tab", Rows.laid_math_bits_deBruijn64tab), ("internal/strconv.uint64pow10", Rows.laid_internal_strconv_uint64pow10)] W := hL
  have hlw := lw_of hL1
  clear hA0 hval0
  refine (law_FnExactRecordLines_calls _ _ l0_0 _ _ l0_1 a1 W hr0_0 hc0_0 hr0_1 hc0_1 w1 hlw).mono fun e W' ⟨he, bel0⟩ => ?_
  have bel : Below W.heap.size W W' := bel0
  subst he
  exact ⟨_, rfl, _, _, _, [], _, [], hW', trodAll_mk1 (shut_bool Tryd.underlying4 _), (trodAll_cons_mk (Below.trod laidOut (by kernel_rfl) (of_decide_eq_true (by kernel_rfl)) k0 bel lt0) (trodAll_cons_mk (Below.trod laidOut (by kernel_rfl) (of_decide_eq_true (by kernel_rfl)) k1 bel lt1) trodAll_mk0)), rfl, bel.frame _, fun h => by cases h⟩
theorem over : Rows.fnExactRecordLinesRow.holds Tryd.pinned (OpenSpec.ofChange Rows.fnExactRecordLinesSpec) :=
  OpenClaim.holds_of_wide 11 Tryd.f11 rfl rfl rfl rfl rfl rfl rfl ⟨rfl, rfl, rfl, rfl, rfl⟩ rfl rfl rfl rfl rfl (by kernel_rfl) Tryd.func11 (by kernel_rfl)
    (of_decide_eq_true (by kernel_rfl)) (by unfold Func.isWrapper; first | (rw [if_pos (by decide +kernel)]; kernel_rfl) | (rw [if_neg (by decide +kernel)]; exact ⟨rfl, rfl⟩))
    (fun os started H enc _ => lifted os started H enc)
theorem card : Rows.FnExactRecordLinesCardSaid :=
  Claim7.holds_tied_plain_at .later [] [.data, .data, .data] true (true, "ab9b44c29c8f3873b252f75053787d069ef1729433dc85f2cb58bfdd0daba7c2") true
    over (fun _ h => by cases h) (by kernel_rfl) (fun _ h => by cases h) fnExactRecordLines_row_tie rfl ⟨rfl, rfl⟩ (by kernel_rfl) rfl
    (fun f fn hf hfn => by
      obtain rfl : f = 11 := Option.some.inj ((show Tryd.prog.funcNamed "loop.example/g00876/laws.FnExactRecordLines" = some 11 by kernel_rfl).symm.trans hf) |>.symm
      obtain rfl : fn = Tryd.f11 := (Option.some.inj (Tryd.func11.symm.trans hfn)).symm
      exact ⟨by kernel_rfl, fun j t ht => by
        rw [Tryd.params11] at ht
        rcases j with _ | _ | j
        · obtain rfl : t = 46 := by simpa using ht.symm
          exact (show Tryd.prog.wantsStandIn 46 = false by kernel_rfl)
        · obtain rfl : t = 3 := by simpa using ht.symm
          exact (show Tryd.prog.wantsStandIn 3 = false by kernel_rfl)
        · simp at ht⟩)
    (by kernel_rfl)
#print axioms card
end Go.Proofs.YtdmbboijcaelcaaDoor.fnExactRecordLines
namespace Go.Proofs.YtdmbboijcaelcaaDoor
/-- The tied card, under a short name, for the claim. -/
theorem fnExactRecordLines_holds : Rows.FnExactRecordLinesCardSaid := fnExactRecordLines.card
end Go.Proofs.YtdmbboijcaelcaaDoor
