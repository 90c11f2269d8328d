-- Written by a program of this session (wip/xprint.py over the kit's printer).
import Derived.Test.YtenphfagdpkjaaaQ0
import Derived.Test.YtenphfagdpkjaaaQF100
import Derived.Test.YtenphfagdpkjaaaQF16
import Derived.Test.YtenphfagdpkjaaaQF47
import Derived.Test.YtenphfagdpkjaaaQF51
import Derived.Test.YtenphfagdpkjaaaQF54
import Derived.Test.YtenphfagdpkjaaaQF60
import Derived.Test.YtenphfagdpkjaaaQF83
import Derived.Test.YtenphfagdpkjaaaQF99
import Derived.Test.YtenphfagdpkjaaaQP
namespace Go.Proofs.Ytenphfagdpkjaaa.Q
open Go.RowKit Go.Proofs.YtenphfagdpkjaaaW.PrintWords Go.Proofs.YtenphfagdpkjaaaW.PrintLast
set_option linter.unusedVariables false
set_option linter.unusedSimpArgs false

/-! ### impl_FirstUnsound: function 24 -/
theorem results_tmp4 {fn : Func} {t u v x : Tmp} (h : fn.results = #[.tmp t, .tmp u, .tmp v, .tmp x]) (tmps : Array Value) (P : Program) (w : World) :
    (results fn tmps).run P w = .ok (.tuple #[tmps.getD t undef, tmps.getD u undef, tmps.getD v undef, tmps.getD x undef]) w := by
  simp [results, h]
/-- The first place from k on that p holds of. -/
def fuRow (p : Nat → Bool) (k : Nat) : Nat → Option Nat
  | 0 => none
  | d + 1 => if p k then some k else fuRow p (k + 1) d
def fuAll (p : Nat → Nat → Bool) (n i : Nat) : Nat → Option (Nat × Nat)
  | 0 => none
  | d + 1 => match fuRow (p i) 0 n with
    | some k => some (i, k)
    | none => fuAll p n (i + 1) d
theorem fuRow_no (p : Nat → Bool) (k d : Nat) {D : Nat} (e : D = d + 1) (h : p k = false) : fuRow p k D = fuRow p (k + 1) d := by
  subst e; rw [fuRow, h]; rfl
theorem fuRow_yes (p : Nat → Bool) (k d : Nat) {D : Nat} (e : D = d + 1) (h : p k = true) : fuRow p k D = some k := by
  subst e; rw [fuRow, h]; rfl
theorem fuAll_no (p : Nat → Nat → Bool) (n i d : Nat) {D : Nat} (e : D = d + 1) (h : fuRow (p i) 0 n = none) : fuAll p n i D = fuAll p n (i + 1) d := by
  subst e; rw [fuAll, h]
theorem fuAll_yes (p : Nat → Nat → Bool) (n i d : Nat) {k D : Nat} (e : D = d + 1) (h : fuRow (p i) 0 n = some k) : fuAll p n i D = some (i, k) := by
  subst e; rw [fuAll, h]
def fuAt (cs : List S77) (l : List S64) (M : Nat → Nat → Bool) (i k : Nat) : Bool := M i k && (decide (0 ≤ phI l (cs.getD k z77).f0) && decide (phI l (cs.getD k z77).f0 < phI l (cs.getD i z77).f0))
def fuRes (cs : List S77) (o : Option (Nat × Nat)) : Int × Int × Bool × Bool := match o with
  | some (i, k) => ((cs.getD i z77).f0, (cs.getD k z77).f0, true, true)
  | none => (0, 0, false, true)
def impl_FirstUnsound.f (l0_0 : List S77) (l0_1 : List S91) (l1 : List S64) : Option (Int × Int × Bool × Bool) := if smallP l1 then some (if validG l0_0 l0_1 l1 then fuRes l0_0 (fuAll (fuAt l0_0 l1 (lat l0_0 l0_1)) l0_0.length 0 l0_0.length) else (0, 0, false, false)) else none
set_option maxHeartbeats 8000000 in
set_option maxRecDepth 100000 in
theorem impl_FirstUnsound.calls (A0_0 : Option Addr) (c0_0 : Nat) (l0_0 : List S77) (A0_1 : Option Addr) (c0_1 : Nat) (l0_1 : List S91) (A1 : Option Addr) (c1 : Nat) (l1 : List S64) (r1 r2 : Int) (r3 r4 : Bool) (w : World) (hr0_0 : Kd.C k77 w A0_0 l0_0.length l0_0) (hc0_0 : l0_0.length ≤ c0_0) (hr0_1 : Kd.C k91 w A0_1 l0_1.length l0_1) (hc0_1 : l0_1.length ≤ c0_1) (hr1 : Kd.C k64 w A1 l1.length l1) (hc1 : l1.length ≤ c1) (h : impl_FirstUnsound.f l0_0 l0_1 l1 = some (r1, r2, r3, r4)) :
    Calls Try.prog 24 #[.agg #[.slice A0_0 l0_0.length c0_0, .slice A0_1 l0_1.length c0_1], .slice A1 l1.length c1] w fun e w' => e = .returned (.tuple #[.int .i64 r1, .int .i64 r2, .bool r3, .bool r4]) ∧ Below w.heap.size w w' := by
  have hs : smallP l1 = true := by
    unfold impl_FirstUnsound.f at h
    by_cases hs : smallP l1 = true
    · exact hs
    · rw [if_neg hs] at h; cases h
  unfold impl_FirstUnsound.f at h
  rw [if_pos hs] at h
  have HSM := Aside0.mk hs
  have HP1 := Aside0.mk hr1
  have HPC := Aside0.mk hc1
  have H := Option.some.inj h
  clear hs hr1 hc1 h
  have HR0 := Aside0.mk hr0_0
  have HR1 := Aside0.mk hr0_1
  have HC0 := Aside0.mk hc0_0
  have HC1 := Aside0.mk hc0_1
  clear hr0_0 hr0_1 hc0_0 hc0_1
  obtain ⟨wb, hwb⟩ : ∃ wb, (w).alloc (.cells #[.slice A0_0 l0_0.length c0_0, .slice A0_1 l0_1.length c0_1] 33 (0, 0)) = wb := ⟨_, rfl⟩
  have HBw := Aside0.mk (show Below w.heap.size w wb from by rw [← hwb]; repeat (first | exact Below.refl _ _ | apply below_alloc))
  have HWB := HBw
  have hhr : wb.heap[w.heap.size]? = some (.cells #[.slice A0_0 l0_0.length c0_0, .slice A0_1 l0_1.length c0_1] 33 (0, 0)) := by rw [← hwb]; have h := blk_new (w) (.cells #[.slice A0_0 l0_0.length c0_0, .slice A0_1 l0_1.length c0_1] 33 (0, 0)); rw [show (w).heap.size = w.heap.size from by rfl] at h; exact h
  have hb0 : wb.cell? ⟨w.heap.size, 0, none⟩ = some (.slice A0_0 l0_0.length c0_0) := (blk_cell hhr 0).trans rfl
  have hb1 : wb.cell? ⟨w.heap.size, 1, none⟩ = some (.slice A0_1 l0_1.length c0_1) := (blk_cell hhr 1).trans rfl
  have hbs : w.heap.size < wb.heap.size := blk_lt hhr
  have HW := Aside0.mk hwb
  clear hwb hhr
  obtain ⟨b, hb⟩ : ∃ b, goodB l0_0 l0_1 = b := ⟨_, rfl⟩
  have HGB := Aside0.mk hb
  unfold validG at H
  rw [hb] at H
  cases b with
  | false =>
    clear hb
    injection H with H1 H2
    injection H2 with H2 H3
    injection H3 with H3 H4
    subst H1; subst H2; subst H3; subst H4
    go_enter Try.func24, Try.ntmps24
    go_upto_region 1 with (fail)
    try rw [HW.out]
    clear HW
    go_wp2_with (go_at_call 47; (refine (impl_readGrouping.bad _ _ l0_0 _ _ l0_1 _ _ l1 _ (Kd.C_below HR0.out (by repeat (first | exact HBw.out | exact Below.refl _ _ | apply below_alloc | apply pw_below_drewN | apply below_drew1))) HC0.out (Kd.C_below HR1.out (by repeat (first | exact HBw.out | exact Below.refl _ _ | apply below_alloc | apply pw_below_drewN | apply below_drew1))) HC1.out (Kd.C_below HP1.out (by repeat (first | exact HBw.out | exact Below.refl _ _ | apply below_alloc | apply pw_below_drewN | apply below_drew1))) HPC.out HGB.out).mono ?_); rintro e w1 ⟨rfl, hb⟩; have HBw : Aside0 (Below w.heap.size w w1) := Aside0.mk (below_chain (w := w) (by repeat (first | exact HBw.out | exact Below.refl _ _ | apply below_alloc | apply pw_below_drewN | apply below_drew1)) hb); have hb0 := pw_cell_below hb hb0; clear hb)
    ((try simp only [Exit.inBlock, Exit.then]); refine bodyPost_ret (results_tmp4 rfl _ _ _) rfl ?_)
    exact ⟨rfl, (by repeat (first | exact HBw.out | exact Below.refl _ _ | apply below_alloc | apply pw_below_drewN | apply below_drew1))⟩
  | true =>
    have HG := Aside0.mk (goodB_parts hb)
    clear hb
    obtain ⟨b2, hb2⟩ : ∃ b, (consB l0_0.length (lat l0_0 l0_1) && grpB l0_0 l1) = b := ⟨_, rfl⟩
    rw [hb2] at H
    have HCB := Aside0.mk hb2
    clear hb2
    cases b2 with
    | false =>
      injection H with H1 H2
      injection H2 with H2 H3
      injection H3 with H3 H4
      subst H1; subst H2; subst H3; subst H4
      go_enter Try.func24, Try.ntmps24
      go_upto_region 1 with (fail)
      try rw [HW.out]
      clear HW
      go_wp2_with (go_at_call 47; (refine (impl_readGrouping.calls _ _ l0_0 _ _ l0_1 _ _ l1 _ (Kd.C_below HR0.out (by repeat (first | exact HBw.out | exact Below.refl _ _ | apply below_alloc | apply pw_below_drewN | apply below_drew1))) HC0.out (Kd.C_below HR1.out (by repeat (first | exact HBw.out | exact Below.refl _ _ | apply below_alloc | apply pw_below_drewN | apply below_drew1))) HC1.out (Kd.C_below HP1.out (by repeat (first | exact HBw.out | exact Below.refl _ _ | apply below_alloc | apply pw_below_drewN | apply below_drew1))) HPC.out HGB.out HSM.out).mono ?_); rintro e w1 ⟨p, rfl, N1, N2, A, c, HO⟩; rw [HCB.out]; have hb := HO.below; have HBw : Aside0 (Below w.heap.size w w1) := Aside0.mk (below_chain (w := w) (by repeat (first | exact HBw.out | exact Below.refl _ _ | apply below_alloc | apply pw_below_drewN | apply below_drew1)) hb); have hb0 := pw_cell_below hb hb0; clear hb HO)
      ((try simp only [Exit.inBlock, Exit.then]); refine bodyPost_ret (results_tmp4 rfl _ _ _) rfl ?_)
      exact ⟨rfl, (by repeat (first | exact HBw.out | exact Below.refl _ _ | apply below_alloc | apply pw_below_drewN | apply below_drew1))⟩
    | true =>
      have HRES := Aside0.mk (show fuRes l0_0 (fuAll (fuAt l0_0 l1 (lat l0_0 l0_1)) l0_0.length 0 l0_0.length) = (r1, r2, r3, r4) from H)
      have HN := Aside0.mk HG.out.1
      clear H
      go_enter Try.func24, Try.ntmps24
      go_upto_region 1 with (fail)
      try rw [HW.out]
      clear HW
      go_upto_region 4 with (go_at_call 47; (refine (impl_readGrouping.calls _ _ l0_0 _ _ l0_1 _ _ l1 _ (Kd.C_below HR0.out (by repeat (first | exact HBw.out | exact Below.refl _ _ | apply below_alloc | apply pw_below_drewN | apply below_drew1))) HC0.out (Kd.C_below HR1.out (by repeat (first | exact HBw.out | exact Below.refl _ _ | apply below_alloc | apply pw_below_drewN | apply below_drew1))) HC1.out (Kd.C_below HP1.out (by repeat (first | exact HBw.out | exact Below.refl _ _ | apply below_alloc | apply pw_below_drewN | apply below_drew1))) HPC.out HGB.out HSM.out).mono ?_); rintro e w1 ⟨p, rfl, N1, N2, A, c, HO⟩; rw [HCB.out]; have hb := HO.below; have HBw : Aside0 (Below w.heap.size w w1) := Aside0.mk (below_chain (w := w) (by repeat (first | exact HBw.out | exact Below.refl _ _ | apply below_alloc | apply pw_below_drewN | apply below_drew1)) hb); have hb0 := pw_cell_below hb hb0; have HO := Aside0.mk HO; clear hb)
      have HB := HBw
      clear hb0 HBw
      obtain ⟨wo, HO⟩ : ∃ wo, Aside0 (OrdIn wo w1 p N1 N2 l0_0.length (.slice A l0_0.length c) (nums l0_0) (abv l0_0 l0_1) (lat l0_0 l0_1)) := ⟨_, HO⟩
      obtain ⟨M, hM⟩ : ∃ M, lat l0_0 l0_1 = M := ⟨_, rfl⟩
      rw [hM] at HO HRES
      clear hM
      have g0 := HO.out.c0
      go_upto_region 5 with (fail)
      clear g0
      go_loopg [10, 11, 12, 13, 14, 15, 29] l0_0.length (fun gg _ _ _ _ _ _ s29 wr => ∃ i : Nat, i ≤ l0_0.length ∧ l0_0.length - i ≤ gg ∧ s29 = .int .i64 i ∧ Aside0 (Below w.heap.size w wr) ∧ Aside0 (OrdIn wo wr p N1 N2 l0_0.length (.slice A l0_0.length c) (nums l0_0) (abv l0_0 l0_1) M) ∧ Aside0 (fuAll (fuAt l0_0 l1 M) l0_0.length 0 l0_0.length = fuAll (fuAt l0_0 l1 M) l0_0.length i (l0_0.length - i)))
      case atStart => exact ⟨0, Nat.zero_le _, by omega, rfl, HB, HO, ⟨rfl⟩⟩
      case round =>
        clear HB HO
        obtain ⟨i, hi, hgg, rfl, HB, HO, HAL⟩ := hrel
        by_cases hil : i < l0_0.length
        · have hilz : (i : Int) < (l0_0.length : Int) := by omega
          have g0 := HO.out.c0
          have HCN := Aside0.mk (show Kd.C (Kd.int .i64) wr A l0_0.length (nums l0_0) from by have h := (Kd.R_reads' HO.out.ns).2.2; rw [nums_length] at h; exact h)
          obtain ⟨ad, ea, hx1⟩ := Kd.at_int HCN.out (i : Int) (by omega) hilz
          subst ea
          rw [rd_nums l0_0 i hil, Int.toNat_natCast] at hx1
          obtain ⟨ya, hya⟩ : ∃ y, (l0_0.getD i z77).f0 = y := ⟨_, rfl⟩
          rw [hya] at hx1
          have HYA := Aside0.mk hya
          obtain ⟨pa, hpa⟩ : ∃ y, phI l1 ya = y := ⟨_, rfl⟩
          have HPA := Aside0.mk hpa
          have Apa := Aside0.mk (show impl_phaseOf.f l1 ya = some pa from congrArg some hpa)
          clear hya hpa HCN
          go_upto_region 8 with (fail)
          clear g0 hx1
          go_loopg [12, 13, 14, 15, 39] l0_0.length (fun gg _ _ _ _ s39 wr => ∃ k : Nat, k ≤ l0_0.length ∧ l0_0.length - k ≤ gg ∧ s39 = .int .i64 k ∧ Aside0 (Below w.heap.size w wr) ∧ Aside0 (OrdIn wo wr p N1 N2 l0_0.length (.slice (some ad) l0_0.length c) (nums l0_0) (abv l0_0 l0_1) M) ∧ Aside0 (fuRow (fuAt l0_0 l1 M i) 0 l0_0.length = fuRow (fuAt l0_0 l1 M i) k (l0_0.length - k)))
          case atStart => exact ⟨0, Nat.zero_le _, by omega, rfl, HB, HO, ⟨rfl⟩⟩
          case round =>
            clear HB HO
            obtain ⟨k, hk, hgg2, rfl, HB, HO, HRO⟩ := hrel
            by_cases hkl : k < l0_0.length
            · have hklz : (k : Int) < (l0_0.length : Int) := by omega
              have g2 := HO.out.c2
              have g3 := HO.out.m2.topc hil
              have g4 := HO.out.m2.cell hil hkl
              have HCN := Aside0.mk (show Kd.C (Kd.int .i64) wr (some ad) l0_0.length (nums l0_0) from by have h := (Kd.R_reads' HO.out.ns).2.2; rw [nums_length] at h; exact h)
              obtain ⟨adb, eb, hx2⟩ := Kd.at_int HCN.out (k : Int) (by omega) hklz
              obtain rfl := Option.some.inj eb
              rw [rd_nums l0_0 k hkl, Int.toNat_natCast] at hx2
              obtain ⟨yb, hyb⟩ : ∃ y, (l0_0.getD k z77).f0 = y := ⟨_, rfl⟩
              rw [hyb] at hx2
              have HYB := Aside0.mk hyb
              obtain ⟨pb, hpb⟩ : ∃ y, phI l1 yb = y := ⟨_, rfl⟩
              have HPB := Aside0.mk hpb
              have Apb := Aside0.mk (show impl_phaseOf.f l1 yb = some pb from congrArg some hpb)
              obtain ⟨mb, hmb⟩ : ∃ x, M i k = x := ⟨_, rfl⟩
              rw [hmb] at g4
              have HMB := Aside0.mk hmb
              clear hyb hpb hmb HCN eb
              cases mb with
              | false =>
                go_wp2_with (first | (go_at_call 54; (with_reducible refine (impl_phaseOf.calls _ _ l1 ya pa _ (Kd.C_below HP1.out HB.out) HPC.out Apa.out).mono ?_); rintro e w2 ⟨rfl, hb⟩; have HB := Aside0.mk (below_chain HB.out hb); have HO := Aside0.mk (HO.out.step hb); have g2 := pw_cell_below hb g2; have g3 := pw_cell_below hb g3; have g4 := pw_cell_below hb g4; clear hb) | (go_at_call 54; (with_reducible refine (impl_phaseOf.calls _ _ l1 yb pb _ (Kd.C_below HP1.out HB.out) HPC.out Apb.out).mono ?_); rintro e w3 ⟨rfl, hb⟩; have HB := Aside0.mk (below_chain HB.out hb); have HO := Aside0.mk (HO.out.step hb); have g2 := pw_cell_below hb g2; have g3 := pw_cell_below hb g3; have g4 := pw_cell_below hb g4; clear hb))
                go_roundg (l0_0.length - (k + 1))
                case measure => omega
                case rel => exact ⟨k + 1, by omega, by omega, by first | go_num | exact congrArg (Value.int .i64) (wrap_succ k (by have := HN.out; omega)), HB, HO, ⟨by rw [HRO.out, fuRow_no _ _ _ (show l0_0.length - k = (l0_0.length - (k + 1)) + 1 by omega) (show fuAt l0_0 l1 M i k = false from by unfold fuAt; rw [HYA.out, HYB.out, HPA.out, HPB.out, HMB.out]; simp only [Bool.false_and, Bool.true_and, Bool.and_false, ])]⟩⟩
              | true =>
                by_cases h1 : 0 ≤ pb
                · by_cases h2 : pb < pa
                  · have h3 : 0 ≤ pa := by omega
                    have HFR := Aside0.mk (fuAll_yes (fuAt l0_0 l1 M) l0_0.length i (l0_0.length - (i + 1)) (show l0_0.length - i = (l0_0.length - (i + 1)) + 1 by omega) (HRO.out.trans (fuRow_yes (fuAt l0_0 l1 M i) k (l0_0.length - (k + 1)) (by omega) (show fuAt l0_0 l1 M i k = true from by unfold fuAt; rw [HYA.out, HYB.out, HPA.out, HPB.out, HMB.out, decide_eq_true h1, decide_eq_true h2]; rfl))))
                    have H := HRES.out
                    rw [HAL.out, HFR.out] at H
                    have H' : ((l0_0.getD i z77).f0, (l0_0.getD k z77).f0, true, true) = (r1, r2, r3, r4) := H
                    rw [HYA.out, HYB.out] at H'
                    clear H
                    injection H' with H1 H2
                    injection H2 with H2 H3
                    injection H3 with H3 H4
                    subst H1; subst H2; subst H3; subst H4
                    go_wp2_with (first | (go_at_call 54; (with_reducible refine (impl_phaseOf.calls _ _ l1 ya pa _ (Kd.C_below HP1.out HB.out) HPC.out Apa.out).mono ?_); rintro e w2 ⟨rfl, hb⟩; have HB := Aside0.mk (below_chain HB.out hb); have HO := Aside0.mk (HO.out.step hb); have g2 := pw_cell_below hb g2; have g3 := pw_cell_below hb g3; have g4 := pw_cell_below hb g4; clear hb) | (go_at_call 54; (with_reducible refine (impl_phaseOf.calls _ _ l1 yb pb _ (Kd.C_below HP1.out HB.out) HPC.out Apb.out).mono ?_); rintro e w3 ⟨rfl, hb⟩; have HB := Aside0.mk (below_chain HB.out hb); have HO := Aside0.mk (HO.out.step hb); have g2 := pw_cell_below hb g2; have g3 := pw_cell_below hb g3; have g4 := pw_cell_below hb g4; clear hb))
                    ((try simp only [Exit.inBlock, Exit.then]); refine bodyPost_ret (results_tmp4 rfl _ _ _) rfl ?_)
                    exact ⟨rfl, HB.out⟩
                  · by_cases h3 : 0 ≤ pa
                    all_goals
                      go_wp2_with (first | (go_at_call 54; (with_reducible refine (impl_phaseOf.calls _ _ l1 ya pa _ (Kd.C_below HP1.out HB.out) HPC.out Apa.out).mono ?_); rintro e w2 ⟨rfl, hb⟩; have HB := Aside0.mk (below_chain HB.out hb); have HO := Aside0.mk (HO.out.step hb); have g2 := pw_cell_below hb g2; have g3 := pw_cell_below hb g3; have g4 := pw_cell_below hb g4; clear hb) | (go_at_call 54; (with_reducible refine (impl_phaseOf.calls _ _ l1 yb pb _ (Kd.C_below HP1.out HB.out) HPC.out Apb.out).mono ?_); rintro e w3 ⟨rfl, hb⟩; have HB := Aside0.mk (below_chain HB.out hb); have HO := Aside0.mk (HO.out.step hb); have g2 := pw_cell_below hb g2; have g3 := pw_cell_below hb g3; have g4 := pw_cell_below hb g4; clear hb))
                      go_roundg (l0_0.length - (k + 1))
                      case measure => omega
                      case rel => exact ⟨k + 1, by omega, by omega, by first | go_num | exact congrArg (Value.int .i64) (wrap_succ k (by have := HN.out; omega)), HB, HO, ⟨by rw [HRO.out, fuRow_no _ _ _ (show l0_0.length - k = (l0_0.length - (k + 1)) + 1 by omega) (show fuAt l0_0 l1 M i k = false from by unfold fuAt; rw [HYA.out, HYB.out, HPA.out, HPB.out, HMB.out]; simp only [Bool.false_and, Bool.true_and, Bool.and_false, decide_eq_false (show ¬ pb < pa by omega)])]⟩⟩
                · by_cases h3 : 0 ≤ pa
                  all_goals
                    go_wp2_with (first | (go_at_call 54; (with_reducible refine (impl_phaseOf.calls _ _ l1 ya pa _ (Kd.C_below HP1.out HB.out) HPC.out Apa.out).mono ?_); rintro e w2 ⟨rfl, hb⟩; have HB := Aside0.mk (below_chain HB.out hb); have HO := Aside0.mk (HO.out.step hb); have g2 := pw_cell_below hb g2; have g3 := pw_cell_below hb g3; have g4 := pw_cell_below hb g4; clear hb) | (go_at_call 54; (with_reducible refine (impl_phaseOf.calls _ _ l1 yb pb _ (Kd.C_below HP1.out HB.out) HPC.out Apb.out).mono ?_); rintro e w3 ⟨rfl, hb⟩; have HB := Aside0.mk (below_chain HB.out hb); have HO := Aside0.mk (HO.out.step hb); have g2 := pw_cell_below hb g2; have g3 := pw_cell_below hb g3; have g4 := pw_cell_below hb g4; clear hb))
                    go_roundg (l0_0.length - (k + 1))
                    case measure => omega
                    case rel => exact ⟨k + 1, by omega, by omega, by first | go_num | exact congrArg (Value.int .i64) (wrap_succ k (by have := HN.out; omega)), HB, HO, ⟨by rw [HRO.out, fuRow_no _ _ _ (show l0_0.length - k = (l0_0.length - (k + 1)) + 1 by omega) (show fuAt l0_0 l1 M i k = false from by unfold fuAt; rw [HYA.out, HYB.out, HPA.out, HPB.out, HMB.out]; simp only [Bool.false_and, Bool.true_and, Bool.and_false, decide_eq_false (show ¬ 0 ≤ pb by omega)])]⟩⟩
            · obtain rfl : k = l0_0.length := by omega
              have hkz : ¬ ((l0_0.length : Int) < (l0_0.length : Int)) := by omega
              go_wp2
              go_roundg (l0_0.length - (i + 1))
              case measure => omega
              case rel => exact ⟨i + 1, by omega, by omega, by first | go_num | exact congrArg (Value.int .i64) (wrap_succ i (by have := HN.out; omega)), HB, HO, ⟨by rw [HAL.out, fuAll_no _ _ _ _ (show l0_0.length - i = (l0_0.length - (i + 1)) + 1 by omega) (by rw [HRO.out, Nat.sub_self]; rfl)]⟩⟩
        · obtain rfl : i = l0_0.length := by omega
          have hkz : ¬ ((l0_0.length : Int) < (l0_0.length : Int)) := by omega
          have H := HRES.out
          rw [HAL.out, Nat.sub_self] at H
          have H' : ((0 : Int), (0 : Int), false, true) = (r1, r2, r3, r4) := H
          clear H
          injection H' with H1 H2
          injection H2 with H2 H3
          injection H3 with H3 H4
          subst H1; subst H2; subst H3; subst H4
          go_wp2
          ((try simp only [Exit.inBlock, Exit.then]); refine bodyPost_ret (results_tmp4 rfl _ _ _) rfl ?_)
          exact ⟨rfl, HB.out⟩

end Go.Proofs.Ytenphfagdpkjaaa.Q
