/- The law of FormatNumbers walked. -/
import Derived.Test.YtdmbboijcaelcaaDoorNumsE
namespace Go.Proofs.YtdmbboijcaelcaaDoor.Q
open Go.RowKit Go.Proofs.YtdmbboijcaelcaaDoorW.PrintWords Go.Proofs.YtdmbboijcaelcaaDoorW.PrintLast
set_option linter.unusedVariables false
set_option linter.unusedSimpArgs false
set_option maxHeartbeats 2000000 in
set_option maxRecDepth 100000 in
theorem law_FnExactFormatNumbers_calls (A0 : Option Addr) (c0 : Nat) (l : List Int) (w : World) (hr0 : Kd.C (Kd.int .i64) w A0 l.length l) (hc0 : l.length ≤ c0) (w0 : ∀ y ∈ l, (Lit.int .i64 y).wf = true) (hlw : LW w) :
    Calls Tryd.prog 6 #[.slice A0 l.length c0] w fun e w' => e = .returned (.bool true) ∧ Below w.heap.size w w' := by
  clear w0
  by_cases hbig : 1048576 < l.length
  · have h1z : decide (1048576 < (l.length : Int)) = true := decide_eq_true (by omega)
    have h1y : decide (1048576 < l.length) = true := decide_eq_true hbig
    clear hlw hr0
    go_enter Tryd.func6, Tryd.ntmps6
    go_wp2
    go_ret
    exact ⟨rfl, by repeat (first | exact Below.refl _ _ | apply below_alloc | apply pw_below_drewN | apply below_drew1)⟩
  · have h1z : decide (1048576 < (l.length : Int)) = false := decide_eq_false (by omega)
    have h1y : decide (1048576 < l.length) = false := decide_eq_false hbig
    obtain ⟨k1, hk1⟩ := toIntS_ev l (by omega)
    obtain ⟨k2, hk2⟩ := fmtNumbers_ev l (by omega)
    obtain ⟨k3, hk3⟩ := eqIntS_ev l (by omega)
    have hG := fun (W : World) (A : Option Addr) (c : Nat) (hr : Kd.C (Kd.int .i64) W A l.length l) (hc : l.length ≤ c) (h : LW W) => fmtNumbers_calls l A c W hr hc (fun h1 h2 => join_len l h1 h2) h
    generalize numsI l = r at hk2 hG
    obtain ⟨t, b⟩ := r
    have HK1 := Aside0.mk hk1
    have HK2 := Aside0.mk hk2
    have HK3 := Aside0.mk hk3
    have HG := Aside0.mk hG
    have HL := Aside0.mk hlw
    have HR0 := Aside0.mk hr0
    have hne : (b != b) = false := bne_self_eq_false b
    have HB := Aside0.mk (Below.refl w.heap.size w)
    clear hk1 hk2 hk3 hG hlw hbig hr0
    go_enter Tryd.func6, Tryd.ntmps6
    go_upto_region 4 with (first | (go_at_call 24; (refine (laws_toIntS.calls k1 A0 c0 l l _ (Kd.C_below HR0.out (by repeat (first | exact HB.out | apply below_alloc | apply pw_below_drewN | apply below_drew1))) hc0 HK1.out).mono ?_); rintro e w1 ⟨v1, rfl, hR, hb⟩; obtain ⟨A1, c1, rfl, hd1, hC1⟩ := Kd.R_reads hR; have HC1 := Aside0.mk hC1; have HB := Aside0.mk (below_chain (w := w) (by repeat (first | exact HB.out | apply below_alloc | apply pw_below_drewN | apply below_drew1)) hb); clear hb; clear hR hC1) | (go_at_call 23; (refine (spec_FormatNumbers.calls k2 A1 c1 l t b _ (Kd.C_below HC1.out (by repeat (first | exact Below.refl _ _ | apply below_alloc | apply pw_below_drewN | apply below_drew1))) hd1 HK2.out).mono ?_); rintro e w2 ⟨rfl, hb⟩; have HB := Aside0.mk (below_chain (w := w) (by repeat (first | exact HB.out | apply below_alloc | apply pw_below_drewN | apply below_drew1)) hb); clear hb))
    clear HC1 hd1
    go_upto_region 5 with (go_at_call 24; (refine (laws_toIntS.calls k1 A0 c0 l l _ (Kd.C_below HR0.out (by repeat (first | exact HB.out | apply below_alloc | apply pw_below_drewN | apply below_drew1))) hc0 HK1.out).mono ?_); rintro e w3 ⟨v3, rfl, hR, hb⟩; obtain ⟨A3, c3, rfl, hd3, hC3⟩ := Kd.R_reads hR; have HC3 := Aside0.mk hC3; have HB := Aside0.mk (below_chain (w := w) (by repeat (first | exact HB.out | apply below_alloc | apply pw_below_drewN | apply below_drew1)) hb); clear hb; clear hR hC3)
    obtain ⟨wa, hwa⟩ : ∃ x, x = w3 := ⟨_, rfl⟩
    have HX := Aside0.mk (Below.refl w3.heap.size w3)
    go_upto_region 6 with (go_at_call 25; (refine (HG.out _ A3 c3 (Kd.C_below HC3.out (by repeat (first | exact Below.refl _ _ | apply below_alloc | apply pw_below_drewN | apply below_drew1))) hd3 (LW.below HL.out (by repeat (first | exact HB.out | apply below_alloc | apply pw_below_drewN | apply below_drew1)))).mono ?_); rintro e w4 ⟨rfl, hb⟩; have HC3 := Aside0.mk (Kd.C_below HC3.out (below_chain (by repeat (first | exact Below.refl _ _ | apply below_alloc | apply pw_below_drewN | apply below_drew1)) hb)); have HB := Aside0.mk (below_chain (w := w) (by repeat (first | exact HB.out | apply below_alloc | apply pw_below_drewN | apply below_drew1)) hb); clear hb)
    clear HX hwa
    go_wp2_with (first | (go_at_call 24; (refine (laws_toIntS.calls k1 A0 c0 l l _ (Kd.C_below HR0.out (by repeat (first | exact HB.out | apply below_alloc | apply pw_below_drewN | apply below_drew1))) hc0 HK1.out).mono ?_); rintro e w5 ⟨v5, rfl, hR, hb⟩; obtain ⟨A5, c5, rfl, hd5, hC5⟩ := Kd.R_reads hR; have HC5 := Aside0.mk hC5; have HC3 := Aside0.mk (Kd.C_below HC3.out (below_chain (by repeat (first | exact Below.refl _ _ | apply below_alloc | apply pw_below_drewN | apply below_drew1)) hb)); have HB := Aside0.mk (below_chain (w := w) (by repeat (first | exact HB.out | apply below_alloc | apply pw_below_drewN | apply below_drew1)) hb); clear hb; clear hR hC5) | (go_at_call 26; (refine (laws_eqIntS.calls k3 A3 c3 l A5 c5 l true _ (Kd.C_below HC3.out (by repeat (first | exact Below.refl _ _ | apply below_alloc | apply pw_below_drewN | apply below_drew1))) hd3 (Kd.C_below HC5.out (by repeat (first | exact Below.refl _ _ | apply below_alloc | apply pw_below_drewN | apply below_drew1))) hd5 HK3.out).mono ?_); rintro e w6 ⟨rfl, ⟨nd, rfl⟩⟩))
    go_ret
    exact ⟨rfl, (by repeat (first | exact HB.out | apply below_alloc | apply pw_below_drewN | apply below_drew1))⟩
end Go.Proofs.YtdmbboijcaelcaaDoor.Q
