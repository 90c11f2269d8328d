/- SplitString: the law walked. -/
import Derived.Test.YtdmbboijcaelcaaDoorSs
namespace Go.Proofs.YtdmbboijcaelcaaDoor.Q
open Go.RowKit Go.Proofs.YtdmbboijcaelcaaDoorW.PrintWords Go.Proofs.YtdmbboijcaelcaaDoorW.PrintLast
set_option linter.unusedVariables false
set_option linter.unusedSimpArgs false
set_option maxHeartbeats 2000000 in
set_option maxRecDepth 100000 in
theorem law_FnExactSplitString_calls (s : ByteArray) (p : ByteArray) (w : World) (hMX : MX w) :
    Calls Tryd.prog 4 #[.string s, .string p] w fun e w' => e = .returned (.bool true) ∧ Below w.heap.size w w' := by
  by_cases hbig0 : 1048576 < s.size
  · have h1z : decide (1048576 < (s.size : Int)) = true := decide_eq_true (by omega)
    have h1y : decide (1048576 < s.size) = true := decide_eq_true hbig0
    clear hMX
    go_enter Tryd.func4, Tryd.ntmps4
    go_wp2
    go_ret
    exact ⟨rfl, (by repeat (first | exact Below.refl _ _ | apply below_alloc | apply pw_below_drewN | apply below_drew1))⟩
  have gz0 : decide (1048576 < (s.size : Int)) = false := decide_eq_false (by omega)
  have gy0 : decide (1048576 < s.size) = false := decide_eq_false hbig0
  by_cases hbig1 : 1048576 < p.size
  · have h1z : decide (1048576 < (p.size : Int)) = true := decide_eq_true (by omega)
    have h1y : decide (1048576 < p.size) = true := decide_eq_true hbig1
    clear hMX
    go_enter Tryd.func4, Tryd.ntmps4
    go_wp2
    go_ret
    exact ⟨rfl, (by repeat (first | exact Below.refl _ _ | apply below_alloc | apply pw_below_drewN | apply below_drew1))⟩
  have gz1 : decide (1048576 < (p.size : Int)) = false := decide_eq_false (by omega)
  have gy1 : decide (1048576 < p.size) = false := decide_eq_false hbig1
  obtain ⟨l, b, k1, hk1, hll, hF⟩ := SplitString_both s p (by omega) (by omega)
  obtain ⟨q, my, k2, k3, hq0, hml, hk2, hk3⟩ := markStringS_held l hll
  obtain ⟨k4, hk4⟩ := eqStringS_ev l (by omega)
  have HK1 := Aside0.mk hk1
  have HK2 := Aside0.mk hk2
  have HK4 := Aside0.mk hk4
  have HF := Aside0.mk hF
  have HMX := Aside0.mk hMX
  have hne : (b != b) = false := bne_self_eq_false b
  have hqe : (q != q) = false := bne_self_eq_false q
  have hqz : ¬ q < 0 := by omega
  have HB := Aside0.mk (Below.refl w.heap.size w)
  have HHE := Aside0.mk (fun (W : World) (A5 : Option Addr) (c5 : Nat) (hc : l.length ≤ c5) (hC : Kd.C Kd.string W A5 my.length my) => show Calls Tryd.prog 20 #[.slice A5 l.length c5, .int .i64 1] W (fun e w' => e = .returned (.int .i64 q) ∧ Below W.heap.size W w') from by
    have h := laws_heldStringS.calls k3 A5 c5 my 1 q W hC (by omega) hk3
    rw [hml] at h
    exact h.mono fun e w' hh => ⟨hh.1, hh.2⟩)
  clear hk1 hk2 hk3 hk4 hF hq0 hml hll hMX hbig0 hbig1
  go_enter Tryd.func4, Tryd.ntmps4
  go_upto_region 6 with (go_at_call 16; (refine (spec_SplitString.calls k1 s p l b _ HK1.out).mono ?_); rintro e wa ⟨v, rfl, hR, hb⟩; obtain ⟨A2, c2, rfl, hc2, hC2⟩ := Kd.R_reads hR; have HW0 := Aside0.mk hC2; have HC2 := Aside0.mk hc2; have HB := Aside0.mk (below_chain (w := w) (by repeat (first | exact HB.out | apply below_alloc | apply pw_below_drewN | apply below_drew1)) hb); clear hb hR hC2 hc2)
  have HA := Aside0.mk (Below.refl wa.heap.size wa)
  go_upto_region 7 with (go_at_call 17; (refine (HF.out _ (MX.below HMX.out (below_chain HB.out (by repeat (first | exact HA.out | apply below_alloc | apply pw_below_drewN | apply below_drew1))))).mono ?_); rintro e w2 ⟨v5, rfl, hR, hb⟩; obtain ⟨A5, c5, rfl, hc5, hC5⟩ := Kd.R_reads hR; have HC5 := Aside0.mk hc5; have HG := Aside0.mk (Kd.R_lower hR (below_size (by repeat (first | exact HA.out | apply below_alloc | apply pw_below_drewN | apply below_drew1)))); clear hR hC5; have HA := Aside0.mk (below_chain (w := wa) (by repeat (first | exact HA.out | apply below_alloc | apply pw_below_drewN | apply below_drew1)) hb); clear hb)
  go_upto_region 9 with (go_at_call 18; (refine (laws_eqStringS.calls k4 A5 c5 l A2 c2 l true _ (Kd.C_below (Kd.R_reads' HG.out).2.2 (by repeat (first | exact Below.refl _ _ | apply below_alloc | apply pw_below_drewN | apply below_drew1))) HC5.out (Kd.C_below HW0.out (by repeat (first | exact HA.out | apply below_alloc | apply pw_below_drewN | apply below_drew1))) HC2.out HK4.out).mono ?_); rintro e w3 ⟨rfl, hd⟩; have hb := Drawn0.below hd; clear hd; have HG := Aside0.mk (Kd.R_below HG.out (below_chain (by repeat (first | exact Below.refl _ _ | apply below_alloc | apply pw_below_drewN | apply below_drew1)) hb)); have HA := Aside0.mk (below_chain (w := wa) (by repeat (first | exact HA.out | apply below_alloc | apply pw_below_drewN | apply below_drew1)) hb); clear hb)
  go_upto_region 11 with (go_at_call 19; (refine (laws_markStringS.calls k2 (fun _ => True) (.slice A5 l.length c5) l 1 q my wa _ (by repeat (first | exact HA.out | apply below_alloc | apply pw_below_drewN | apply below_drew1)) (by (with_reducible repeat (first | apply Kd.R_alloc | apply Kd.R_drewN | apply Kd.R_drew)); exact HG.out) HK2.out).mono ?_); rintro e w4 ⟨rfl, hR, hb, hkp⟩; have HG := Aside0.mk (Kd.R_mono (ok' := fun _ => True) hR (fun _ _ => trivial)); have HA := Aside0.mk hb; clear hR hb hkp)
  go_upto_region 13 with (go_at_call 20; (refine (HHE.out _ A5 c5 HC5.out (Kd.C_below (Kd.R_reads' HG.out).2.2 (by repeat (first | exact Below.refl _ _ | apply below_alloc | apply pw_below_drewN | apply below_drew1)))).mono ?_); rintro e w5 ⟨rfl, hb⟩; have HG := Aside0.mk (Kd.R_below HG.out (below_chain (by repeat (first | exact Below.refl _ _ | apply below_alloc | apply pw_below_drewN | apply below_drew1)) hb)); have HA := Aside0.mk (below_chain (w := wa) (by repeat (first | exact HA.out | apply below_alloc | apply pw_below_drewN | apply below_drew1)) hb); clear hb)
  go_upto_region 18 with (go_at_call 17; (refine (HF.out _ (MX.below HMX.out (below_chain HB.out (by repeat (first | exact HA.out | apply below_alloc | apply pw_below_drewN | apply below_drew1))))).mono ?_); rintro e w6 ⟨v7, rfl, hR, hb⟩; obtain ⟨A7, c7, rfl, hc7, hC7⟩ := Kd.R_reads hR; have HC7 := Aside0.mk hc7; have HH := Aside0.mk hC7; clear hR hC7; have HG := Aside0.mk (Kd.R_below HG.out (below_chain (by repeat (first | exact Below.refl _ _ | apply below_alloc | apply pw_below_drewN | apply below_drew1)) hb)); have HA := Aside0.mk (below_chain (w := wa) (by repeat (first | exact HA.out | apply below_alloc | apply pw_below_drewN | apply below_drew1)) hb); clear hb)
  go_upto_region 20 with (go_at_call 18; (refine (laws_eqStringS.calls k4 A7 c7 l A2 c2 l true _ (Kd.C_below HH.out (by repeat (first | exact Below.refl _ _ | apply below_alloc | apply pw_below_drewN | apply below_drew1))) HC7.out (Kd.C_below HW0.out (by repeat (first | exact HA.out | apply below_alloc | apply pw_below_drewN | apply below_drew1))) HC2.out HK4.out).mono ?_); rintro e w7 ⟨rfl, hd⟩; have hb := Drawn0.below hd; clear hd HH; have HG := Aside0.mk (Kd.R_below HG.out (below_chain (by repeat (first | exact Below.refl _ _ | apply below_alloc | apply pw_below_drewN | apply below_drew1)) hb)); have HA := Aside0.mk (below_chain (w := wa) (by repeat (first | exact HA.out | apply below_alloc | apply pw_below_drewN | apply below_drew1)) hb); clear hb)
  go_wp2_with (go_at_call 20; (refine (HHE.out _ A5 c5 HC5.out (Kd.C_below (Kd.R_reads' HG.out).2.2 (by repeat (first | exact Below.refl _ _ | apply below_alloc | apply pw_below_drewN | apply below_drew1)))).mono ?_); rintro e w8 ⟨rfl, hb⟩; have HG := Aside0.mk (Kd.R_below HG.out (below_chain (by repeat (first | exact Below.refl _ _ | apply below_alloc | apply pw_below_drewN | apply below_drew1)) hb)); have HA := Aside0.mk (below_chain (w := wa) (by repeat (first | exact HA.out | apply below_alloc | apply pw_below_drewN | apply below_drew1)) hb); clear hb)
  go_ret
  exact ⟨rfl, (below_chain HB.out (by repeat (first | exact HA.out | apply below_alloc | apply pw_below_drewN | apply below_drew1)))⟩
end Go.Proofs.YtdmbboijcaelcaaDoor.Q
