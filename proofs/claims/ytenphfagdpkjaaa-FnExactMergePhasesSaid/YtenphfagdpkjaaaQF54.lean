-- Written by a program of this session (wip/xprint.py over the kit's printer).
import Derived.Test.YtenphfagdpkjaaaQ0
import Derived.Test.YtenphfagdpkjaaaQF88
import Derived.Test.YtenphfagdpkjaaaQF90
import Derived.Test.YtenphfagdpkjaaaQP
namespace Go.Proofs.Ytenphfagdpkjaaa.Q
open Go.RowKit Go.Proofs.YtenphfagdpkjaaaW.PrintWords Go.Proofs.YtenphfagdpkjaaaW.PrintLast
set_option linter.unusedVariables false
set_option linter.unusedSimpArgs false

/-! ### impl_phaseOf: function 54 -/
/-- The index of the phase of a number, or -1. -/
def phI (l : List S64) (n : Int) : Int := idxI (fun p => p.f1.contains n) l
def impl_phaseOf.f (l0 : List S64) (a1 : Int) : Option Int := some (phI l0 a1)
set_option maxHeartbeats 8000000 in
set_option maxRecDepth 100000 in
theorem impl_phaseOf.pred (a1 : Int) (b : Nat) (w : World) (hb : b < w.heap.size) (hc : w.cell? ⟨b, 0, none⟩ = some (.int .i64 a1)) : PredP Try.prog 89 #[.pointer (some ⟨b, 0, none⟩)] (fun p => p.f1.contains a1) w := by
  intro W x A1 c1 hB hl hC
  have hc' := (hB.cell (p := ⟨b, 0, none⟩) hb).trans hc
  have hb' : b < W.heap.size := Nat.lt_of_lt_of_le hb hB.size
  have HC := Aside0.mk hC
  show Calls _ _ _ _ (fun e w' => e = .returned (.bool (x.f1.contains a1)) ∧ _)
  have HK := Aside0.mk (fun (W' : World) (h : Kd.C (Kd.int .i64) W' A1 x.f1.length x.f1) => slices_Contains_int_int.calls A1 c1 x.f1 a1 W' h hl)
  generalize x.f1.contains a1 = bb at HK ⊢
  clear hc hB hb hC
  go_enter Try.func89, Try.ntmps89
  go_wp2_with (go_at_call 90; (refine (HK.out _ (Kd.C_below HC.out (by repeat (first | exact Below.refl _ _ | apply below_alloc | apply pw_below_drewN | apply below_drew1)))).mono ?_); rintro e w1 ⟨rfl, hb1⟩; have HB1 := Aside0.mk hb1; clear hb1)
  go_ret
  exact ⟨rfl, below_chain (by repeat (first | exact Below.refl _ _ | apply below_alloc | apply pw_below_drewN | apply below_drew1)) HB1.out⟩
set_option maxHeartbeats 8000000 in
set_option maxRecDepth 100000 in
theorem impl_phaseOf.calls (A0 : Option Addr) (c0 : Nat) (l0 : List S64) (a1 : Int) (r : Int) (w : World) (hr0 : Kd.C k64 w A0 l0.length l0) (hc0 : l0.length ≤ c0) (h : impl_phaseOf.f l0 a1 = some r) :
    Calls Try.prog 54 #[.slice A0 l0.length c0, .int .i64 a1] w fun e w' => e = .returned (.int .i64 r) ∧ Below w.heap.size w w' := by
  obtain rfl := Option.some.inj h
  clear h
  have HR := Aside0.mk hr0
  clear hr0
  have eg := enters_of Try.func89 (by kernel_rfl) rfl
  have HPR := Aside0.mk (impl_phaseOf.pred a1)
  unfold phI
  generalize (fun p : S64 => p.f1.contains a1) = q at HPR ⊢
  go_enter Try.func54, Try.ntmps54
  go_wp2_with (go_at_call 88; refine (impl_Phase_88.calls 89 _ eg _ A0 c0 _ l0 _ rfl (Kd.C_below HR.out (by repeat (first | exact Below.refl _ _ | apply below_alloc | apply pw_below_drewN | apply below_drew1))) hc0 (HPR.out w.heap.size _ (by simp) (by simp))).mono ?_; rintro e w' ⟨rfl, hb⟩)
  go_ret
  exact ⟨rfl, below_chain (by repeat (first | exact Below.refl _ _ | apply below_alloc | apply pw_below_drewN | apply below_drew1)) hb⟩

end Go.Proofs.Ytenphfagdpkjaaa.Q
