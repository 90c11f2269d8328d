-- Written by a program of this session (wip/xprint.py over the kit's printer).
import Derived.Test.YtlmdmnenljmdgaaQ0
import Derived.Test.YtlmdmnenljmdgaaQF80
import Derived.Test.YtlmdmnenljmdgaaQP
namespace Go.Proofs.Ytlmdmnenljmdgaa.Q
open Go.RowKit Go.Proofs.YtlmdmnenljmdgaaW.PrintWords Go.Proofs.YtlmdmnenljmdgaaW.PrintLast
set_option linter.unusedVariables false
set_option linter.unusedSimpArgs false

/-! ### impl_indexOf: function 56 -/
def impl_indexOf.f (l0_0 : List S44) (l0_1 : List S36) (a1 : Int) : Option Int := some (idxI (fun c => c.f0 == a1) l0_0)
set_option maxHeartbeats 8000000 in
set_option maxRecDepth 100000 in
theorem impl_indexOf.pred (a1 : Int) (b : Nat) (w : World) (hb : b < w.heap.size) (hc : w.cell? ⟨b, 0, none⟩ = some (.int .i64 a1)) : PredB Try.prog 81 #[.pointer (some ⟨b, 0, none⟩)] enc44 (fun c => c.f0 == a1) w := by
  intro W x hB
  have hc' := (hB.cell (p := ⟨b, 0, none⟩) hb).trans hc
  have hb' : b < W.heap.size := Nat.lt_of_lt_of_le hb hB.size
  unfold enc44
  clear hc hB hb
  go_enter Try.func81, Try.ntmps81
  go_wp2
  go_ret
  exact ⟨rfl, by repeat (first | exact Below.refl _ _ | apply below_alloc | apply pw_below_drewN | apply below_drew1)⟩
set_option maxHeartbeats 8000000 in
set_option maxRecDepth 100000 in
theorem impl_indexOf.calls (A0_0 : Option Addr) (c0_0 : Nat) (l0_0 : List S44) (A0_1 : Option Addr) (c0_1 : Nat) (l0_1 : List S36) (a1 : Int) (r : Int) (w : World) (hr0_0 : Kd.C k44 w A0_0 l0_0.length l0_0) (hc0_0 : l0_0.length ≤ c0_0) (hr0_1 : Kd.C k36 w A0_1 l0_1.length l0_1) (hc0_1 : l0_1.length ≤ c0_1) (h : impl_indexOf.f l0_0 l0_1 a1 = some r) :
    Calls Try.prog 56 #[.agg #[.slice A0_0 l0_0.length c0_0, .slice A0_1 l0_1.length c0_1], .int .i64 a1] w fun e w' => e = .returned (.int .i64 r) ∧ Below w.heap.size w w' := by
  obtain rfl := Option.some.inj h
  clear h
  have HR := Aside0.mk hr0_0
  clear hr0_0 hr0_1
  have eg := enters_of Try.func81 (by kernel_rfl) rfl
  go_enter Try.func56, Try.ntmps56
  go_wp2_with (go_at_call 80; refine (impl_Context_80.calls 81 _ eg _ A0_0 c0_0 l0_0 _ (Kd.C_below HR.out (by repeat (first | exact Below.refl _ _ | apply below_alloc | apply pw_below_drewN | apply below_drew1))) hc0_0 (impl_indexOf.pred a1 (w.heap.size + 1) _ (by simp) (by simp))).mono ?_; rintro e w' ⟨rfl, hb⟩)
  go_ret
  exact ⟨rfl, below_chain (by repeat (first | exact Below.refl _ _ | apply below_alloc | apply pw_below_drewN | apply below_drew1)) hb⟩

end Go.Proofs.Ytlmdmnenljmdgaa.Q
