-- Written by a program of this session (wip/xprint.py over the kit's printer).
import Derived.Test.YtenphfagdpkjaaaQ0
import Derived.Test.YtenphfagdpkjaaaQP
namespace Go.Proofs.Ytenphfagdpkjaaa.Q
open Go.RowKit Go.Proofs.YtenphfagdpkjaaaW.PrintWords Go.Proofs.YtenphfagdpkjaaaW.PrintLast
set_option linter.unusedVariables false
set_option linter.unusedSimpArgs false

/-! ### impl_Phase_88: function 88 -/
/-- What is asked of a predicate on phases that is handed over as a function value. -/
def PredP (P : Program) (g : Nat) (lb : Array Value) (p : S64 → Bool) (w : World) : Prop :=
  ∀ (W : World) (x : S64) (A1 : Option Addr) (c1 : Nat), Below w.heap.size w W → x.f1.length ≤ c1 → Kd.C (Kd.int .i64) W A1 x.f1.length x.f1 → Calls P g (#[.agg #[.string x.f0, .slice A1 x.f1.length c1]] ++ lb) W fun e w' => e = .returned (.bool (p x)) ∧ Below W.heap.size W w'
set_option maxHeartbeats 8000000 in
set_option maxRecDepth 100000 in
theorem impl_Phase_88.calls (g : Nat) (lb : Array Value) (eg : ∀ args w, (callFunc g args).run Try.prog w = .ok (.enter g args) w) (p : S64 → Bool) (A0 : Option Addr) (c0 : Nat) (n : Nat) (l0 : List S64) (w : World) (hn : n = l0.length) (hr0 : Kd.C k64 w A0 n l0) (hc0 : n ≤ c0)
    (hp : PredP Try.prog g lb p w) :
    Calls Try.prog 88 #[.slice A0 n c0, .func (.func g) #[] lb] w fun e w' => e = .returned (.int .i64 (idxI p l0)) ∧ Below w.heap.size w w' := by
  have hl : n ≤ 9223372036854775807 := by rw [hn] at hr0 ⊢; exact hr0.2.1
  have HR0 := Aside0.mk hr0
  have HP := Aside0.mk hp
  have HN := Aside0.mk hn
  clear hr0 hp hn
  go_enter Try.func88, Try.ntmps88
  go_wp2
  go_loopg [5, 8] n (fun gg _ s8 wr => ∃ kk : Nat, kk ≤ n ∧ n - kk ≤ gg ∧ s8 = .int .i64 kk ∧ Aside0 (Below w.heap.size w wr) ∧ Aside0 (∀ j, j < kk → p (l0.getD j z64) = false))
  case atStart => exact ⟨0, Nat.zero_le _, by omega, rfl, ⟨by repeat (first | exact Below.refl _ _ | apply below_alloc | apply pw_below_drewN | apply below_drew1)⟩, ⟨fun j hj => absurd hj (Nat.not_lt_zero _)⟩⟩
  case round =>
    obtain ⟨kk, hkk, hg, rfl, HB, HA⟩ := hrel
    by_cases hlt : kk < n
    · have hltz : (kk : Int) < (n : Int) := by omega
      obtain ⟨ad, A1, c1, e1, hx0, hx1, hl1, hC1⟩ := at_T64 HR0.out (kk : Int) (by omega) hltz
      cases e1
      replace hx0 := lc_ HB.out hx0
      replace hx1 := lc_ HB.out hx1
      have hcall := HP.out wr (l0.getD kk z64) A1 c1 HB.out
      have e2 : rd_T64 l0 (kk : Int) = l0.getD kk z64 := by simp [rd_T64]
      rw [e2] at hx0 hx1 hl1 hC1
      clear e2
      simp only [Int.toNat_natCast] at hx0 hx1
      generalize hy : l0.getD kk z64 = y at hx0 hx1 hl1 hC1 hcall
      replace hcall := hcall hl1 (Kd.C_below hC1 HB.out)
      have HY := Aside0.mk hy
      clear hy hC1 hl1
      cases hq : p y with
      | true =>
        rw [hq] at hcall
        have HQ := Aside0.mk hq
        have HCL := Aside0.mk hcall
        clear hq hcall
        go_wp2_with (go_at_fn g; refine HCL.out.mono ?_; rintro e w' ⟨rfl, hb'⟩)
        go_ret
        refine ⟨?_, below_chain HB.out hb'⟩
        rw [idxI_hit p z64 l0 kk (by rw [← HN.out]; exact hlt) (by rw [HY.out]; exact HQ.out) HA.out]
        rfl
      | false =>
        rw [hq] at hcall
        have HQ := Aside0.mk hq
        have HCL := Aside0.mk hcall
        clear hq hcall
        go_wp2_with (go_at_fn g; refine HCL.out.mono ?_; rintro e w' ⟨rfl, hb'⟩)
        go_roundg (n - (kk + 1))
        case measure => omega
        case rel =>
          refine ⟨kk + 1, by omega, by omega, by first | go_num | exact congrArg (Value.int .i64) (by unfold wrap64; omega), ⟨below_chain HB.out hb'⟩, ⟨fun j hj => ?_⟩⟩
          by_cases e : j = kk
          · subst e
            rw [HY.out]; exact HQ.out
          · exact HA.out j (by omega)
    · have hltz : ¬ (kk : Int) < (n : Int) := by omega
      obtain rfl : kk = n := by omega
      go_wp2
      go_ret
      refine ⟨?_, HB.out⟩
      rw [idxI_miss p z64 l0 (by rw [← HN.out]; exact HA.out)]
      rfl

end Go.Proofs.Ytenphfagdpkjaaa.Q
