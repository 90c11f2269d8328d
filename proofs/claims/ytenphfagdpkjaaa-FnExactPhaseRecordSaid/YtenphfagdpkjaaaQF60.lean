-- Written by a program of this session (wip/xprint.py over the kit's printer).
import Derived.Test.YtenphfagdpkjaaaQ0
import Derived.Test.YtenphfagdpkjaaaQF100
import Derived.Test.YtenphfagdpkjaaaQF99
import Derived.Test.YtenphfagdpkjaaaQP
namespace Go.Proofs.Ytenphfagdpkjaaa.Q
open Go.RowKit Go.Proofs.YtenphfagdpkjaaaW.PrintWords Go.Proofs.YtenphfagdpkjaaaW.PrintLast
set_option linter.unusedVariables false
set_option linter.unusedSimpArgs false

/-! ### impl_order_numbersOf: function 60 -/
theorem rd_nums (cs : List S77) (i : Nat) (h : i < cs.length) : rd (nums cs) (i : Int) = (cs.getD i z77).f0 := by
  simp [rd, nums, List.getD_eq_getElem?_getD, h]
/-- What is asked of a predicate on indices that is handed over as a function value. -/
def PredN (P : Program) (g : Nat) (lb : Array Value) (q : Nat → Bool) (n : Nat) (w : World) : Prop :=
  ∀ (W : World) (i : Nat), i < n → Below w.heap.size w W → Calls P g (#[.int .i64 i] ++ lb) W fun e w' => e = .returned (.bool (q i)) ∧ Below W.heap.size W w'
set_option maxHeartbeats 8000000 in
set_option maxRecDepth 100000 in
theorem impl_order_numbersOf.calls (g : Nat) (lb : Array Value) (eg : ∀ args w, (callFunc g args).run Try.prog w = .ok (.enter g args) w) (q : Nat → Bool) (w0 : World) (p N1 N2 : Nat) (A : Option Addr) (c : Nat) (cs : List S77) (M1 M2 : Nat → Nat → Bool) (w : World) (H : OrdIn w0 w p N1 N2 cs.length (.slice A cs.length c) (nums cs) M1 M2) (h10 : cs.length ≤ 1000) (hp : PredN Try.prog g lb q cs.length w) :
    Calls Try.prog 60 #[.pointer (some ⟨p, 0, none⟩), .func (.func g) #[] lb] w fun e w' => ∃ v : Value, e = .returned v ∧ Kd.R (Kd.int .i64) 3 w' w.heap.size (fun _ => True) v (numsTo cs q cs.length) ∧ Below w.heap.size w w' := by
  have HO := Aside0.mk H
  have HP := Aside0.mk hp
  have HC := Aside0.mk (show Kd.C (Kd.int .i64) w A cs.length (nums cs) from by have h := (Kd.R_reads' H.ns).2.2; rw [nums_length] at h; exact h)
  clear H hp
  have g0 := HO.out.c0
  go_enter Try.func60, Try.ntmps60
  go_upto_region 2 with ((with_reducible refine gate_dst (N := 8) rfl ?_); refine Kd.R_lit (Kd.int .i64) _ 3 ?hg (N := 8) ?hd (xs := ([] : List Int)) (inner := []) (ok := fun _ => True) (okp := fun _ => True) ?hr ?hp (fun _ hk => hk) trivial (Below.refl _ _) (Nat.le_refl _) (by simp) ?_; (case hd => rfl); (case hg => rfl); (case hr => first | (go_simp; done) | (go_simp; rfl)); (case hp => exact (Reps.none _ _)); intro v0 w1 ho hb hg_ hnew_; clear hg_ hnew_; have HR := Aside0.mk ho; have HB := Aside0.mk hb; have g0 := pw_cell_below hb g0; clear ho hb)
  go_wp2
  go_loopg [5, 6, 7, 14] cs.length (fun gg s5 _ _ s14 wr => ∃ i : Nat, i ≤ cs.length ∧ cs.length - i ≤ gg ∧ s14 = .int .i64 i ∧ Aside0 (Below w.heap.size w wr) ∧ Aside0 (Kd.R (Kd.int .i64) 3 wr w.heap.size (fun _ => True) s5 (numsTo cs q i)))
  case atStart => exact ⟨0, Nat.zero_le _, by omega, rfl, HB, ⟨by rw [numsTo_zero]; exact HR.out⟩⟩
  case round =>
    clear HR HB g0
    obtain ⟨i, hi, hgg, rfl, HB, HR⟩ := hrel
    by_cases hlt : i < cs.length
    · have hltz : (i : Int) < (cs.length : Int) := by omega
      obtain ⟨ad, e1, hx⟩ := Kd.at_int HC.out (i : Int) (by omega) hltz
      cases e1
      rw [rd_nums cs i hlt, Int.toNat_natCast] at hx
      obtain ⟨y, hy⟩ : ∃ y, (cs.getD i z77).f0 = y := ⟨_, rfl⟩
      rw [hy] at hx
      have HS := numsTo_succ cs q i
      rw [hy] at HS
      clear hy
      replace hx := (HB.out.cell (World.block_lt_of_cell? w _ hx)).trans hx
      have hcall := fun (W : World) (hW : Below w.heap.size w W) => HP.out W i hlt hW
      cases hq : q i with
      | true =>
        rw [hq] at hcall HS
        rw [if_pos rfl] at HS
        have HCL := Aside0.mk hcall
        have HSA := Aside0.mk HS
        clear hq hcall HS
        go_wp2_with (first | (go_at_fn g; refine (HCL.out _ ?hw).mono ?_; (case hw => repeat (first | exact HB.out | apply below_alloc | apply pw_below_drewN | apply below_drew1)); rintro e w' ⟨rfl, hb⟩; have HB := Aside0.mk (below_chain (w := w) (by repeat (first | exact HB.out | apply below_alloc | apply pw_below_drewN | apply below_drew1)) hb); have HR := Aside0.mk (Kd.R_below HR.out hb); have hx := pw_cell_below hb hx; clear hb) | ((with_reducible refine gate_builtin (b := .append) (xs := #[.tmp 22, .tmp 24]) rfl ?_); at_builtin; refine Kd.R_append (Kd.int .i64) (w0 := w) w.heap.size rfl (.tmp 22) (.tmp 24) 45 3 (.int .i64 0) 8 rfl Try.underlying45 info3 rfl (by decide) (by omega) u5 (numsTo cs q i) y [.int .i64 y] (fun _ => True) (fun _ => False) rfl rfl rfl (fun _ hk => hk.elim) (fun _ _ => trivial) ?aO ?aB ?aS ?aL ?_; (case aO => exact (by (with_reducible repeat (first | apply Kd.R_alloc | apply Kd.R_drewN | apply Kd.R_drew)); exact HR.out)); (case aB => exact (by repeat (first | exact HB.out | apply below_alloc | apply pw_below_drewN | apply below_drew1))); (case aS => exact below_size (by repeat (first | exact HB.out | apply below_alloc | apply pw_below_drewN | apply below_drew1))); (case aL => have h1 := numsTo_le cs q i; omega); intro v1 w1 ho hb hg hat; have HB := Aside0.mk hb; have HR := Aside0.mk (show Kd.R (Kd.int .i64) 3 w1 w.heap.size (fun _ => True) v1 (numsTo cs q (i + 1)) from by rw [HSA.out]; exact ho); clear hx ho hb hg hat))
        go_roundg (cs.length - (i + 1))
        case measure => omega
        case rel => exact ⟨i + 1, by omega, by omega, by first | go_num | exact congrArg (Value.int .i64) (wrap_succ i (by omega)), HB, HR⟩
      | false =>
        rw [hq] at hcall HS
        rw [if_neg (by simp)] at HS
        have HCL := Aside0.mk hcall
        have HSA := Aside0.mk HS
        clear hq hcall HS
        go_wp2_with (go_at_fn g; refine (HCL.out _ ?hw).mono ?_; (case hw => repeat (first | exact HB.out | apply below_alloc | apply pw_below_drewN | apply below_drew1)); rintro e w' ⟨rfl, hb⟩; have HB := Aside0.mk (below_chain (w := w) (by repeat (first | exact HB.out | apply below_alloc | apply pw_below_drewN | apply below_drew1)) hb); have HR := Aside0.mk (Kd.R_below HR.out hb); have hx := pw_cell_below hb hx; clear hb)
        have HR := Aside0.mk (show Kd.R (Kd.int .i64) 3 w' w.heap.size (fun _ => True) u5 (numsTo cs q (i + 1)) from by rw [HSA.out]; exact HR.out)
        go_roundg (cs.length - (i + 1))
        case measure => omega
        case rel => exact ⟨i + 1, by omega, by omega, by first | go_num | exact congrArg (Value.int .i64) (wrap_succ i (by omega)), HB, HR⟩
    · obtain rfl : i = cs.length := by omega
      have hltz : ¬ ((cs.length : Int) < (cs.length : Int)) := by omega
      go_wp2
      go_ret
      exact ⟨_, rfl, HR.out, HB.out⟩

end Go.Proofs.Ytenphfagdpkjaaa.Q
