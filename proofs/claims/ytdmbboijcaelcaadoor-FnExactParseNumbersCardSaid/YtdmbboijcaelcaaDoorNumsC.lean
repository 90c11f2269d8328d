/- The walk of FormatNumbers. -/
import Derived.Test.YtdmbboijcaelcaaDoorNumsB
namespace Go.Proofs.YtdmbboijcaelcaaDoor.Q
open Go.RowKit Go.Proofs.YtdmbboijcaelcaaDoorW.PrintWords Go.Proofs.YtdmbboijcaelcaaDoorW.PrintLast
set_option linter.unusedVariables false
set_option linter.unusedSimpArgs false
def numsI (l : List Int) : ByteArray × Bool := if 40 < l.length then (⟨#[]⟩, false) else if l.any (fun n => !okNum n) then (⟨#[]⟩, false) else if l.length = 0 then (⟨#[110, 111, 110, 101]⟩, true) else (joinN l ⟨#[44, 32]⟩, true)
set_option maxHeartbeats 8000000 in
set_option maxRecDepth 100000 in
theorem fmtNumbers_calls (l : List Int) (A0 : Option Addr) (c0 : Nat) (w : World) (hr0 : Kd.C (Kd.int .i64) w A0 l.length l) (hc0 : l.length ≤ c0)
    (hj : 40 ≥ l.length → (∀ n ∈ l, okNum n = true) → (Lib.join (l.map Lib.itoa) [44, 32]).length ≤ 140737488355328) (hlw : LW w) :
    Calls Tryd.prog 25 #[.slice A0 l.length c0] w fun e w' => e = .returned (.tuple #[.string (numsI l).1, .bool (numsI l).2]) ∧ Below w.heap.size w w' := by
  have HR0 := Aside0.mk hr0
  have HL := Aside0.mk hlw
  have HJ := Aside0.mk hj
  have eg : ∀ args w, (callFunc 65 args).run Tryd.prog w = .ok (.enter 65 args) w := enters_of Tryd.func65 (by kernel_rfl) rfl
  clear hr0 hlw hj
  by_cases h1 : 40 < l.length
  · have HF := Aside0.mk (show numsI l = (⟨#[]⟩, false) from if_pos h1)
    have hz : decide (40 < (l.length : Int)) = true := decide_eq_true (by omega)
    have hy : decide (40 < l.length) = true := decide_eq_true h1
    go_enter Tryd.func25, Tryd.ntmps25
    go_wp2
    go_ret2
    exact ⟨by rw [HF.out]; rfl, by repeat (first | exact Below.refl _ _ | apply below_alloc | apply pw_below_drewN | apply below_drew1)⟩
  · have hz : decide (40 < (l.length : Int)) = false := decide_eq_false (by omega)
    have hy : decide (40 < l.length) = false := decide_eq_false h1
    obtain ⟨b, hb⟩ : ∃ b, l.any (fun n => !okNum n) = b := ⟨_, rfl⟩
    have HC := Aside0.mk (fun (W : World) (hW : Below w.heap.size w W) => by
      have h := containsfunc_calls 65 #[] eg (fun n => !okNum n) A0 c0 l W (Kd.C_below HR0.out hW) hc0 (fun W2 x _ => notnum_calls x W2)
      rw [hb] at h
      exact h)
    cases b with
    | true =>
      have HF := Aside0.mk (show numsI l = (⟨#[]⟩, false) from by unfold numsI; rw [if_neg h1, hb, if_pos rfl])
      clear hb
      go_enter Tryd.func25, Tryd.ntmps25
      go_wp2_with (go_at_call 64; refine (HC.out _ (by repeat (first | exact Below.refl _ _ | apply below_alloc | apply pw_below_drewN | apply below_drew1))).mono ?_; rintro e w1 ⟨rfl, hb1⟩; have HB := Aside0.mk (below_chain (w := w) (by repeat (first | exact Below.refl _ _ | apply below_alloc | apply pw_below_drewN | apply below_drew1)) hb1); clear hb1)
      go_ret2
      exact ⟨by rw [HF.out]; rfl, by repeat (first | exact HB.out | exact Below.refl _ _ | apply below_alloc | apply pw_below_drewN | apply below_drew1)⟩
    | false =>
      have hall : ∀ n ∈ l, okNum n = true := fun n hn => by
        have := List.any_eq_false.1 hb n hn
        simpa using this
      by_cases h0 : l.length = 0
      · have HF := Aside0.mk (show numsI l = (⟨#[110, 111, 110, 101]⟩, true) from by unfold numsI; rw [if_neg h1, hb, if_neg (by simp), if_pos h0])
        have hq : ((l.length : Int) == 0) = true := by simp [h0]
        clear hb h0
        go_enter Tryd.func25, Tryd.ntmps25
        go_wp2_with (go_at_call 64; refine (HC.out _ (by repeat (first | exact Below.refl _ _ | apply below_alloc | apply pw_below_drewN | apply below_drew1))).mono ?_; rintro e w1 ⟨rfl, hb1⟩; have HB := Aside0.mk (below_chain (w := w) (by repeat (first | exact Below.refl _ _ | apply below_alloc | apply pw_below_drewN | apply below_drew1)) hb1); clear hb1)
        go_ret2
        exact ⟨by rw [HF.out]; rfl, by repeat (first | exact HB.out | exact Below.refl _ _ | apply below_alloc | apply pw_below_drewN | apply below_drew1)⟩
      · have HF := Aside0.mk (show numsI l = (joinN l ⟨#[44, 32]⟩, true) from by unfold numsI; rw [if_neg h1, hb, if_neg (by simp), if_neg h0])
        have hq : ((l.length : Int) == 0) = false := beq_eq_false_iff_ne.2 (by omega)
        have HG := Aside0.mk (fun (W : World) (hW : Below w.heap.size w W) => joinInts_calls l A0 c0 ⟨#[44, 32]⟩ W (Kd.C_below HR0.out hW) hc0 (by omega) (fun n hn => by have h := hall n hn; unfold okNum at h; simp at h; omega) (HJ.out (by omega) hall) (LW.below HL.out hW))
        clear hb
        go_enter Tryd.func25, Tryd.ntmps25
        go_wp2_with (first | (go_at_call 64; refine (HC.out _ (by repeat (first | exact Below.refl _ _ | apply below_alloc | apply pw_below_drewN | apply below_drew1))).mono ?_; rintro e w1 ⟨rfl, hb1⟩; have HB := Aside0.mk (below_chain (w := w) (by repeat (first | exact Below.refl _ _ | apply below_alloc | apply pw_below_drewN | apply below_drew1)) hb1); clear hb1) | (go_at_call 66; refine (HG.out _ (by repeat (first | exact HB.out | exact Below.refl _ _ | apply below_alloc | apply pw_below_drewN | apply below_drew1))).mono ?_; rintro e w2 ⟨rfl, hb1⟩; have HB := Aside0.mk (below_chain (w := w) (by repeat (first | exact HB.out | exact Below.refl _ _ | apply below_alloc | apply pw_below_drewN | apply below_drew1)) hb1); clear hb1))
        go_ret2
        exact ⟨by rw [HF.out]; rfl, by repeat (first | exact HB.out | exact Below.refl _ _ | apply below_alloc | apply pw_below_drewN | apply below_drew1)⟩
end Go.Proofs.YtdmbboijcaelcaaDoor.Q
