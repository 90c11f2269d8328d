-- Written by a program of this session (wip/xprint.py over the kit's printer).
import Derived.Test.YtlbkoejpjpcgaaaQ0
import Derived.Test.YtlbkoejpjpcgaaaQF102
import Derived.Test.YtlbkoejpjpcgaaaQF106
import Derived.Test.YtlbkoejpjpcgaaaQF108
import Derived.Test.YtlbkoejpjpcgaaaQF109
import Derived.Test.YtlbkoejpjpcgaaaQP
namespace Go.Proofs.Ytlbkoejpjpcgaaa.Q
open Go.RowKit Go.Proofs.YtlbkoejpjpcgaaaW.PrintWords Go.Proofs.YtlbkoejpjpcgaaaW.PrintLast
set_option linter.unusedVariables false
set_option linter.unusedSimpArgs false

/-! ### impl_isArrangement: function 65 -/
def arrB (rows own : List (List Int)) : Bool := eqFB (fun a b => decide (srt a = b)) rows own
set_option maxHeartbeats 8000000 in
set_option maxRecDepth 100000 in
theorem impl_isArrangement.pred (rows : List (List Int)) (w : World) (hs : ∀ r ∈ rows, r.length ≤ 4000000) : PredEq Try.prog 107 #[] (fun a b => decide (srt a = b)) rows w := by
  intro W a b A c B d hB hm hC hc hD hd
  have HC := Aside0.mk hC
  have HD := Aside0.mk hD
  have HCC := Aside0.mk hc
  have HLA := Aside0.mk (hs a hm)
  have HCL := Aside0.mk (show slices_Clone_int_int.f a = some a from if_pos (by have := HLA.out; omega))
  clear hB hm hC hD hc hd
  have HSR := Aside0.mk (srt_length a)
  show Calls Try.prog 107 #[.slice A a.length c, .slice B b.length d] W _
  by_cases hz : a.length = 0
  · have HPZ := Aside0.mk hz
    have HSN := Aside0.mk (show srt a = a from by rw [List.length_eq_zero_iff.1 hz]; simp [srt])
    clear hz
    go_enter Try.func107, Try.ntmps107
    go_wp2_with (first | (go_at_call 102; (with_reducible refine (slices_Clone_int_int.calls _ _ a a _ (Kd.C_below HC.out (by repeat (first | exact Below.refl _ _ | apply below_alloc | apply pw_below_drewN | apply below_drew1))) HCC.out HCL.out).mono ?_); rintro e w3 ⟨v0, rfl, hR, hb⟩; obtain ⟨D0, d0, rfl⟩ := Kd.R_slice hR; have HB := Aside0.mk (below_chain (w := W) (by repeat (first | exact Below.refl _ _ | apply below_alloc | apply pw_below_drewN | apply below_drew1)) hb); have HR := Aside0.mk (show Kd.R (Kd.int .i64) 3 w3 W.heap.size (fun _ => True) (.slice D0 a.length d0) a from Kd.R_lower hR (by first | exact Nat.le_refl _ | simp)); clear hR hb) | (go_at_call 108; rw [HPZ.out]; (refine (slices_Sort_int_int.nil _ _ _).mono ?_); rintro e w4 ⟨rfl, rfl⟩; have HR := Aside0.mk (show Kd.R (Kd.int .i64) 3 _ W.heap.size (fun _ => True) (.slice D0 (srt a).length d0) (srt a) from by rw [HSN.out]; exact HR.out); rw [← HPZ.out]; rw [← HSR.out]) | (go_at_call 109; (refine (slices_Equal_int_int.calls _ _ (srt a) _ _ b _ (Kd.C_below (Kd.R_reads' HR.out).2.2 (by repeat (first | exact Below.refl _ _ | apply below_alloc | apply pw_below_drewN | apply below_drew1))) (Kd.C_below HD.out (below_chain (w := W) HB.out (by repeat (first | exact Below.refl _ _ | apply below_alloc | apply pw_below_drewN | apply below_drew1)))) (by rw [HSR.out]; exact HLA.out)).mono ?_); rintro e w6 ⟨rfl, hb⟩; have HB := Aside0.mk (below_chain (w := W) (by repeat (first | exact HB.out | exact Below.refl _ _ | apply below_alloc | apply pw_below_drewN | apply below_drew1)) hb); clear hb))
    go_ret
    exact ⟨rfl, HB.out⟩
  · have HPOS := Aside0.mk (show 0 < a.length by omega)
    clear hz
    go_enter Try.func107, Try.ntmps107
    go_wp2_with (first | (go_at_call 102; (with_reducible refine (slices_Clone_int_int.calls _ _ a a _ (Kd.C_below HC.out (by repeat (first | exact Below.refl _ _ | apply below_alloc | apply pw_below_drewN | apply below_drew1))) HCC.out HCL.out).mono ?_); rintro e w3 ⟨v0, rfl, hR, hb⟩; obtain ⟨D0, d0, rfl⟩ := Kd.R_slice hR; have HB := Aside0.mk (below_chain (w := W) (by repeat (first | exact Below.refl _ _ | apply below_alloc | apply pw_below_drewN | apply below_drew1)) hb); have HR := Aside0.mk (show Kd.R (Kd.int .i64) 3 w3 W.heap.size (fun _ => True) (.slice D0 a.length d0) a from Kd.R_lower hR (by first | exact Nat.le_refl _ | simp)); clear hR hb) | (go_at_call 108; (refine (slices_Sort_int_int.calls 3 _ a W.heap.size (fun _ => True) _ HR.out HPOS.out (by have := HLA.out; omega)).mono ?_); rintro e w4 ⟨rfl, hR, hg⟩; have HB := Aside0.mk (below_of_grown (w := W) HB.out hg (fun b hb => Kd.R_base HR.out b hb)); have HR := Aside0.mk (show Kd.R (Kd.int .i64) 3 w4 W.heap.size (fun _ => True) (.slice D0 (srt a).length d0) (srt a) from by rw [HSR.out]; exact hR); clear hR hg; rw [← HSR.out]) | (go_at_call 109; (refine (slices_Equal_int_int.calls _ _ (srt a) _ _ b _ (Kd.C_below (Kd.R_reads' HR.out).2.2 (by repeat (first | exact Below.refl _ _ | apply below_alloc | apply pw_below_drewN | apply below_drew1))) (Kd.C_below HD.out (below_chain (w := W) HB.out (by repeat (first | exact Below.refl _ _ | apply below_alloc | apply pw_below_drewN | apply below_drew1)))) (by rw [HSR.out]; exact HLA.out)).mono ?_); rintro e w6 ⟨rfl, hb⟩; have HB := Aside0.mk (below_chain (w := W) (by repeat (first | exact HB.out | exact Below.refl _ _ | apply below_alloc | apply pw_below_drewN | apply below_drew1)) hb); clear hb))
    go_ret
    exact ⟨rfl, HB.out⟩
set_option maxHeartbeats 8000000 in
set_option maxRecDepth 100000 in
theorem impl_isArrangement.calls (A0 : Option Addr) (c0 : Nat) (l0 : List (List Int)) (A1 : Option Addr) (c1 : Nat) (l1 : List (List Int)) (w : World) (hr0 : Kd.C (Kd.slice 3 (Kd.int .i64)) w A0 l0.length l0) (hr1 : Kd.C (Kd.slice 3 (Kd.int .i64)) w A1 l1.length l1) (hl : l0.length ≤ 4000000) (hs : ∀ r ∈ l0, r.length ≤ 4000000) :
    Calls Try.prog 65 #[.slice A0 l0.length c0, .slice A1 l1.length c1] w fun e w' => e = .returned (.bool (arrB l0 l1)) ∧ Below w.heap.size w w' := by
  have HR0 := Aside0.mk hr0
  have HR1 := Aside0.mk hr1
  have HL := Aside0.mk hl
  have HS := Aside0.mk hs
  clear hr0 hr1 hl hs
  have eg := enters_of Try.func107 (by kernel_rfl) rfl
  go_enter Try.func65, Try.ntmps65
  go_wp2_with (go_at_call 106; (refine (slices_EqualFunc_int_int_int_int.calls 107 #[] eg (fun a b => decide (srt a = b)) A0 c0 l0 A1 c1 l1 _ (Kd.C_below HR0.out (by repeat (first | exact Below.refl _ _ | apply below_alloc | apply pw_below_drewN | apply below_drew1))) (Kd.C_below HR1.out (by repeat (first | exact Below.refl _ _ | apply below_alloc | apply pw_below_drewN | apply below_drew1))) HL.out (impl_isArrangement.pred l0 _ HS.out)).mono ?_); rintro e w3 ⟨rfl, hb⟩; have HB := Aside0.mk (below_chain (w := w) (by repeat (first | exact Below.refl _ _ | apply below_alloc | apply pw_below_drewN | apply below_drew1)) hb); clear hb)
  go_ret
  exact ⟨rfl, HB.out⟩

end Go.Proofs.Ytlbkoejpjpcgaaa.Q
