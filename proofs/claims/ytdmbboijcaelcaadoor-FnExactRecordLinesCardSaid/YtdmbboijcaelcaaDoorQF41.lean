-- Written by a program of this session (wip/xprint.py over the kit's printer).
import Derived.Test.YtdmbboijcaelcaaDoorQ0
import Derived.Test.YtdmbboijcaelcaaDoorQF38
import Derived.Test.YtdmbboijcaelcaaDoorQF79
import Derived.Test.YtdmbboijcaelcaaDoorQF83
import Derived.Test.YtdmbboijcaelcaaDoorQF86
import Derived.Test.YtdmbboijcaelcaaDoorQF88
import Derived.Test.YtdmbboijcaelcaaDoorQP
namespace Go.Proofs.YtdmbboijcaelcaaDoor.Q
open Go.RowKit Go.Proofs.YtdmbboijcaelcaaDoorW.PrintWords Go.Proofs.YtdmbboijcaelcaaDoorW.PrintLast
set_option linter.unusedVariables false
set_option linter.unusedSimpArgs false

/-! ### impl_RecordLines: function 41 -/
def inK (n : Int) : List Int → Bool := fun ns => ns.contains n
/-- What the program lists. -/
def linesI (cs : List S94) (rs : List S96) (n : Int) : List ByteArray × Bool := if (goodB cs rs && decide (0 ≤ find cs n)) = true then (keepR (inK n) cs rs, true) else ([], false)
set_option maxHeartbeats 2000000 in
set_option maxRecDepth 100000 in
theorem impl_RecordLines.keep (n : Int) (bn : Nat) (w : World) (hn : w.cell? ⟨bn, 0, none⟩ = some (.int .i64 n)) (p : List Int → Bool) (hp : p = inK n) : PredK Tryd.prog 87 #[.pointer (some ⟨bn, 0, none⟩)] p w := by
  subst hp
  intro W A c ns hB hC hc
  show Calls Tryd.prog 87 #[.slice A ns.length c, .pointer (some ⟨bn, 0, none⟩)] W (fun e w' => e = .returned (.bool (ns.contains n)) ∧ Below W.heap.size W w')
  have hn2 := pw_cell_below hB hn
  have HC := Aside0.mk hC
  obtain ⟨b, hb⟩ : ∃ b, ns.contains n = b := ⟨_, rfl⟩
  have HCC := Aside0.mk (fun (W2 : World) (h : Kd.C (Kd.int .i64) W2 A ns.length ns) => show Calls Tryd.prog 88 #[.slice A ns.length c, .int .i64 n] W2 (fun e w' => e = .returned (.bool b) ∧ Below W2.heap.size W2 w') from by have h2 := slices_Contains_int_int.calls A c ns n W2 h hc; rw [hb] at h2; exact h2)
  rw [hb]
  clear hC hn hB hb
  go_enter Tryd.func87, Tryd.ntmps87
  go_wp2_with (go_at_call 88; refine (HCC.out _ (Kd.C_below HC.out (by repeat (first | exact Below.refl _ _ | apply below_alloc | apply pw_below_drewN | apply below_drew1)))).mono ?_; rintro e w1 ⟨rfl, hb1⟩; have HB := Aside0.mk (below_chain (w := W) (by repeat (first | exact Below.refl _ _ | apply below_alloc | apply pw_below_drewN | apply below_drew1)) hb1); clear hb1)
  go_ret
  exact ⟨rfl, by repeat (first | exact HB.out | exact Below.refl _ _ | apply below_alloc | apply pw_below_drewN | apply below_drew1)⟩
set_option maxHeartbeats 4000000 in
set_option maxRecDepth 100000 in
theorem impl_RecordLines.calls (A0_0 : Option Addr) (c0_0 : Nat) (l0_0 : List S94) (A0_1 : Option Addr) (c0_1 : Nat) (l0_1 : List S96) (n : Int) (w : World) (hr0_0 : Kd.C k94 w A0_0 l0_0.length l0_0) (hc0_0 : l0_0.length ≤ c0_0) (hr0_1 : Kd.C k96 w A0_1 l0_1.length l0_1) (hc0_1 : l0_1.length ≤ c0_1) (hl : LW w) :
    Calls Tryd.prog 41 #[.agg #[.slice A0_0 l0_0.length c0_0, .slice A0_1 l0_1.length c0_1], .int .i64 n] w fun e w' => ∃ v, e = .returned (.tuple #[v, .bool (linesI l0_0 l0_1 n).2]) ∧ Kd.R Kd.string 9 w' w.heap.size (fun _ => True) v (linesI l0_0 l0_1 n).1 ∧ Below w.heap.size w w' := by
  have HL := Aside0.mk hl
  have HR0 := Aside0.mk hr0_0
  have HR1 := Aside0.mk hr0_1
  have HC0 := Aside0.mk hc0_0
  have HC1 := Aside0.mk hc0_1
  have HB := Aside0.mk (Below.refl w.heap.size w)
  clear hl hr0_0 hr0_1 hc0_0 hc0_1
  obtain ⟨b, hb⟩ : ∃ b, (goodB l0_0 l0_1 && decide (0 ≤ find l0_0 n)) = b := ⟨_, rfl⟩
  have AV := Aside0.mk (show impl_hasContext.f l0_0 l0_1 n = some b from (hasContext_eq l0_0 l0_1 n).trans (congrArg some hb))
  have eg : ∀ args w, (callFunc 87 args).run Tryd.prog w = .ok (.enter 87 args) w := enters_of Tryd.func87 (by kernel_rfl) rfl
  cases b with
  | false =>
    have HV := Aside0.mk (show linesI l0_0 l0_1 n = ([], false) from if_neg (by rw [hb]; simp))
    clear hb
    go_enter Tryd.func41, Tryd.ntmps41
    go_wp2_with (go_at_call 86; (refine (impl_hasContext.calls _ _ l0_0 _ _ l0_1 n _ _ (Kd.C_below HR0.out (by repeat (first | exact HB.out | apply below_alloc | apply pw_below_drewN | apply below_drew1))) HC0.out (Kd.C_below HR1.out (by repeat (first | exact HB.out | apply below_alloc | apply pw_below_drewN | apply below_drew1))) HC1.out AV.out).mono ?_); rintro e w1 ⟨rfl, hb⟩; have HB := Aside0.mk (below_chain (w := w) (by repeat (first | exact HB.out | apply below_alloc | apply pw_below_drewN | apply below_drew1)) hb); clear hb)
    go_ret2
    exact ⟨_, by rw [HV.out]; rfl, by rw [HV.out]; exact Kd.R_nil _ _ _ _ _, by repeat (first | exact HB.out | apply below_alloc | apply pw_below_drewN | apply below_drew1)⟩
  | true =>
    have HV := Aside0.mk (show linesI l0_0 l0_1 n = (keepR (inK n) l0_0 l0_1, true) from if_pos hb)
    have hb2 := hb
    rw [Bool.and_eq_true] at hb2
    have HG := Aside0.mk (good_bounds hb2.1)
    clear hb hb2
    obtain ⟨p, hp⟩ : ∃ p, p = inK n := ⟨_, rfl⟩
    have HPE := Aside0.mk hp
    rw [← hp] at HV
    clear hp
    have BX := heap_alloc_new w (.cells #[.slice A0_0 l0_0.length c0_0, .slice A0_1 l0_1.length c0_1] 52 (0, 0))
    have hsz : (w.alloc (.cells #[.slice A0_0 l0_0.length c0_0, .slice A0_1 l0_1.length c0_1] 52 (0, 0))).heap.size = w.heap.size + 1 := by simp
    have BN := heap_alloc_new (w.alloc (.cells #[.slice A0_0 l0_0.length c0_0, .slice A0_1 l0_1.length c0_1] 52 (0, 0))) (.cells #[.int .i64 n] 3 (0, 0))
    rw [hsz] at BN
    have hal := below_alloc (Below.refl (w.alloc (.cells #[.slice A0_0 l0_0.length c0_0, .slice A0_1 l0_1.length c0_1] 52 (0, 0))).heap.size (w.alloc (.cells #[.slice A0_0 l0_0.length c0_0, .slice A0_1 l0_1.length c0_1] 52 (0, 0)))) (.cells #[.int .i64 n] 3 (0, 0))
    have BX2 := blk_below BX hal
    have x0 := (blk_cell BX2 0).trans rfl
    have x1 := (blk_cell BX2 1).trans rfl
    have n0 := (blk_cell BN 0).trans rfl
    have HB := Aside0.mk (below_alloc (below_alloc (Below.refl w.heap.size w) (.cells #[.slice A0_0 l0_0.length c0_0, .slice A0_1 l0_1.length c0_1] 52 (0, 0))) (.cells #[.int .i64 n] 3 (0, 0)))
    have HRL := Aside0.mk (fun (W : World) (hB : Below w.heap.size w W) (hn : W.cell? ⟨w.heap.size + 1, 0, none⟩ = some (.int .i64 n)) => impl_recordLines.calls 87 #[.pointer (some ⟨w.heap.size + 1, 0, none⟩)] eg p A0_0 c0_0 l0_0 A0_1 c0_1 l0_1 W (Kd.C_below HR0.out hB) HC0.out (Kd.C_below HR1.out hB) HC1.out (by have := HG.out.1; omega) (by have := HG.out.2.1; omega) (fun x hx => okC_of (HG.out.2.2.1 x hx)) (fun x hx => okR_of (HG.out.2.2.2 x hx)) (impl_RecordLines.keep n (w.heap.size + 1) W hn p HPE.out) (LW.below HL.out hB))
    clear BX BN BX2 hal hsz
    go_enter Tryd.func41, Tryd.ntmps41
    go_upto_region 1 with (fail)
    generalize (w.alloc (.cells #[.slice A0_0 l0_0.length c0_0, .slice A0_1 l0_1.length c0_1] 52 (0, 0))).alloc (.cells #[.int .i64 n] 3 (0, 0)) = wq at x0 x1 n0 HB ⊢
    go_wp2_with (first | (go_at_call 86; (refine (impl_hasContext.calls _ _ l0_0 _ _ l0_1 n _ _ (Kd.C_below HR0.out (by repeat (first | exact HB.out | apply below_alloc | apply pw_below_drewN | apply below_drew1))) HC0.out (Kd.C_below HR1.out (by repeat (first | exact HB.out | apply below_alloc | apply pw_below_drewN | apply below_drew1))) HC1.out AV.out).mono ?_); rintro e w1 ⟨rfl, hb⟩; have x0 := pw_cell_below hb x0; have x1 := pw_cell_below hb x1; have n0 := pw_cell_below hb n0; have HB := Aside0.mk (below_chain (w := w) (by repeat (first | exact HB.out | apply below_alloc | apply pw_below_drewN | apply below_drew1)) hb); clear hb) | (go_at_call 79; refine (HRL.out _ (by repeat (first | exact HB.out | apply below_alloc | apply pw_below_drewN | apply below_drew1)) n0).mono ?_; rintro e w2 ⟨v, rfl, hR, hb⟩; have HR := Aside0.mk (Kd.R_lower hR (below_size (by repeat (first | exact HB.out | apply below_alloc | apply pw_below_drewN | apply below_drew1)))); have x0 := pw_cell_below hb x0; have x1 := pw_cell_below hb x1; have n0 := pw_cell_below hb n0; have HB := Aside0.mk (below_chain (w := w) (by repeat (first | exact HB.out | apply below_alloc | apply pw_below_drewN | apply below_drew1)) hb); clear hb hR))
    go_ret2
    exact ⟨_, by rw [HV.out]; rfl, by rw [HV.out]; exact Kd.R_below HR.out (by repeat (first | exact Below.refl _ _ | apply below_alloc | apply pw_below_drewN | apply below_drew1)), (by repeat (first | exact HB.out | apply below_alloc | apply pw_below_drewN | apply below_drew1))⟩

end Go.Proofs.YtdmbboijcaelcaaDoor.Q
