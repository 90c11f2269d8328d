-- Written by a program of this session (wip/xprint.py over the kit's printer).
import Derived.Test.YtojdchmkhhpmiaaQ0
import Derived.Test.YtojdchmkhhpmiaaQ5
import Derived.Test.YtojdchmkhhpmiaaQ7
import Derived.Test.YtojdchmkhhpmiaaQ8
namespace Go.Proofs.Ytojdchmkhhpmiaa.Q
open Go.RowKit Go.Proofs.YtojdchmkhhpmiaaW.PrintWords Go.Proofs.YtojdchmkhhpmiaaW.PrintLast Go.Proofs.YtojdchmkhhpmiaaW.PrintMore
attribute [local go_sem] max2_int min2_int max_two min_two max_three min_three max_four min_four   -- for this text's walks alone
set_option linter.unusedVariables false
set_option linter.unusedSimpArgs false

/-! ### impl_hasContext: function 63 -/
def impl_hasContext.f (l0_0 : List (S59)) (l0_1 : List (S53)) (a1 : Int) : Option (Bool) := (impl_IsValidRecord.f l0_0 l0_1).bind fun t188 => (if t188 = true then ((impl_indexOf.f l0_0 l0_1 a1).bind fun t189 => (some (decide (t189 ≥ 0)))) else (some false))
set_option maxHeartbeats 8000000 in
set_option maxRecDepth 100000 in
theorem impl_hasContext.calls (A0_0 : Option Addr) (c0_0 : Nat) (l0_0 : List (S59)) (A0_1 : Option Addr) (c0_1 : Nat) (l0_1 : List (S53)) (a1 : Int) (r : Bool) (w : World) (hr0_0 : Kd.C k59 w A0_0 l0_0.length l0_0) (hc0_0 : l0_0.length ≤ c0_0) (hr0_1 : Kd.C k53 w A0_1 l0_1.length l0_1) (hc0_1 : l0_1.length ≤ c0_1) (h : impl_hasContext.f l0_0 l0_1 a1 = some r) :
  Calls Try.prog 63 #[.agg #[.slice A0_0 l0_0.length c0_0, .slice A0_1 l0_1.length c0_1], .int .i64 a1] w fun e w' => e = .returned (.bool r) ∧ Below w.heap.size w w' := by
 have hu31 := Try.underlying31
 have HR0_0 := Aside0.mk hr0_0
 have HC0_0 := Aside0.mk hc0_0
 clear hr0_0 hc0_0
 have HR0_1 := Aside0.mk hr0_1
 have HC0_1 := Aside0.mk hc0_1
 clear hr0_1 hc0_1
 have HB := Aside0.mk (Below.refl w.heap.size w)
 have H : ((impl_IsValidRecord.f l0_0 l0_1).bind fun t188 => (if t188 = true then ((impl_indexOf.f l0_0 l0_1 a1).bind fun t189 => (some (decide (t189 ≥ 0)))) else (some false))) = some r := h
 clear h
 replace H := Option.bind_eq_some_iff.mp H
 obtain ⟨t188, A30, H⟩ := H
 replace H : (if t188 = true then ((impl_indexOf.f l0_0 l0_1 a1).bind fun t189 => (some (decide (t189 ≥ 0)))) else (some false)) = some r := H
 have A3 := Aside0.mk A30
 clear A30
 by_cases c4 : t188 = true
 ·subst c4
  have H1 : ((impl_indexOf.f l0_0 l0_1 a1).bind fun t189 => (some (decide (t189 ≥ 0)))) = some r := by rw [if_pos rfl] at H; exact H
  clear H
  have H := H1
  clear H1
  replace H := Option.bind_eq_some_iff.mp H
  obtain ⟨t189, A50, H⟩ := H
  replace H : (some (decide (t189 ≥ 0))) = some r := H
  have A5 := Aside0.mk A50
  clear A50
  obtain rfl := Option.some.inj H
  go_enter Try.func63, Try.ntmps63
  go_wp2_with (first | ((with_reducible refine gate_dst (N := 2) rfl ?_); refine box_event ?hg (N := 2) ?hd (cs := #[.slice A0_0 l0_0.length c0_0, .slice A0_1 l0_1.length c0_1]) (t := 31) ?hr ?_; (case hd => rfl); (case hg => rfl); (case hr => first | (go_simp; done) | (go_simp; rfl)); intro gb187 hg w6 hbox hb; have n0_ := Aside0.mk (below_step (by repeat (first | (with_reducible first | exact HB.out | apply below_alloc | apply pw_below_drewN | apply below_drew1) | exact HB.out)) hb); have n1_ := Aside0.mk (hbox); have n2_ := Aside0.mk ((by rw [hg]; exact (below_size (by repeat (first | (with_reducible first | exact HB.out | apply below_alloc | apply pw_below_drewN | apply below_drew1) | exact HB.out))) : w.heap.size ≤ gb187)); have n3_ := Aside0.mk ((by rw [hg]; exact (below_size (by repeat (first | (with_reducible first | exact HB.out | apply below_alloc | apply pw_below_drewN | apply below_drew1) | exact HB.out))) : w.heap.size ≤ gb187)); clear HB; have HB := n0_; have BK187 := n1_; have GW187 := n2_; have GE187 := n3_; clear n0_ n1_ n2_ n3_; clear hb hbox hg; have hcz7_0 : w6.cell? ⟨gb187, 0, none⟩ = some (.slice A0_0 l0_0.length c0_0) := (blk_cell BK187.out 0).trans rfl; have hcz7_1 : w6.cell? ⟨gb187, 1, none⟩ = some (.slice A0_1 l0_1.length c0_1) := (blk_cell BK187.out 1).trans rfl; have hfz7_0 := blk_frozen BK187.out 0; have hfz7_1 := blk_frozen BK187.out 1) | ((with_reducible refine gate_callee (f := 18) rfl ?_); refine goesL_ (some 6) rfl rfl Try.func18 (by kernel_rfl) rfl #[.agg #[.slice A0_0 l0_0.length c0_0, .slice A0_1 l0_1.length c0_1]] rfl (by (try simp only [List.map_toArray, List.map_cons, List.map_nil]); first | done | rfl | (simp only [List.length_drop, List.length_take]; rfl)) ?_; (with_reducible refine (impl_IsValidRecord.calls _ _ l0_0 _ _ l0_1 true _ ?side1 ?side2 ?side3 ?side4 A3.out).mono ?_); (case side1 => repeat (first | exact (Kd.C_below HR0_0.out HB.out) | (with_reducible refine Kd.C_alloc ?_ _) | (with_reducible refine Kd.C_drewN ?_ _) | (with_reducible refine Kd.C_drew ?_))); (case side2 => exact HC0_0.out); (case side3 => repeat (first | exact (Kd.C_below HR0_1.out HB.out) | (with_reducible refine Kd.C_alloc ?_ _) | (with_reducible refine Kd.C_drewN ?_ _) | (with_reducible refine Kd.C_drew ?_))); (case side4 => exact HC0_1.out); rintro e w8 ⟨rfl, hb⟩; refine ⟨_, rfl, ?_⟩; have n0_ := Aside0.mk (blk_below (g := gb187) (o := .cells #[.slice A0_0 l0_0.length c0_0, .slice A0_1 l0_1.length c0_1] 31 (0, 0)) (by (with_reducible repeat (first | refine blk_drewN ?_ _ | refine blk_drew ?_ | refine blk_alloc ?_ _)); exact BK187.out) hb); have n1_ := Aside0.mk (below_step (by repeat (first | (with_reducible first | exact HB.out | apply below_alloc | apply pw_below_drewN | apply below_drew1 | refine below_set ?_ GE187.out) | exact HB.out)) hb); clear BK187; clear HB; have BK187 := n0_; have HB := n1_; clear n0_ n1_; (try clear hb); (try clear hb2); (try clear hk); (try clear hi); have hcz9_0 : w8.cell? ⟨gb187, 0, none⟩ = some (.slice A0_0 l0_0.length c0_0) := (blk_cell BK187.out 0).trans rfl; have hcz9_1 : w8.cell? ⟨gb187, 1, none⟩ = some (.slice A0_1 l0_1.length c0_1) := (blk_cell BK187.out 1).trans rfl; have hfz9_0 := blk_frozen BK187.out 0; have hfz9_1 := blk_frozen BK187.out 1) | (go_at_call 59; (with_reducible refine (impl_indexOf.calls _ _ l0_0 _ _ l0_1 a1 t189 _ ?side1 ?side2 ?side3 ?side4 A5.out).mono ?_); (case side1 => repeat (first | exact (Kd.C_below HR0_0.out HB.out) | (with_reducible refine Kd.C_alloc ?_ _) | (with_reducible refine Kd.C_drewN ?_ _) | (with_reducible refine Kd.C_drew ?_))); (case side2 => exact HC0_0.out); (case side3 => repeat (first | exact (Kd.C_below HR0_1.out HB.out) | (with_reducible refine Kd.C_alloc ?_ _) | (with_reducible refine Kd.C_drewN ?_ _) | (with_reducible refine Kd.C_drew ?_))); (case side4 => exact HC0_1.out); rintro e w10 ⟨rfl, hb⟩; have n0_ := Aside0.mk (blk_below (g := gb187) (o := .cells #[.slice A0_0 l0_0.length c0_0, .slice A0_1 l0_1.length c0_1] 31 (0, 0)) (by (with_reducible repeat (first | refine blk_drewN ?_ _ | refine blk_drew ?_ | refine blk_alloc ?_ _)); exact BK187.out) hb); have n1_ := Aside0.mk (below_step (by repeat (first | (with_reducible first | exact HB.out | apply below_alloc | apply pw_below_drewN | apply below_drew1 | refine below_set ?_ GE187.out) | exact HB.out)) hb); clear BK187; clear HB; have BK187 := n0_; have HB := n1_; clear n0_ n1_; (try clear hb); (try clear hb2); (try clear hk); (try clear hi)))
  go_ret
  exact ⟨by first | rfl | (simp [errW_none, errW_some] <;> rfl) | (simp [*, errW_none, errW_some] <;> rfl), by repeat (first | (with_reducible first | exact HB.out | apply below_alloc | apply pw_below_drewN | apply below_drew1 | refine below_set ?_ GE187.out) | exact HB.out)⟩
 ·replace c4 := Bool.eq_false_iff.mpr c4
  subst c4
  have H1 : (some false) = some r := by rw [if_neg (show ¬ (false = true) by decide)] at H; exact H
  clear H
  have H := H1
  clear H1
  obtain rfl := Option.some.inj H
  go_enter Try.func63, Try.ntmps63
  go_wp2_with (first | ((with_reducible refine gate_dst (N := 2) rfl ?_); refine box_event ?hg (N := 2) ?hd (cs := #[.slice A0_0 l0_0.length c0_0, .slice A0_1 l0_1.length c0_1]) (t := 31) ?hr ?_; (case hd => rfl); (case hg => rfl); (case hr => first | (go_simp; done) | (go_simp; rfl)); intro gb187 hg w11 hbox hb; have n0_ := Aside0.mk (below_step (by repeat (first | (with_reducible first | exact HB.out | apply below_alloc | apply pw_below_drewN | apply below_drew1) | exact HB.out)) hb); have n1_ := Aside0.mk (hbox); have n2_ := Aside0.mk ((by rw [hg]; exact (below_size (by repeat (first | (with_reducible first | exact HB.out | apply below_alloc | apply pw_below_drewN | apply below_drew1) | exact HB.out))) : w.heap.size ≤ gb187)); have n3_ := Aside0.mk ((by rw [hg]; exact (below_size (by repeat (first | (with_reducible first | exact HB.out | apply below_alloc | apply pw_below_drewN | apply below_drew1) | exact HB.out))) : w.heap.size ≤ gb187)); clear HB; have HB := n0_; have BK187 := n1_; have GW187 := n2_; have GE187 := n3_; clear n0_ n1_ n2_ n3_; clear hb hbox hg; have hcz12_0 : w11.cell? ⟨gb187, 0, none⟩ = some (.slice A0_0 l0_0.length c0_0) := (blk_cell BK187.out 0).trans rfl; have hcz12_1 : w11.cell? ⟨gb187, 1, none⟩ = some (.slice A0_1 l0_1.length c0_1) := (blk_cell BK187.out 1).trans rfl; have hfz12_0 := blk_frozen BK187.out 0; have hfz12_1 := blk_frozen BK187.out 1) | ((with_reducible refine gate_callee (f := 18) rfl ?_); refine goesL_ (some 6) rfl rfl Try.func18 (by kernel_rfl) rfl #[.agg #[.slice A0_0 l0_0.length c0_0, .slice A0_1 l0_1.length c0_1]] rfl (by (try simp only [List.map_toArray, List.map_cons, List.map_nil]); first | done | rfl | (simp only [List.length_drop, List.length_take]; rfl)) ?_; (with_reducible refine (impl_IsValidRecord.calls _ _ l0_0 _ _ l0_1 false _ ?side1 ?side2 ?side3 ?side4 A3.out).mono ?_); (case side1 => repeat (first | exact (Kd.C_below HR0_0.out HB.out) | (with_reducible refine Kd.C_alloc ?_ _) | (with_reducible refine Kd.C_drewN ?_ _) | (with_reducible refine Kd.C_drew ?_))); (case side2 => exact HC0_0.out); (case side3 => repeat (first | exact (Kd.C_below HR0_1.out HB.out) | (with_reducible refine Kd.C_alloc ?_ _) | (with_reducible refine Kd.C_drewN ?_ _) | (with_reducible refine Kd.C_drew ?_))); (case side4 => exact HC0_1.out); rintro e w13 ⟨rfl, hb⟩; refine ⟨_, rfl, ?_⟩; have n0_ := Aside0.mk (blk_below (g := gb187) (o := .cells #[.slice A0_0 l0_0.length c0_0, .slice A0_1 l0_1.length c0_1] 31 (0, 0)) (by (with_reducible repeat (first | refine blk_drewN ?_ _ | refine blk_drew ?_ | refine blk_alloc ?_ _)); exact BK187.out) hb); have n1_ := Aside0.mk (below_step (by repeat (first | (with_reducible first | exact HB.out | apply below_alloc | apply pw_below_drewN | apply below_drew1 | refine below_set ?_ GE187.out) | exact HB.out)) hb); clear BK187; clear HB; have BK187 := n0_; have HB := n1_; clear n0_ n1_; (try clear hb); (try clear hb2); (try clear hk); (try clear hi)))
  go_ret
  exact ⟨by first | rfl | (simp [errW_none, errW_some] <;> rfl) | (simp [*, errW_none, errW_some] <;> rfl), by repeat (first | (with_reducible first | exact HB.out | apply below_alloc | apply pw_below_drewN | apply below_drew1 | refine below_set ?_ GE187.out) | exact HB.out)⟩

/-! ### impl_Relation_94: function 94 -/
def enc53 (x : S53) : Value := .agg #[.int .i64 x.f0, .int .i64 x.f1]
set_option maxHeartbeats 8000000 in
set_option maxRecDepth 100000 in
theorem impl_Relation_94.calls (g : Nat) (lb : Array Value) (eg : ∀ args w, (callFunc g args).run Try.prog w = .ok (.enter g args) w) (p : S53 → Bool) (A0 : Option Addr) (c0 : Nat) (l0 : List S53) (w : World) (hr0 : Kd.C k53 w A0 l0.length l0) (hc0 : l0.length ≤ c0)
    (hp : PredB Try.prog g lb enc53 p w) :
    Calls Try.prog 94 #[.slice A0 l0.length c0, .func (.func g) #[] lb] w fun e w' => e = .returned (.int .i64 (idxI p l0)) ∧ Below w.heap.size w w' := by
  have hl : l0.length ≤ 9223372036854775807 := hr0.2.1
  have HR0 := Aside0.mk hr0
  have HP := Aside0.mk hp
  clear hr0 hp
  go_enter Try.func94, Try.ntmps94
  go_wp2
  go_loopg [5, 8] l0.length (fun gg _ s8 wr => ∃ kk : Nat, kk ≤ l0.length ∧ l0.length - kk ≤ gg ∧ s8 = .int .i64 kk ∧ Aside0 (Below w.heap.size w wr) ∧ Aside0 (∀ j, j < kk → p (l0.getD j z53) = false))
  case atStart => exact ⟨0, Nat.zero_le _, by omega, rfl, ⟨by repeat (first | exact Below.refl _ _ | apply below_alloc | apply pw_below_drewN | apply below_drew1)⟩, ⟨fun j hj => absurd hj (Nat.not_lt_zero _)⟩⟩
  case round =>
    obtain ⟨kk, hkk, hg, rfl, HB, HA⟩ := hrel
    by_cases hlt : kk < l0.length
    · have hltz : (kk : Int) < (l0.length : Int) := by omega
      obtain ⟨ad, e1, hx0, hx1⟩ := at_T53 HR0.out (kk : Int) (by omega) hltz
      cases e1
      replace hx0 := (HB.out.cell (World.block_lt_of_cell? w _ hx0)).trans hx0
      replace hx1 := (HB.out.cell (World.block_lt_of_cell? w _ hx1)).trans hx1
      have hcall := HP.out wr (l0.getD kk z53) HB.out
      have e2 : rd_T53 l0 (kk : Int) = l0.getD kk z53 := by simp [rd_T53]
      rw [e2] at hx0 hx1
      clear e2
      simp only [Int.toNat_natCast] at hx0 hx1
      generalize hy : l0.getD kk z53 = y at hx0 hx1 hcall
      have HY := Aside0.mk hy
      clear hy
      unfold enc53 at hcall
      cases hq : p y with
      | true =>
        rw [hq] at hcall
        have HQ := Aside0.mk hq
        clear hq
        go_wp2_with (go_at_fn g; refine hcall.mono ?_; rintro e w' ⟨rfl, hb'⟩)
        go_ret
        refine ⟨?_, below_chain HB.out hb'⟩
        rw [idxI_hit p z53 l0 kk hlt (by rw [HY.out]; exact HQ.out) HA.out]
        rfl
      | false =>
        rw [hq] at hcall
        have HQ := Aside0.mk hq
        clear hq
        go_wp2_with (go_at_fn g; refine hcall.mono ?_; rintro e w' ⟨rfl, hb'⟩)
        go_roundg (l0.length - (kk + 1))
        case measure => omega
        case rel =>
          refine ⟨kk + 1, by omega, by omega, by go_num, ⟨below_chain HB.out hb'⟩, ⟨fun j hj => ?_⟩⟩
          by_cases e : j = kk
          · subst e
            rw [HY.out]; exact HQ.out
          · exact HA.out j (by omega)
    · have hltz : ¬ (kk : Int) < (l0.length : Int) := by omega
      obtain rfl : kk = l0.length := by omega
      go_wp2
      go_ret
      refine ⟨?_, HB.out⟩
      rw [idxI_miss p z53 l0 HA.out]
      rfl

/-! ### impl_Relation_66: function 66 -/
set_option maxHeartbeats 8000000 in
set_option maxRecDepth 100000 in
theorem impl_Relation_66.calls (g : Nat) (lb : Array Value) (eg : ∀ args w, (callFunc g args).run Try.prog w = .ok (.enter g args) w) (p : S53 → Bool) (v : Value) (xs : List S53) (base : Nat) (ok : Nat → Prop) (w : World) (HO : Kd.R k53 53 w base ok v xs) (hp : PredV Try.prog g lb enc53 p v w) :
    Calls Try.prog 66 #[v, .func (.func g) #[] lb] w fun en w' => ∃ v1 : Value, en = .returned v1 ∧ Kd.R k53 53 w' base ok v1 (xs.filter fun x => !p x) ∧ w.grownBy w' v.ownBlock := by
  obtain ⟨A, c, rfl, hlc, hC⟩ := Kd.R_reads HO
  have hIF := impl_Relation_94.calls g lb eg p A c xs w hC hlc hp.predB
  have hbig : xs.length ≤ 9223372036854775807 := hC.2.1
  by_cases hall : idxI p xs = -1
  · rw [hall] at hIF
    have HF := Aside0.mk (show xs.filter (fun x => !p x) = xs from List.filter_eq_self.2 (fun x hx => by simpa using idxI_all p z53 xs hall x hx))
    have HO1 := Aside0.mk HO
    clear hall hC HO hp
    go_enter Try.func66, Try.ntmps66
    go_wp2_with (go_at_call 94; refine hIF.mono ?_; rintro e w' ⟨rfl, hb⟩)
    go_ret
    exact ⟨_, rfl, by rw [HF.out]; exact Kd.R_below HO1.out hb, grown_of_below hb _⟩
  · obtain ⟨k0, hk0, e0, hpk, hbef⟩ := idxI_found p z53 xs hall
    obtain ⟨g0, cap, hv, hcap, hbase, hg0, hok0⟩ := R_form HO (by omega)
    injection hv with hv1 hv2 hv3
    subst hv1; subst hv3
    rw [e0] at hIF
    have hne1 : ((k0 : Int) == -1) = false := beq_eq_false_iff_ne.2 (by omega)
    have KI := Aside0.mk (KInv.start hk0 hpk hbef)
    have HO1 := Aside0.mk HO
    have HP := Aside0.mk hp
    clear hall hC HO hp e0 hpk hbef
    have hj0 : (0:Int) ≤ (k0 : Int) := by omega
    go_enter Try.func66, Try.ntmps66
    go_wp2_with (go_at_call 94; refine hIF.mono ?_; rintro e w1 ⟨rfl, hb1⟩)
    have HB1 := Aside0.mk hb1
    clear hb1 hIF
    go_loopg [5, 6, 7] xs.length (fun gg s5 s6 _ wr => ∃ (i j : Nat) (ys : List S53), s5 = .int .i64 i ∧ s6 = .int .i64 j ∧ i < j ∧ j ≤ xs.length ∧ xs.length - j ≤ gg ∧ Aside0 (KInv p xs ys i j) ∧ Aside0 (Kd.R k53 53 wr base ok (.slice (some ⟨g0, 0, none⟩) xs.length c) ys) ∧ Aside0 (w.grownBy wr (some g0)))
    case atStart => exact ⟨k0, k0 + 1, xs, rfl, by go_num, by omega, by omega, by omega, KI, ⟨Kd.R_below HO1.out HB1.out⟩, ⟨grown_of_below HB1.out _⟩⟩
    case round =>
      obtain ⟨i, j, ys, rfl, rfl, hij, hjn, hgg, KJ, HR, HG⟩ := hrel
      have hys : ys.length = xs.length := KJ.out.len
      by_cases hlt : j < xs.length
      · have hltz : (j : Int) < (xs.length : Int) := by omega
        have hCy := (Kd.R_reads' HR.out).2.2

        obtain ⟨ad, e1, hx0, hx1⟩ := at_T53 hCy (j : Int) (by omega) (by omega)
        cases e1
        have e2 : rd_T53 ys (j : Int) = xs.getD j z53 := by rw [← KJ.out.get z53]; simp [rd_T53]
        rw [e2] at hx0 hx1
        clear e2 hCy
        simp only [Int.toNat_natCast, add_plain] at hx0 hx1
        obtain ⟨cs, hcl, hM, hcc, hcf⟩ := Kd.R_elem HR.out z53 (i : Int) (by omega) (by omega)
        obtain rfl := k53_openM hM
        have ci0 : wr.cell? ⟨g0, i * 2, none⟩ = some (.int .i64 (ys.getD (i : Int).toNat z53).f0) := by have := hcc 0 _ rfl; simpa only [Int.toNat_natCast, show (k53).sz = 2 from rfl, Nat.add_zero] using this
        have ci1 : wr.cell? ⟨g0, i * 2 + 1, none⟩ = some (.int .i64 (ys.getD (i : Int).toNat z53).f1) := by have := hcc 1 _ rfl; simpa only [Int.toNat_natCast, show (k53).sz = 2 from rfl, Nat.add_zero] using this
        have cf0 : wr.frozen? ⟨g0, i * 2, none⟩ = false := by have := hcf 0; simpa only [Int.toNat_natCast, show (k53).sz = 2 from rfl, Nat.add_zero] using this
        have cf1 : wr.frozen? ⟨g0, i * 2 + 1, none⟩ = false := by have := hcf 1; simpa only [Int.toNat_natCast, show (k53).sz = 2 from rfl, Nat.add_zero] using this
        generalize ys.getD (i : Int).toNat z53 = yo at ci0 ci1
        clear hcc hcf hM hcl hv2
        have hg0w : w.heap.size ≤ wr.heap.size := HG.out.size
        have hgz : g0 < wr.heap.size := by omega
        generalize hy : xs.getD j z53 = y at hx0 hx1
        have HY := Aside0.mk hy
        clear hy
        have hcall := fun (W : World) (hW : w.grownBy W (some g0)) => HP.out W y hW
        unfold enc53 at hcall
        cases hq : p y with
        | true =>
          have HQ := Aside0.mk hq
          rw [hq] at hcall
          have HC := Aside0.mk hcall
          clear hq hcall
          go_wp2_with (go_at_fn g; refine (HC.out _ ?hw).mono ?_; (case hw => repeat (first | exact HG.out | apply grown_alloc | apply grown_drew | (refine grown_set ?_ (by simp; omega) _ _))); rintro e w' ⟨rfl, hb'⟩)
          go_roundg (xs.length - (j + 1))
          case measure => omega
          case rel =>
            refine ⟨i, j + 1, ys, rfl, by go_num, by omega, by omega, by omega, ⟨KJ.out.skip hlt (by rw [HY.out]; exact HQ.out)⟩, ⟨Kd.R_grown HR.out (row := none) (grown_below ?hv hb') (by simp)⟩, ⟨grown_below ?hw hb'⟩⟩
            case hv => repeat (first | exact grown_refl _ _ | apply grown_alloc | apply grown_drew | (refine grown_set ?_ (by simp) _ _))
            case hw => repeat (first | exact HG.out | apply grown_alloc | apply grown_drew | (refine grown_set ?_ (by simp; omega) _ _))
        | false =>
          have HQ := Aside0.mk hq
          rw [hq] at hcall
          have HC := Aside0.mk hcall
          clear hq hcall
          go_wp2_with (go_at_fn g; refine (HC.out _ ?hw).mono ?_; (case hw => repeat (first | exact HG.out | apply grown_alloc | apply grown_drew | (refine grown_set ?_ (by simp; omega) _ _))); rintro e w' ⟨rfl, hb'⟩; obtain ⟨hbc, hbf⟩ := bcell hb'; have HB2 := Aside0.mk hb'; clear hb')
          clear hbc hbf
          have HRw : Kd.R k53 53 w' base ok (.slice (some ⟨g0, 0, none⟩) xs.length c) ys := Kd.R_grown HR.out (row := none) (grown_below (by repeat (first | exact grown_refl _ _ | apply grown_alloc | apply grown_drew | (refine grown_set ?_ (by simp) _ _))) HB2.out) (by simp)
          have HGw : w.grownBy w' (some g0) := grown_below (by repeat (first | exact HG.out | apply grown_alloc | apply grown_drew | (refine grown_set ?_ (by simp; omega) _ _))) HB2.out
          obtain ⟨cs, hcl, _, hcc, _⟩ := Kd.R_elem HRw z53 (i : Int) (by omega) (by omega)
          have hcl2 : cs.length = 2 := hcl
          obtain ⟨hR3, hG3⟩ := Kd.R_seg HRw (i : Int) (by omega) (by omega) hcl hcc (seg := [.int .i64 y.f0, .int .i64 y.f1]) (j := 0) (by simp [hcl2, ← hcl]) (x' := y) (okp := fun _ => False) (by rw [List.take_zero, List.nil_append, Nat.zero_add, List.drop_of_length_le (by simp [hcl2])]; exact k53_mkM _ _ _ y) (fun _ h => h.elim)
          rw [show w'.setCells g0 ((i : Int).toNat * (k53).sz + 0) [.int .i64 y.f0, .int .i64 y.f1] = ((w'.setCell ⟨g0, i * 2, none⟩ (.int .i64 y.f0)).setCell ⟨g0, i * 2 + 1, none⟩ (.int .i64 y.f1)) from by simp [World.setCells, show (k53).sz = 2 from rfl]] at hR3 hG3
          have HK := Aside0.mk (KJ.out.keep (d := z53) hlt (by rw [HY.out]; exact HQ.out))
          rw [HY.out] at HK
          simp only [Int.toNat_natCast] at hR3
          clear HRw hcc hcl hcl2
          go_roundg (xs.length - (j + 1))
          case measure => omega
          case rel => exact ⟨i + 1, j + 1, ys.set i y, by go_num, by go_num, by omega, by omega, by omega, HK, ⟨hR3⟩, ⟨grown_trans HGw hG3⟩⟩
      · have hltz : ¬ (j : Int) < (xs.length : Int) := by omega
        obtain rfl : j = xs.length := by omega
        obtain ⟨i0, hi0, hz0, hz1, hz2⟩ := info_parts info53
        have hcut := cut_from (P := Try.prog) 29 53 .i64 Try.underlying29 hi0 2 hz1 (some ⟨g0, 0, none⟩) xs.length c (i : Int) (by omega) (by omega)
        have hcut2 := cut_to (P := Try.prog) 29 53 .i64 Try.underlying29 hi0 (some ⟨g0, 0, none⟩) xs.length c (i : Int) (by omega) (by omega) hcap
        simp only [Int.toNat_natCast] at hcut hcut2
        rw [if_neg (show ¬ c = i by omega)] at hcut
        simp only [Option.map_some, add_plain] at hcut
        obtain ⟨W', hclr, HR', HG'⟩ := R_cleared k53 HR.out 29 0 (.agg #[(.int .i64 0), (.int .i64 0)]) 16 Try.underlying29 info53 rfl (by simp [Value.cells, Value.oneCell']) i (by omega) (c - i) (some ⟨g0, i * 2, none⟩) (fun _ => rfl)
        have HRr := Aside0.mk HR'
        have HGr := Aside0.mk HG'
        clear HR' HG' hi0 hz0 hz1 hz2
        go_wp2
        go_ret
        exact ⟨_, rfl, by rw [← KJ.out.done]; exact HRr.out, grown_trans HG.out HGr.out⟩

/-! ### impl_Relation_67: function 67 -/
def impl_Relation_67.f (l0 : List S53) : Option (List S53) := if l0.length < 8796093022208 then some l0 else none
set_option maxHeartbeats 8000000 in
set_option maxRecDepth 100000 in
theorem impl_Relation_67.calls (A0 : Option Addr) (c0 : Nat) (l0 : List S53) (r : List S53) (w : World) (hr0 : Kd.C k53 w A0 l0.length l0) (hc0 : l0.length ≤ c0) (h : impl_Relation_67.f l0 = some r) :
    Calls Try.prog 67 #[.slice A0 l0.length c0] w fun e w' => ∃ v0_ : Value, e = .returned (v0_) ∧ Kd.R k53 53 w' w.heap.size (fun _ => True) v0_ r ∧ Below w.heap.size w w' := by
  unfold impl_Relation_67.f at h
  by_cases hl : l0.length < 8796093022208
  · rw [if_pos hl] at h
    obtain rfl := Option.some.inj h
    clear h
    have LM := Aside0.mk hl
    clear hl
    have HR0 := Aside0.mk hr0
    have HC0 := Aside0.mk hc0
    clear hr0 hc0
    have q := fun (W : World) (a : Option Addr) (n c n' c' : Nat) => Lib.run_eql_slice_nil (P := Try.prog) W 29 53 a n c n' c' Try.underlying29
    cases A0 with
    | none =>
      have e0 : l0 = [] := by
        cases l0 with
        | nil => rfl
        | cons x r => obtain ⟨ad, e, _⟩ := HR0.out.2.2 (by simp); cases e
      subst e0
      go_enter Try.func67, Try.ntmps67
      go_wp2
      go_ret
      exact ⟨_, rfl, Kd.R_nil _ _ _ _ _, by repeat (first | exact Below.refl _ _ | apply below_alloc | apply pw_below_drewN | apply below_drew1)⟩
    | some ad0 =>
      have HB := Aside0.mk (Below.refl w.heap.size w)
      go_enter Try.func67, Try.ntmps67
      go_wp2_with (first
        | ((with_reducible refine gate_dst (N := 5) rfl ?_); refine Kd.R_lit k53 w.heap.size 53 ?hg (N := 5) ?hd (xs := ([] : List S53)) (inner := []) (ok := fun _ => True) (okp := fun _ => True) ?hr ?hp (fun _ hk => hk) trivial (Below.refl _ _) (Nat.le_refl _) (by simp) ?_; (case hd => rfl); (case hg => rfl); (case hr => first | (go_simp; done) | (go_simp; rfl)); (case hp => exact Reps.none _ _); intro v1 w1 ho hb hg hat; have HO := Aside0.mk ho; have HB1 := Aside0.mk hb; clear ho hb hg hat HB)
        | ((with_reducible refine gate_builtin (b := .append) (xs := #[.tmp 5, .tmp 6]) rfl ?_); at_builtin; refine Kd.R_append_rows k53 (w0 := w) w.heap.size rfl (.tmp 5) (.tmp 6) 29 53 (.agg #[(.int .i64 0), (.int .i64 0)]) 16 rfl Try.underlying29 info53 rfl (by decide) (by omega) v1 [] l0 _ _ _ (fun _ => True) (fun _ => False) rfl rfl HO.out ?aR (fun _ _ h => h) (fun _ h => h.elim) (fun _ _ => trivial) HB1.out (below_size HB1.out) ?aL ?_; (case aR => exact Kd.C_below HR0.out HB1.out); (case aL => have := LM.out; simp only [List.length_nil]; omega); intro v2 w2 ho hb hg hat; have HO2 := Aside0.mk ho; have HB2 := Aside0.mk hb; clear ho hb hg hat))
      go_ret
      exact ⟨_, rfl, (by have := HO2.out; simpa using this), HB2.out⟩
  · rw [if_neg hl] at h
    exact absurd h (by simp)

/-! ### impl_RelationsOf: function 29 -/
theorem hasContext_eq (cs : List S59) (rs : List S53) (n : Int) : impl_hasContext.f cs rs n = some (goodB cs rs && decide (0 ≤ find cs n)) := by
  unfold impl_hasContext.f
  simp only [impl_IsValidRecord.f, impl_indexOf.f, Option.bind_some]
  cases goodB cs rs with
  | false => simp
  | true => simp; rfl
def relsOf (rs : List S53) (n : Int) : List S53 := rs.filter fun x => !(x.f0 != n && x.f1 != n)
def impl_RelationsOf.f (l0_0 : List S59) (l0_1 : List S53) (a1 : Int) : Option (List S53 × Bool) := some (if goodB l0_0 l0_1 && decide (0 ≤ find l0_0 a1) then (relsOf l0_1 a1, true) else ([], false))
set_option maxHeartbeats 8000000 in
set_option maxRecDepth 100000 in
theorem impl_RelationsOf.pred (a1 : Int) (b : Nat) (v : Value) (w : World) (hb : b < w.heap.size) (hv : v.ownBlock ≠ some b) (hc : w.cell? ⟨b, 0, none⟩ = some (.int .i64 a1)) : PredV Try.prog 68 #[.pointer (some ⟨b, 0, none⟩)] enc53 (fun x => x.f0 != a1 && x.f1 != a1) v w := by
  intro W x hB
  have hc' : W.cell? ⟨b, 0, none⟩ = some (.int .i64 a1) := (hB.cell_far ⟨b, 0, none⟩ hb (fun h => hv h.symm)).trans hc
  have hb' : b < W.heap.size := Nat.lt_of_lt_of_le hb hB.size
  unfold enc53
  clear hc hB hb hv
  go_enter Try.func68, Try.ntmps68
  cases h1 : (x.f0 != a1) <;> cases h2 : (x.f1 != a1)
  all_goals have h3 := Aside0.mk h1
  all_goals have h4 := Aside0.mk h2
  all_goals go_wp2
  all_goals go_ret
  all_goals exact ⟨rfl, by repeat (first | exact Below.refl _ _ | apply below_alloc | apply pw_below_drewN | apply below_drew1)⟩
set_option maxHeartbeats 8000000 in
set_option maxRecDepth 100000 in
theorem impl_RelationsOf.calls (A0_0 : Option Addr) (c0_0 : Nat) (l0_0 : List S59) (A0_1 : Option Addr) (c0_1 : Nat) (l0_1 : List S53) (a1 : Int) (r1 : List S53) (r2 : Bool) (w : World) (hr0_0 : Kd.C k59 w A0_0 l0_0.length l0_0) (hc0_0 : l0_0.length ≤ c0_0) (hr0_1 : Kd.C k53 w A0_1 l0_1.length l0_1) (hc0_1 : l0_1.length ≤ c0_1) (h : impl_RelationsOf.f l0_0 l0_1 a1 = some (r1, r2)) :
    Calls Try.prog 29 #[.agg #[.slice A0_0 l0_0.length c0_0, .slice A0_1 l0_1.length c0_1], .int .i64 a1] w fun e w' => ∃ v0_ : Value, e = .returned (.tuple #[v0_, .bool r2]) ∧ Kd.R k53 53 w' w.heap.size (fun _ => True) v0_ r1 ∧ Below w.heap.size w w' := by
  have H := Option.some.inj h
  clear h
  have HR0 := Aside0.mk hr0_0
  have HR1 := Aside0.mk hr0_1
  obtain ⟨b, hb⟩ : ∃ b, (goodB l0_0 l0_1 && decide (0 ≤ find l0_0 a1)) = b := ⟨_, rfl⟩
  have A1 := Aside0.mk ((hasContext_eq l0_0 l0_1 a1).trans (congrArg some hb))
  rw [hb] at H
  have HL := Aside0.mk (show b = true → l0_1.length ≤ 24 from fun e => by rw [e] at hb; simp only [goodB, Bool.and_eq_true, decide_eq_true_eq] at hb; exact hb.1.1.1.2)
  clear hb hr0_0 hr0_1
  have eg := enters_of Try.func68 (by kernel_rfl) rfl
  cases b with
  | false =>
    injection H with H1 H2
    subst H1; subst H2
    go_enter Try.func29, Try.ntmps29
    go_wp2_with (go_at_call 63; (with_reducible refine (impl_hasContext.calls _ _ l0_0 _ _ l0_1 a1 _ _ (Kd.C_below HR0.out (by repeat (first | exact Below.refl _ _ | apply below_alloc | apply pw_below_drewN | apply below_drew1))) hc0_0 (Kd.C_below HR1.out (by repeat (first | exact Below.refl _ _ | apply below_alloc | apply pw_below_drewN | apply below_drew1))) hc0_1 A1.out).mono ?_); rintro e w1 ⟨rfl, hb1⟩)
    go_ret2
    exact ⟨_, rfl, Kd.R_nil _ _ _ _ _, below_chain (by repeat (first | exact Below.refl _ _ | apply below_alloc | apply pw_below_drewN | apply below_drew1)) hb1⟩
  | true =>
    have HL2 := Aside0.mk (HL.out rfl)
    injection H with H1 H2
    subst H1; subst H2
    go_enter Try.func29, Try.ntmps29
    go_upto_region 1 with (fail)
    have hz : ((w.alloc (.cells #[.slice A0_0 l0_0.length c0_0, .slice A0_1 l0_1.length c0_1] 31 (0, 0))).alloc (.cells #[.int .i64 a1] 3 (0, 0))).cell? ⟨w.heap.size + 1, 0, none⟩ = some (.int .i64 a1) := by simp
    have hz1 : ((w.alloc (.cells #[.slice A0_0 l0_0.length c0_0, .slice A0_1 l0_1.length c0_1] 31 (0, 0))).alloc (.cells #[.int .i64 a1] 3 (0, 0))).cell? ⟨w.heap.size, 1, none⟩ = some (.slice A0_1 l0_1.length c0_1) := by simp
    go_wp2_with (first | (go_at_call 63; (with_reducible refine (impl_hasContext.calls _ _ l0_0 _ _ l0_1 a1 _ _ (Kd.C_below HR0.out (by repeat (first | exact Below.refl _ _ | apply below_alloc | apply pw_below_drewN | apply below_drew1))) hc0_0 (Kd.C_below HR1.out (by repeat (first | exact Below.refl _ _ | apply below_alloc | apply pw_below_drewN | apply below_drew1))) hc0_1 A1.out).mono ?_); rintro e w1 ⟨rfl, hb1⟩; have HB1 : Aside0 (Below w.heap.size w w1) := Aside0.mk (below_chain (w := w) (by repeat (first | exact Below.refl _ _ | apply below_alloc | apply pw_below_drewN | apply below_drew1)) hb1); have hz := pw_cell_below hb1 hz; have hz1 := pw_cell_below hb1 hz1; have hlt1 : w.heap.size + 1 < w1.heap.size := World.block_lt_of_cell? w1 _ hz; clear hb1) | (go_at_call 67; (with_reducible refine (impl_Relation_67.calls _ _ l0_1 l0_1 _ (Kd.C_below HR1.out HB1.out) hc0_1 (by unfold impl_Relation_67.f; exact if_pos (by have := HL2.out; omega))).mono ?_); rintro e w2 ⟨v0, rfl, hR2, hb2⟩; have HB2 : Aside0 (Below w.heap.size w w2) := Aside0.mk (below_chain (w := w) HB1.out hb2); have hz := pw_cell_below hb2 hz; have hlt2 : w.heap.size + 1 < w2.heap.size := World.block_lt_of_cell? w2 _ hz; clear hb2) | (go_at_call 66; (refine (impl_Relation_66.calls 68 _ eg _ v0 l0_1 _ _ _ hR2 (impl_RelationsOf.pred a1 (w.heap.size + 1) v0 _ hlt2 (fun h => absurd (Kd.R_base hR2 _ h) (by omega)) hz)).mono ?_); rintro e w3 ⟨v1, rfl, hR3, hg3⟩))
    go_ret2
    exact ⟨_, rfl, Kd.R_lower hR3 (by have := HB1.out.size; omega), below_of_grown HB2.out hg3 (fun b hb => Nat.le_trans HB1.out.size (Kd.R_base hR2 b hb))⟩

/-! ### laws_heldRelationS: function 32 -/
def laws_heldRelationS.l0 : Nat → List (S53) → Int → Int → Option (Int)
 | 0, _, _, _ => none
 | k + 1, x0, x1, x5 => if x5 < (x0.length : Int) then (if 0 ≤ x5 then (if ((rd_T53 x0 x5).f0) = x1 then (if ((rd_T53 x0 x5).f1) = (wrap64 (x1 + 1)) then (laws_heldRelationS.l0 k x0 (wrap64 ((wrap64 (x1 + 1)) + 1)) (wrap64 (x5 + 1))) else (some (-1))) else (some (-1))) else (none)) else (some x1)
def laws_heldRelationS.f (k : Nat) (l0 : List (S53)) (a1 : Int) : Option (Int) := laws_heldRelationS.l0 k l0 a1 0
theorem laws_heldRelationS.mono_l : ∀ k, (∀ y0 y1 y2, LeO (laws_heldRelationS.l0 k y0 y1 y2) (laws_heldRelationS.l0 (k + 1) y0 y1 y2))
 | 0 => fun _ _ _ r h => by simp [laws_heldRelationS.l0] at h
 | k + 1 => by
  have ih0 := laws_heldRelationS.mono_l k
  ·intro y0 y1 y2
   unfold laws_heldRelationS.l0
   repeat' first
   | (with_reducible exact ih0 _ _ _)
   | (with_reducible exact LeO.refl _)
   | (with_reducible exact LeO.none _)
   | (with_reducible refine LeO.ite ?_ ?_)
   | (with_reducible refine LeO.bind ?_ (fun _ => ?_))
   | exact ih0 _ _ _
   | exact LeO.none _
   | refine LeO.ite ?_ ?_
   | refine LeO.bind ?_ (fun _ => ?_)
theorem laws_heldRelationS.mono : ∀ a0 a1 k, LeO (laws_heldRelationS.f k a0 a1) (laws_heldRelationS.f (k + 1) a0 a1) := by
 intro a0 a1 k
 have ih0 := laws_heldRelationS.mono_l k
 unfold laws_heldRelationS.f
 repeat' first
   | (with_reducible exact ih0 _ _ _)
   | (with_reducible exact LeO.refl _)
   | (with_reducible exact LeO.none _)
   | (with_reducible refine LeO.ite ?_ ?_)
   | (with_reducible refine LeO.bind ?_ (fun _ => ?_))
   | exact ih0 _ _ _
   | exact LeO.none _
   | refine LeO.ite ?_ ?_
   | refine LeO.bind ?_ (fun _ => ?_)
set_option maxHeartbeats 8000000 in
set_option maxRecDepth 100000 in
theorem laws_heldRelationS.calls (k : Nat) (A0 : Option Addr) (c0 : Nat) (l0 : List (S53)) (a1 : Int) (r : Int) (w : World) (hr0 : Kd.C k53 w A0 l0.length l0) (hc0 : l0.length ≤ c0) (h : laws_heldRelationS.f k l0 a1 = some r) :
  Calls Try.prog 32 #[.slice A0 l0.length c0, .int .i64 a1] w fun e w' => e = .returned (.int .i64 r) ∧ Drawn0 w w' := by
 have HR0 := Aside0.mk hr0
 have HC0 := Aside0.mk hc0
 clear hr0 hc0
 have H : (laws_heldRelationS.l0 k l0 a1 0) = some r := h
 clear h
 have H' := Aside0.mk H
 clear H
 go_enter Try.func32, Try.ntmps32
 go_wp2
 go_loopg [1, 5] k (fun kq v1 v5 w' => ∃ (x1_1 : Int) (x5_1 : Int), v1 = .int .i64 x1_1 ∧ v5 = .int .i64 x5_1 ∧ Aside0 (laws_heldRelationS.l0 kq l0 x1_1 x5_1 = some r) ∧ Aside0 (kq ≤ k) ∧ Drawn0 w w')
 case atStart => exact ⟨(a1), (0), (by first | rfl | (simp; done) | (simp [*]; done)), (by first | rfl | (simp; done) | (simp [*]; done)), H', ⟨Nat.le_refl _⟩, by repeat (first | exact Drawn0.refl _ | apply Drawn0.step)⟩
 case round =>
  clear H'
  try clear p2
  obtain ⟨x1_1, x5_1, rfl, rfl, HA, HK1, ⟨m1, rfl⟩⟩ := hrel
  cases gk with
  | zero => exact absurd HA.out (by simp [laws_heldRelationS.l0])
  | succ k1 =>
   have H := HA.out
   clear HA
   simp only [laws_heldRelationS.l0] at H
   by_cases c3 : x5_1 < (l0.length : Int)
   ·rw [if_pos c3] at H
    have c3b0 : decide (x5_1 < (l0.length : Int)) = true := decide_eq_true c3
    clear c3
    by_cases c4 : 0 ≤ x5_1
    ·rw [if_pos c4] at H
     have c4b0 : decide (0 ≤ x5_1) = true := decide_eq_true c4
     clear c4
     by_cases c5 : ((rd_T53 l0 x5_1).f0) = x1_1
     ·rw [if_pos c5] at H
      have c5b0 : (((rd_T53 l0 x5_1).f0) == x1_1) = true := beq_iff_eq.mpr c5
      have c5b1 : (((rd_T53 l0 x5_1).f0) != x1_1) = false := bne_eq_false_iff_eq.mpr c5
      clear c5
      by_cases c6 : ((rd_T53 l0 x5_1).f1) = (wrap64 (x1_1 + 1))
      ·rw [if_pos c6] at H
       have c6b0 : (((rd_T53 l0 x5_1).f1) == (wrap64 (x1_1 + 1))) = true := beq_iff_eq.mpr c6
       have c6b1 : (((rd_T53 l0 x5_1).f1) != (wrap64 (x1_1 + 1))) = false := bne_eq_false_iff_eq.mpr c6
       clear c6
       have H' := Aside0.mk H
       clear H
       have p190 : 0 ≤ (x5_1 : Int) := of_decide_eq_true (by first | (with_reducible assumption) | assumption)
       have q190 : x5_1 < (l0.length : Int) := of_decide_eq_true (by first | (with_reducible assumption) | assumption)
       obtain ⟨ad190, e190, hx190_0, hx190_1⟩ := at_T53 HR0.out x5_1 p190 q190
       cases e190
       replace p190 := eq_true p190
       replace q190 := eq_true q190
       have p191 : 0 ≤ (x5_1 : Int) := of_decide_eq_true (by first | (with_reducible assumption) | assumption)
       have q191 : x5_1 < (l0.length : Int) := of_decide_eq_true (by first | (with_reducible assumption) | assumption)
       obtain ⟨ad191, e191, hx191_0, hx191_1⟩ := at_T53 HR0.out x5_1 p191 q191
       obtain rfl : ad190 = ad191 := (by injection e191)
       replace p191 := eq_true p191
       replace q191 := eq_true q191
       go_wp2
       go_roundg k1
       case measure => have := HK1.out; omega
       case rel => exact ⟨(wrap64 ((wrap64 (x1_1 + 1)) + 1)), (wrap64 (x5_1 + 1)), (by first | rfl | (simp; done) | (simp [*]; done)), (by first | rfl | (simp; done) | (simp [*]; done)), H', ⟨by have := HK1.out; omega⟩, by repeat (first | exact Drawn0.refl _ | apply Drawn0.step)⟩
      ·rw [if_neg c6] at H
       have c6b0 : (((rd_T53 l0 x5_1).f1) == (wrap64 (x1_1 + 1))) = false := beq_eq_false_iff_ne.mpr c6
       have c6b1 : (((rd_T53 l0 x5_1).f1) != (wrap64 (x1_1 + 1))) = true := bne_iff_ne.mpr c6
       obtain rfl := Option.some.inj H
       have p190 : 0 ≤ (x5_1 : Int) := of_decide_eq_true (by first | (with_reducible assumption) | assumption)
       have q190 : x5_1 < (l0.length : Int) := of_decide_eq_true (by first | (with_reducible assumption) | assumption)
       obtain ⟨ad190, e190, hx190_0, hx190_1⟩ := at_T53 HR0.out x5_1 p190 q190
       cases e190
       replace p190 := eq_true p190
       replace q190 := eq_true q190
       have p191 : 0 ≤ (x5_1 : Int) := of_decide_eq_true (by first | (with_reducible assumption) | assumption)
       have q191 : x5_1 < (l0.length : Int) := of_decide_eq_true (by first | (with_reducible assumption) | assumption)
       obtain ⟨ad191, e191, hx191_0, hx191_1⟩ := at_T53 HR0.out x5_1 p191 q191
       obtain rfl : ad190 = ad191 := (by injection e191)
       replace p191 := eq_true p191
       replace q191 := eq_true q191
       go_wp2
       go_ret
       exact ⟨by first | rfl | (simp; done) | (simp [*]; done), by repeat (first | exact Drawn0.refl _ | apply Drawn0.step)⟩
     ·rw [if_neg c5] at H
      have c5b0 : (((rd_T53 l0 x5_1).f0) == x1_1) = false := beq_eq_false_iff_ne.mpr c5
      have c5b1 : (((rd_T53 l0 x5_1).f0) != x1_1) = true := bne_iff_ne.mpr c5
      obtain rfl := Option.some.inj H
      have p190 : 0 ≤ (x5_1 : Int) := of_decide_eq_true (by first | (with_reducible assumption) | assumption)
      have q190 : x5_1 < (l0.length : Int) := of_decide_eq_true (by first | (with_reducible assumption) | assumption)
      obtain ⟨ad190, e190, hx190_0, hx190_1⟩ := at_T53 HR0.out x5_1 p190 q190
      cases e190
      replace p190 := eq_true p190
      replace q190 := eq_true q190
      go_wp2
      go_ret
      exact ⟨by first | rfl | (simp; done) | (simp [*]; done), by repeat (first | exact Drawn0.refl _ | apply Drawn0.step)⟩
    ·rw [if_neg c4] at H
     exact absurd H (by simp)
   ·rw [if_neg c3] at H
    have c3b0 : decide (x5_1 < (l0.length : Int)) = false := decide_eq_false c3
    clear c3
    obtain rfl := Option.some.inj H
    go_wp2
    go_ret
    exact ⟨by first | rfl | (simp; done) | (simp [*]; done), by repeat (first | exact Drawn0.refl _ | apply Drawn0.step)⟩

end Go.Proofs.Ytojdchmkhhpmiaa.Q
