-- Written by a program of this session (wip/xprint.py over the kit's printer).
import Derived.Test.YtdiejmhphhdcfaaQ0
import Derived.Test.YtdiejmhphhdcfaaQF63
import Derived.Test.YtdiejmhphhdcfaaQF67
import Derived.Test.YtdiejmhphhdcfaaQP
namespace Go.Proofs.Ytdiejmhphhdcfaa.Q
open Go.RowKit Go.Proofs.YtdiejmhphhdcfaaW.PrintWords Go.Proofs.YtdiejmhphhdcfaaW.PrintLast
set_option linter.unusedVariables false
set_option linter.unusedSimpArgs false

/-! ### spec_l4Cycle: function 83 -/
theorem spGo_len (cs : List S86) (rs : List S95) (st : List Int) (b : Int) : ∀ (u a : Nat) {l : List Int}, spGo cs rs st b u a = some l → l.length = u
  | 0, _, l, h => by obtain rfl := Option.some.inj h; rfl
  | u + 1, a, l, h => by
    unfold spGo at h
    split at h
    · cases h
    · obtain ⟨l2, h2, rfl⟩ := Option.map_eq_some_iff.1 h
      simp [spGo_len cs rs st b u _ h2]
theorem chain_len {cs : List S86} {rs : List S95} {a b : Int} {r : List Int} (h : spec_l4Chain.f cs rs a b = some r) : r.length ≤ 11 := by
  unfold spec_l4Chain.f at h
  split at h
  case isFalse => cases h
  rename_i hg
  have h10 := (goodB_parts hg.1).1
  have hup := stA_up cs rs b cs.length a.toNat
  split at h
  · obtain rfl := Option.some.inj h; simp
  · obtain ⟨l, h2, rfl⟩ := Option.map_eq_some_iff.1 h
    have := spGo_len cs rs _ b _ _ h2
    rw [List.length_cons]
    omega
def cyOk (x : Int) (c : List Int) (m : Nat) : Bool := (c.take m).all fun y => decide (x ≤ y)
theorem cyOk_succ (x : Int) (c : List Int) (m : Nat) (h : m < c.length) : cyOk x c (m + 1) = (cyOk x c m && decide (x ≤ c.getD m 0)) := by
  unfold cyOk
  rw [List.take_add_one, List.getElem?_eq_getElem h, List.all_append]
  simp [List.getD_eq_getElem?_getD, List.getElem?_eq_getElem h]
def cyStep (x : Int) (ch best : List Int) : List Int := if ch = [] then best else if (cyOk x (ch.take (ch.length - 1)) (ch.length - 1) && (decide (best.length = 0) || decide (ch.length - 1 < best.length))) = true then ch.take (ch.length - 1) else best
def cyTo (cs : List S86) (rs : List S95) : Nat → Option (List Int)
  | 0 => some []
  | m + 1 => (cyTo cs rs m).bind fun best => (spec_l4Chain.f cs rs (m : Int) (m : Int)).map fun ch => cyStep (cs.getD m z86).f0 ch best
theorem cyTo_succ {cs : List S86} {rs : List S95} {m : Nat} {b : List Int} (h : cyTo cs rs (m + 1) = some b) : ∃ best ch, cyTo cs rs m = some best ∧ spec_l4Chain.f cs rs (m : Int) (m : Int) = some ch ∧ b = cyStep (cs.getD m z86).f0 ch best := by
  obtain ⟨best, h1, h2⟩ := Option.bind_eq_some_iff.1 h
  obtain ⟨ch, h3, h4⟩ := Option.map_eq_some_iff.1 h2
  exact ⟨best, ch, h1, h3, h4.symm⟩
theorem cyTo_some {cs : List S86} {rs : List S95} {n : Nat} : ∀ {b : List Int}, cyTo cs rs n = some b → ∀ m, m ≤ n → ∃ b', cyTo cs rs m = some b' := by
  induction n with
  | zero => intro b h m hm; obtain rfl : m = 0 := by omega
            exact ⟨b, h⟩
  | succ n ih =>
    intro b h m hm
    by_cases e : m = n + 1
    · subst e; exact ⟨b, h⟩
    · obtain ⟨b1, _, h1, _, _⟩ := cyTo_succ h
      exact ih h1 m (by omega)
def spec_l4Cycle.f (l0_0 : List S86) (l0_1 : List S95) : Option (List Int) := if l0_0.length ≤ 1000 then cyTo l0_0 l0_1 l0_0.length else none
set_option maxHeartbeats 16000000 in
set_option maxRecDepth 100000 in
theorem spec_l4Cycle.calls (A0_0 : Option Addr) (c0_0 : Nat) (l0_0 : List S86) (A0_1 : Option Addr) (c0_1 : Nat) (l0_1 : List S95) (r : List Int) (w : World) (hr0_0 : Kd.C k86 w A0_0 l0_0.length l0_0) (hc0_0 : l0_0.length ≤ c0_0) (hr0_1 : Kd.C k95 w A0_1 l0_1.length l0_1) (hc0_1 : l0_1.length ≤ c0_1) (h : spec_l4Cycle.f l0_0 l0_1 = some r) :
    Calls Try.prog 83 #[.agg #[.slice A0_0 l0_0.length c0_0, .slice A0_1 l0_1.length c0_1]] w fun e w' => ∃ v0_ : Value, e = .returned (v0_) ∧ Kd.R (Kd.int .i64) 3 w' w.heap.size (fun _ => True) v0_ r ∧ Below w.heap.size w w' := by
  have H := h
  unfold spec_l4Cycle.f at H
  clear h
  by_cases hn : l0_0.length ≤ 1000
  case neg => rw [if_neg hn] at H; cases H
  rw [if_pos hn] at H
  have HN := Aside0.mk hn
  have HH := Aside0.mk H
  clear hn H
  have HR0 := Aside0.mk hr0_0
  have HR1 := Aside0.mk hr0_1
  have HC0 := Aside0.mk hc0_0
  have HC1 := Aside0.mk hc0_1
  clear hr0_0 hr0_1 hc0_0 hc0_1
  obtain ⟨wb, hwb⟩ : ∃ wb, (w).alloc (.cells #[.slice A0_0 l0_0.length c0_0, .slice A0_1 l0_1.length c0_1] 33 (0, 0)) = wb := ⟨_, rfl⟩
  have HBw := Aside0.mk (show Below w.heap.size w wb from by rw [← hwb]; repeat (first | exact Below.refl _ _ | apply below_alloc))
  have HWB := HBw
  have hhr : wb.heap[w.heap.size]? = some (.cells #[.slice A0_0 l0_0.length c0_0, .slice A0_1 l0_1.length c0_1] 33 (0, 0)) := by rw [← hwb]; have h := blk_new (w) (.cells #[.slice A0_0 l0_0.length c0_0, .slice A0_1 l0_1.length c0_1] 33 (0, 0)); rw [show (w).heap.size = w.heap.size from by rfl] at h; exact h
  have hb0 : wb.cell? ⟨w.heap.size, 0, none⟩ = some (.slice A0_0 l0_0.length c0_0) := (blk_cell hhr 0).trans rfl
  have hb1 : wb.cell? ⟨w.heap.size, 1, none⟩ = some (.slice A0_1 l0_1.length c0_1) := (blk_cell hhr 1).trans rfl
  have hbs : w.heap.size < wb.heap.size := blk_lt hhr
  have HW := Aside0.mk hwb
  clear hwb hhr
  go_enter Try.func83, Try.ntmps83
  go_upto_region 1 with (fail)
  try rw [HW.out]
  clear HW
  go_upto_region 2 with ((with_reducible refine gate_dst (N := 9) rfl ?_); refine Kd.R_lit (Kd.int .i64) (w0 := wb) wb.heap.size 3 ?hg (N := 9) ?hd (xs := ([] : List Int)) (inner := []) (ok := fun _ => True) (okp := fun _ => True) ?hr ?hp (fun _ hk => hk) trivial (Below.refl _ _) (Nat.le_refl _) (by simp) ?_; (case hd => rfl); (case hg => rfl); (case hr => first | (go_simp; done) | (go_simp; rfl)); (case hp => exact (Reps.none _ _)); intro v9 w3 ho hb hg_ hnew_; clear hg_ hnew_; have HR := Aside0.mk ho; have HB := Aside0.mk hb; clear ho hb)
  have hb0 := pw_cell_below HB.out hb0
  have hb1 := pw_cell_below HB.out hb1
  have HBw := Aside0.mk (below_chain (w := w) HBw.out HB.out)
  have HSZ := Aside0.mk (show w.heap.size ≤ wb.heap.size from HWB.out.size)
  have HWS := Aside0.mk (show w.heap.size < w3.heap.size from World.block_lt_of_cell? w3 _ hb0)
  clear HB
  have HB0 := Aside0.mk hb0
  have HB1 := Aside0.mk hb1
  go_wp2
  have HR := Aside0.mk (Kd.R_lower HR.out HSZ.out)
  go_loopg [3, 4] l0_0.length (fun gg s3 s4 wr => ∃ (m : Nat) (best : List Int), m ≤ l0_0.length ∧ l0_0.length - m ≤ gg ∧ s4 = .int .i64 m ∧ cyTo l0_0 l0_1 m = some best ∧ Aside0 (Below w3.heap.size w3 wr) ∧ Aside0 (Kd.R (Kd.int .i64) 3 wr w.heap.size (fun _ => True) s3 best))
  case atStart => exact ⟨0, [], Nat.zero_le _, by omega, rfl, rfl, ⟨Below.refl _ _⟩, HR⟩
  case round =>
    clear HR
    obtain ⟨m, best, hm, hgg, rfl, hbest, HB, HR⟩ := hrel
    have HBw := Aside0.mk (below_chain (w := w) HBw.out HB.out)
    have hb0 := (HB.out.cell HWS.out).trans hb0
    have hb1 := (HB.out.cell HWS.out).trans hb1
    by_cases hml : m < l0_0.length
    · have hmlz : (m : Int) < (l0_0.length : Int) := by omega
      obtain ⟨b1, hb1'⟩ := cyTo_some HH.out (m + 1) (by omega)
      obtain ⟨best2, ch, e1, hch, hst⟩ := cyTo_succ hb1'
      rw [hbest] at e1
      obtain rfl := Option.some.inj e1
      have HST := Aside0.mk (show cyTo l0_0 l0_1 (m + 1) = some (cyStep (l0_0.getD m z86).f0 ch best) from by rw [hb1', hst])
      have A1 := Aside0.mk hch
      clear hb1' hst hch hbest e1
      go_upto_region 6 with (go_at_call 63; (refine (spec_l4Chain.calls _ _ l0_0 _ _ l0_1 _ _ ch _ (Kd.C_below HR0.out (by repeat (first | exact HBw.out | exact Below.refl _ _ | apply below_alloc | apply pw_below_drewN | apply below_drew1))) HC0.out (Kd.C_below HR1.out (by repeat (first | exact HBw.out | exact Below.refl _ _ | apply below_alloc | apply pw_below_drewN | apply below_drew1))) HC1.out A1.out).mono ?_); rintro e w5 ⟨v5, rfl, hR5, hb⟩; have HR5 := Aside0.mk (Kd.R_lower hR5 HBw.out.size); have HB := Aside0.mk (below_chain (w := w3) HB.out hb); have HBw := Aside0.mk (below_chain (w := w) HBw.out hb); have hb0 := pw_cell_below hb hb0; have hb1 := pw_cell_below hb hb1; have HR := Aside0.mk (Kd.R_below HR.out hb); clear hb hR5)
      obtain ⟨D, d, hv5, hd, hC⟩ := Kd.R_reads HR5.out
      subst hv5
      have HCH := Aside0.mk hC
      have HCD := Aside0.mk hd
      clear hC hd
      obtain ⟨Db, db, hvb, _, _⟩ := Kd.R_reads HR.out
      subst hvb
      obtain ⟨wc, rfl⟩ : ∃ x, x = w5 := ⟨_, rfl⟩
      by_cases hch : ch = []
      · have hz : ((ch.length : Int) == 0) = true := by rw [hch]; rfl
        have HST := Aside0.mk (show cyTo l0_0 l0_1 (m + 1) = some best from by rw [HST.out]; unfold cyStep; rw [if_pos hch])
        clear hch
        go_wp2
        go_roundg (l0_0.length - (m + 1))
        case measure => omega
        case rel => exact ⟨m + 1, best, by omega, by omega, by first | go_num | exact congrArg (Value.int .i64) (wrap_succ m (by have := HN.out; omega)), HST.out, HB, HR⟩
      · have hz : ((ch.length : Int) == 0) = false := by rw [beq_eq_false_iff_ne]; intro e; exact hch (List.length_eq_zero_iff.1 (by omega))
        have hpos : 0 < ch.length := List.length_pos_iff.2 hch
        go_upto_region 7 with (fail)
        have hlen := chain_len A1.out
        have HL := Aside0.mk hlen
        have hm1 : wrap64 ((ch.length : Int) - 1) = (ch.length : Int) - 1 := by unfold wrap64; omega
        obtain ⟨i3, hi3, hi4⟩ := Option.map_eq_some_iff.1 info3
        injection hi4 with hi5 hi6
        injection hi6 with hi7 hi8
        have hcut := (print_take_of (P := Try.prog) (Value.int .i64) (0 : Int) 27 3 .i64 Try.underlying27 hi3 hi7 D d ch ((ch.length : Int) - 1) (by omega) (by omega) HCD.out).1
        have HRC := Aside0.mk (Kd.R_take (m := ch.length - 1) HR5.out (by omega))
        rw [show ((ch.length : Int) - 1).toNat = ch.length - 1 from by omega] at hcut
        have HCL := Aside0.mk (show (ch.take (ch.length - 1)).length = ch.length - 1 from by rw [List.length_take]; omega)
        have HST := Aside0.mk (show cyTo l0_0 l0_1 (m + 1) = some (if (cyOk (l0_0.getD m z86).f0 (ch.take (ch.length - 1)) (ch.length - 1) && (decide (best.length = 0) || decide (ch.length - 1 < best.length))) = true then ch.take (ch.length - 1) else best) from by rw [HST.out]; unfold cyStep; rw [if_neg hch])
        rw [HCL.out] at hcut
        obtain ⟨cy, hcy⟩ : ∃ x, ch.take (ch.length - 1) = x := ⟨_, rfl⟩
        rw [hcy] at HRC HCL HST
        obtain ⟨L, hL⟩ : ∃ x, ch.length - 1 = x := ⟨_, rfl⟩
        rw [hL] at hcut HRC HCL HST
        clear hi3 hi5 hi7 hi8 hcy HCD hlen hpos
        go_wp2
        obtain ⟨adc, e1, hc0, hc1⟩ := at_T86 HR0.out (m : Int) (by omega) hmlz
        cases e1
        rw [show rd_T86 l0_0 (m : Int) = l0_0.getD m z86 from by simp [rd_T86], Int.toNat_natCast] at hc0
        clear hc1
        obtain ⟨x, hx⟩ : ∃ x, (l0_0.getD m z86).f0 = x := ⟨_, rfl⟩
        rw [hx] at hc0 HST
        have HC0' := Aside0.mk hc0
        clear hx hc0
        try rw [hm1]
        clear hm1
        go_loopg [7, 8] L (fun gg s7 s8 wz => ∃ k : Nat, k ≤ L ∧ L - k ≤ gg ∧ s8 = .int .i64 k ∧ s7 = .bool (cyOk x cy k) ∧ Aside0 (Below w3.heap.size w3 wz) ∧ Aside0 (Below w.heap.size w wz) ∧ Aside0 (Kd.R (Kd.int .i64) 3 wz w.heap.size (fun _ => True) (.slice Db best.length db) best) ∧ Aside0 (Kd.R (Kd.int .i64) 3 wz w.heap.size (fun _ => True) (.slice D L d) cy))
        case atStart => exact ⟨0, Nat.zero_le _, by omega, rfl, by simp [cyOk], HB, HBw, HR, HRC⟩
        case round =>
          clear HB HBw HR HRC
          obtain ⟨k, hk, hgg2, rfl, rfl, HB, HBw, HR, HRC⟩ := hrel
          clear hb0 hb1
          have hb0 := (HB.out.cell (World.block_lt_of_cell? w3 _ HB0.out)).trans HB0.out
          have hb1 := (HB.out.cell (World.block_lt_of_cell? w3 _ HB1.out)).trans HB1.out
          by_cases hkl : k < L
          · have hklz : (k : Int) < (L : Int) := by omega
            have hcl := HCL.out
            obtain ⟨ady, e1, hy0⟩ := Kd.at_int (Kd.R_reads' HRC.out).2.2 (k : Int) (by omega) (by omega)
            cases e1
            rw [show rd cy (k : Int) = cy.getD k 0 from by simp [rd], Int.toNat_natCast] at hy0
            have HSS := Aside0.mk (cyOk_succ x cy k (by omega))
            obtain ⟨y, hy⟩ : ∃ y, cy.getD k 0 = y := ⟨_, rfl⟩
            rw [hy] at hy0 HSS
            have hc0 := (HBw.out.cell (World.block_lt_of_cell? w _ HC0'.out)).trans HC0'.out
            obtain ⟨b7, hb7⟩ : ∃ b7, cyOk x cy k = b7 := ⟨_, rfl⟩
            rw [hb7] at HSS ⊢
            clear hy hb7 hcl
            cases b7 with
            | false =>
              have HSL := Aside0.mk (HSS.out.trans (Bool.false_and _))
              go_wp2
              repeat (go_quiet (fail); try go_wp2)
              go_roundg (L - (k + 1))
              case measure => omega
              case rel => exact ⟨k + 1, by omega, by omega, by first | go_num | exact congrArg (Value.int .i64) (wrap_succ k (by have := HL.out; omega)), by rw [HSL.out], ⟨by repeat (first | exact HB.out | apply below_alloc | apply pw_below_drewN | apply below_drew1)⟩, ⟨by repeat (first | exact HBw.out | apply below_alloc | apply pw_below_drewN | apply below_drew1)⟩, ⟨by (with_reducible repeat (first | apply Kd.R_alloc | apply Kd.R_drewN | apply Kd.R_drew)); exact HR.out⟩, ⟨by (with_reducible repeat (first | apply Kd.R_alloc | apply Kd.R_drewN | apply Kd.R_drew)); exact HRC.out⟩⟩
            | true =>
              by_cases hge : y ≥ x
              · have hd : decide (y ≥ x) = true := decide_eq_true hge
                have HSL := Aside0.mk (show cyOk x cy (k + 1) = true from by rw [HSS.out, decide_eq_true (show x ≤ y from hge)]; rfl)
                go_wp2
                repeat (go_quiet (fail); try go_wp2)
                go_roundg (L - (k + 1))
                case measure => omega
                case rel => exact ⟨k + 1, by omega, by omega, by first | go_num | exact congrArg (Value.int .i64) (wrap_succ k (by have := HL.out; omega)), by rw [HSL.out], ⟨by repeat (first | exact HB.out | apply below_alloc | apply pw_below_drewN | apply below_drew1)⟩, ⟨by repeat (first | exact HBw.out | apply below_alloc | apply pw_below_drewN | apply below_drew1)⟩, ⟨by (with_reducible repeat (first | apply Kd.R_alloc | apply Kd.R_drewN | apply Kd.R_drew)); exact HR.out⟩, ⟨by (with_reducible repeat (first | apply Kd.R_alloc | apply Kd.R_drewN | apply Kd.R_drew)); exact HRC.out⟩⟩
              · have hd : decide (y ≥ x) = false := decide_eq_false hge
                have HSL := Aside0.mk (show cyOk x cy (k + 1) = false from by rw [HSS.out, decide_eq_false (show ¬ x ≤ y from hge)]; rfl)
                go_wp2
                repeat (go_quiet (fail); try go_wp2)
                go_roundg (L - (k + 1))
                case measure => omega
                case rel => exact ⟨k + 1, by omega, by omega, by first | go_num | exact congrArg (Value.int .i64) (wrap_succ k (by have := HL.out; omega)), by rw [HSL.out], ⟨by repeat (first | exact HB.out | apply below_alloc | apply pw_below_drewN | apply below_drew1)⟩, ⟨by repeat (first | exact HBw.out | apply below_alloc | apply pw_below_drewN | apply below_drew1)⟩, ⟨by (with_reducible repeat (first | apply Kd.R_alloc | apply Kd.R_drewN | apply Kd.R_drew)); exact HR.out⟩, ⟨by (with_reducible repeat (first | apply Kd.R_alloc | apply Kd.R_drewN | apply Kd.R_drew)); exact HRC.out⟩⟩
          · obtain rfl : k = L := by omega
            have hklz : ¬ ((k : Int) < (k : Int)) := by omega
            obtain ⟨b7, hb7⟩ : ∃ b7, cyOk x cy k = b7 := ⟨_, rfl⟩
            rw [hb7] at HST
            rw [hb7]
            clear hb7
            cases b7 with
            | false =>
              have HSL := Aside0.mk (HST.out.trans (congrArg some (if_neg (by simp))))
              clear HST
              go_wp2
              repeat (go_quiet (fail); try go_wp2)
              go_roundg (l0_0.length - (m + 1))
              case measure => omega
              case rel => exact ⟨m + 1, best, by omega, by omega, by first | go_num | exact congrArg (Value.int .i64) (wrap_succ m (by have := HN.out; omega)), HSL.out, ⟨by repeat (first | exact HB.out | apply below_alloc | apply pw_below_drewN | apply below_drew1)⟩, ⟨by (with_reducible repeat (first | apply Kd.R_alloc | apply Kd.R_drewN | apply Kd.R_drew)); exact HR.out⟩⟩
            | true =>
              by_cases hb0z : best.length = 0
              · have hz2 : ((best.length : Int) == 0) = true := by rw [hb0z]; rfl
                have HSL := Aside0.mk (HST.out.trans (congrArg some (if_pos (by rw [decide_eq_true hb0z]; rfl))))
                clear hb0z HST
                go_wp2
                repeat (go_quiet (fail); try go_wp2)
                go_roundg (l0_0.length - (m + 1))
                case measure => omega
                case rel => exact ⟨m + 1, cy, by omega, by omega, by first | go_num | exact congrArg (Value.int .i64) (wrap_succ m (by have := HN.out; omega)), HSL.out, ⟨by repeat (first | exact HB.out | apply below_alloc | apply pw_below_drewN | apply below_drew1)⟩, ⟨by (with_reducible repeat (first | apply Kd.R_alloc | apply Kd.R_drewN | apply Kd.R_drew)); exact HRC.out⟩⟩
              · have hz2 : ((best.length : Int) == 0) = false := by rw [beq_eq_false_iff_ne]; omega
                by_cases hlt : k < best.length
                · have hltz : (k : Int) < (best.length : Int) := by omega
                  have hdz : decide ((k : Int) < (best.length : Int)) = true := decide_eq_true hltz
                  have HSL := Aside0.mk (HST.out.trans (congrArg some (if_pos (by rw [decide_eq_true hlt]; simp))))
                  clear HST
                  go_wp2
                  repeat (go_quiet (fail); try go_wp2)
                  go_roundg (l0_0.length - (m + 1))
                  case measure => omega
                  case rel => exact ⟨m + 1, cy, by omega, by omega, by first | go_num | exact congrArg (Value.int .i64) (wrap_succ m (by have := HN.out; omega)), HSL.out, ⟨by repeat (first | exact HB.out | apply below_alloc | apply pw_below_drewN | apply below_drew1)⟩, ⟨by (with_reducible repeat (first | apply Kd.R_alloc | apply Kd.R_drewN | apply Kd.R_drew)); exact HRC.out⟩⟩
                · have hltz : ¬ ((k : Int) < (best.length : Int)) := by omega
                  have hdz : decide ((k : Int) < (best.length : Int)) = false := decide_eq_false hltz
                  have HSL := Aside0.mk (HST.out.trans (congrArg some (if_neg (by rw [decide_eq_false hlt, decide_eq_false hb0z]; simp))))
                  clear HST
                  go_wp2
                  repeat (go_quiet (fail); try go_wp2)
                  go_roundg (l0_0.length - (m + 1))
                  case measure => omega
                  case rel => exact ⟨m + 1, best, by omega, by omega, by first | go_num | exact congrArg (Value.int .i64) (wrap_succ m (by have := HN.out; omega)), HSL.out, ⟨by repeat (first | exact HB.out | apply below_alloc | apply pw_below_drewN | apply below_drew1)⟩, ⟨by (with_reducible repeat (first | apply Kd.R_alloc | apply Kd.R_drewN | apply Kd.R_drew)); exact HR.out⟩⟩
    · obtain rfl : m = l0_0.length := by omega
      have hmlz : ¬ ((l0_0.length : Int) < (l0_0.length : Int)) := by omega
      go_wp2
      go_ret
      exact ⟨_, rfl, by rw [show r = best from Option.some.inj (HH.out.symm.trans hbest)]; exact HR.out, HBw.out⟩

end Go.Proofs.Ytdiejmhphhdcfaa.Q
