-- Written by a program of this session (wip/xprint.py over the kit's printer).
import Derived.Test.YtdpehkfjhfjobaaQ0
import Derived.Test.YtdpehkfjhfjobaaQF60
import Derived.Test.YtdpehkfjhfjobaaQF61
import Derived.Test.YtdpehkfjhfjobaaQF64
import Derived.Test.YtdpehkfjhfjobaaQF66
import Derived.Test.YtdpehkfjhfjobaaQF71
import Derived.Test.YtdpehkfjhfjobaaQP
namespace Go.Proofs.Ytdpehkfjhfjobaa.Q
open Go.RowKit Go.Proofs.YtdpehkfjhfjobaaW.PrintWords Go.Proofs.YtdpehkfjhfjobaaW.PrintLast Go.Proofs.YtdpehkfjhfjobaaW.PrintMore
attribute [local go_sem] max2_int min2_int max_two min_two max_three min_three max_four min_four   -- for this text's walks alone
set_option linter.unusedVariables false
set_option linter.unusedSimpArgs false

/-! ### impl_ContextOrder: function 47 -/
def curB (M : Nat → Nat → Bool) (l : List Nat) (i k : Nat) : Bool := !(l.contains i) && (List.range k).all fun j => l.contains j || !(M j i)
theorem curB_succ (M : Nat → Nat → Bool) (l : List Nat) (i k : Nat) : curB M l i (k + 1) = (curB M l i k && (l.contains k || !(M k i))) := by
  unfold curB
  rw [List.range_succ, List.all_append, ← Bool.and_assoc]
  simp
def ordStep (n : Nat) (M : Nat → Nat → Bool) (l : List Nat) : List Nat :=
  match (List.range n).find? (fun i => curB M l i n) with
  | some i => l ++ [i]
  | none => l
theorem ordStep_hit {n i : Nat} {M : Nat → Nat → Bool} {l : List Nat} (hi : i < n) (h : curB M l i n = true) (hb : ∀ j, j < i → curB M l j n = false) : ordStep n M l = l ++ [i] := by
  unfold ordStep
  have : (List.range n).find? (fun i => curB M l i n) = some i := by
    rw [List.find?_eq_some_iff_getElem]
    refine ⟨h, i, by simpa using hi, by simp, fun j hj => ?_⟩
    simp [hb j hj]
  rw [this]
theorem ordStep_miss {n : Nat} {M : Nat → Nat → Bool} {l : List Nat} (h : ∀ j, j < n → curB M l j n = false) : ordStep n M l = l := by
  unfold ordStep
  have : (List.range n).find? (fun i => curB M l i n) = none := by
    rw [List.find?_eq_none]
    intro j hj
    simp [h j (List.mem_range.1 hj)]
  rw [this]
def ordL (n : Nat) (M : Nat → Nat → Bool) : Nat → List Nat
  | 0 => []
  | m + 1 => ordStep n M (ordL n M m)
theorem ordStep_len (n : Nat) (M : Nat → Nat → Bool) (l : List Nat) : (ordStep n M l).length ≤ l.length + 1 := by
  unfold ordStep
  split <;> simp
theorem ordL_len (n : Nat) (M : Nat → Nat → Bool) (m : Nat) : (ordL n M m).length ≤ m := by
  induction m with
  | zero => simp [ordL]
  | succ m ih =>
    have := ordStep_len n M (ordL n M m)
    show (ordStep n M (ordL n M m)).length ≤ m + 1
    omega
def numL (cs : List S76) (l : List Nat) : List Int := l.map fun i => (cs.getD i z76).f0
def doneL (n : Nat) (l : List Nat) : List Bool := (List.range n).map fun i => l.contains i
theorem doneL_len (n : Nat) (l : List Nat) : (doneL n l).length = n := by simp [doneL]
theorem doneL_at {n i : Nat} (l : List Nat) (h : i < n) : rdOf false (doneL n l) (i : Int) = l.contains i := by
  simp [rdOf, doneL, List.getD_eq_getElem?_getD, h]
theorem doneL_set {n i : Nat} (l : List Nat) (_ : i < n) : (doneL n l).set i true = doneL n (l ++ [i]) := by
  apply List.ext_getElem (by simp [doneL])
  intro j h1 h2
  simp only [doneL, List.getElem_set, List.getElem_map, List.getElem_range]
  by_cases e : i = j
  · subst e; simp
  · have e2 : ¬ j = i := fun h => e h.symm
    simp [e, e2]
theorem doneL_nil (n : Nat) : doneL n [] = List.replicate n false := by
  apply List.ext_getElem (by simp [doneL])
  intro j h1 h2
  simp [doneL]
def impl_ContextOrder.f (l0_0 : List S76) (l0_1 : List S90) : Option (List Int × Bool) := some (if goodB l0_0 l0_1 && consB l0_0.length (lat l0_0 l0_1) then (numL l0_0 (ordL l0_0.length (lat l0_0 l0_1) l0_0.length), true) else ([], false))
set_option maxHeartbeats 8000000 in
set_option maxRecDepth 100000 in
theorem impl_ContextOrder.calls (A0_0 : Option Addr) (c0_0 : Nat) (l0_0 : List S76) (A0_1 : Option Addr) (c0_1 : Nat) (l0_1 : List S90) (r1 : List Int) (r2 : Bool) (w : World) (hr0_0 : Kd.C k76 w A0_0 l0_0.length l0_0) (hc0_0 : l0_0.length ≤ c0_0) (hr0_1 : Kd.C k90 w A0_1 l0_1.length l0_1) (hc0_1 : l0_1.length ≤ c0_1) (h : impl_ContextOrder.f l0_0 l0_1 = some (r1, r2)) :
    Calls Try.prog 47 #[.agg #[.slice A0_0 l0_0.length c0_0, .slice A0_1 l0_1.length c0_1]] w fun e w' => ∃ v0_ : Value, e = .returned (.tuple #[v0_, .bool r2]) ∧ Kd.R (Kd.int .i64) 3 w' w.heap.size (fun _ => True) v0_ r1 ∧ Below w.heap.size w w' := by
  have H := Option.some.inj h
  clear h
  have HR0 := Aside0.mk hr0_0
  have HR1 := Aside0.mk hr0_1
  have HC0 := Aside0.mk hc0_0
  have HC1 := Aside0.mk hc0_1
  clear hr0_0 hr0_1 hc0_0 hc0_1
  obtain ⟨wb, hwb⟩ : ∃ wb, (w).alloc (.cells #[.slice A0_0 l0_0.length c0_0, .slice A0_1 l0_1.length c0_1] 32 (0, 0)) = wb := ⟨_, rfl⟩
  have HBw := Aside0.mk (show Below w.heap.size w wb from by rw [← hwb]; repeat (first | exact Below.refl _ _ | apply below_alloc))
  have HWB := HBw
  have hhr : wb.heap[w.heap.size]? = some (.cells #[.slice A0_0 l0_0.length c0_0, .slice A0_1 l0_1.length c0_1] 32 (0, 0)) := by rw [← hwb]; have h := blk_new (w) (.cells #[.slice A0_0 l0_0.length c0_0, .slice A0_1 l0_1.length c0_1] 32 (0, 0)); rw [show (w).heap.size = w.heap.size from by rfl] at h; exact h
  have hb0 : wb.cell? ⟨w.heap.size, 0, none⟩ = some (.slice A0_0 l0_0.length c0_0) := (blk_cell hhr 0).trans rfl
  have hb1 : wb.cell? ⟨w.heap.size, 1, none⟩ = some (.slice A0_1 l0_1.length c0_1) := (blk_cell hhr 1).trans rfl
  have hbs : w.heap.size < wb.heap.size := blk_lt hhr
  have HW := Aside0.mk hwb
  clear hwb hhr
  obtain ⟨b, hb⟩ : ∃ b, goodB l0_0 l0_1 = b := ⟨_, rfl⟩
  rw [hb] at H
  have HGB := Aside0.mk hb
  cases b with
  | false =>
    clear hb
    injection H with H1 H2
    subst H1; subst H2
    go_enter Try.func47, Try.ntmps47
    go_upto_region 1 with (fail)
    try rw [HW.out]
    clear HW
    go_wp2_with (go_at_call 66; (refine (impl_readConsistent.bad _ _ l0_0 _ _ l0_1 _ (Kd.C_below HR0.out (by repeat (first | exact HBw.out | exact Below.refl _ _ | apply below_alloc | apply pw_below_drewN | apply below_drew1))) HC0.out (Kd.C_below HR1.out (by repeat (first | exact HBw.out | exact Below.refl _ _ | apply below_alloc | apply pw_below_drewN | apply below_drew1))) HC1.out HGB.out).mono ?_); rintro e w1 ⟨rfl, hb⟩; have HBw : Aside0 (Below w.heap.size w w1) := Aside0.mk (below_chain (w := w) (by repeat (first | exact HBw.out | exact Below.refl _ _ | apply below_alloc | apply pw_below_drewN | apply below_drew1)) hb); have hb0 := pw_cell_below hb hb0; clear hb)
    go_ret2
    exact ⟨_, rfl, Kd.R_nil _ _ _ _ _, (by repeat (first | exact HBw.out | exact Below.refl _ _ | apply below_alloc | apply pw_below_drewN | apply below_drew1))⟩
  | true =>
    have HG := Aside0.mk (goodB_parts hb)
    clear hb
    obtain ⟨b2, hb2⟩ : ∃ b, consB l0_0.length (lat l0_0 l0_1) = b := ⟨_, rfl⟩
    rw [hb2] at H
    have HCB := Aside0.mk hb2
    clear hb2
    cases b2 with
    | false =>
      injection H with H1 H2
      subst H1; subst H2
      go_enter Try.func47, Try.ntmps47
      go_upto_region 1 with (fail)
      try rw [HW.out]
      clear HW
      go_wp2_with (go_at_call 66; (refine (impl_readConsistent.calls _ _ l0_0 _ _ l0_1 _ (Kd.C_below HR0.out (by repeat (first | exact HBw.out | exact Below.refl _ _ | apply below_alloc | apply pw_below_drewN | apply below_drew1))) HC0.out (Kd.C_below HR1.out (by repeat (first | exact HBw.out | exact Below.refl _ _ | apply below_alloc | apply pw_below_drewN | apply below_drew1))) HC1.out HGB.out).mono ?_); rintro e w1 ⟨p, rfl, N1, N2, A, c, HO⟩; rw [HCB.out]; have hb := HO.below; have HBw : Aside0 (Below w.heap.size w w1) := Aside0.mk (below_chain (w := w) (by repeat (first | exact HBw.out | exact Below.refl _ _ | apply below_alloc | apply pw_below_drewN | apply below_drew1)) hb); have hb0 := pw_cell_below hb hb0; clear hb HO)
      go_ret2
      exact ⟨_, rfl, Kd.R_nil _ _ _ _ _, (by repeat (first | exact HBw.out | exact Below.refl _ _ | apply below_alloc | apply pw_below_drewN | apply below_drew1))⟩
    | true =>
      injection H with H1 H2
      subst H1; subst H2
      go_enter Try.func47, Try.ntmps47
      go_upto_region 1 with (fail)
      try rw [HW.out]
      clear HW
      go_upto_region 4 with (go_at_call 66; (refine (impl_readConsistent.calls _ _ l0_0 _ _ l0_1 _ (Kd.C_below HR0.out (by repeat (first | exact HBw.out | exact Below.refl _ _ | apply below_alloc | apply pw_below_drewN | apply below_drew1))) HC0.out (Kd.C_below HR1.out (by repeat (first | exact HBw.out | exact Below.refl _ _ | apply below_alloc | apply pw_below_drewN | apply below_drew1))) HC1.out HGB.out).mono ?_); rintro e w1 ⟨p, rfl, N1, N2, A, c, HO⟩; rw [HCB.out]; have hb := HO.below; have HBw : Aside0 (Below w.heap.size w w1) := Aside0.mk (below_chain (w := w) (by repeat (first | exact HBw.out | exact Below.refl _ _ | apply below_alloc | apply pw_below_drewN | apply below_drew1)) hb); have hb0 := pw_cell_below hb hb0; have HOA := Aside0.mk HO; clear hb HO)
      clear hb0
      generalize hM : lat l0_0 l0_1 = M at HOA ⊢
      have HM := Aside0.mk hM
      clear hM
      have g0 := HOA.out.c0
      have HCN := Aside0.mk (show Kd.C (Kd.int .i64) w1 A l0_0.length (nums l0_0) from by have h := (Kd.R_reads' HOA.out.ns).2.2; rw [nums_length] at h; exact h)
      have HN := Aside0.mk HG.out.1
      have HW1 := Aside0.mk HBw.out.size
      go_upto_region 5 with ((with_reducible refine gate_dst (N := 23) rfl ?_); refine Kd.R_make Kd.bool (w0 := w1) w1.heap.size 4 rfl (N := 23) rfl 78 (.tmp 22) (.tmp 22) rfl (l0_0.length : Int) rfl rfl Try.underlying78 (.bool false) 1 info4 rfl (by decide) (by omega) false (okp := fun _ => False) rfl (fun _ hk => hk.elim) (ok := fun _ => True) trivial (by omega) (by rw [Int.toNat_natCast]; have := HN.out; omega) (Below.refl _ _) (Nat.le_refl _) ?_; intro v0 w2 ho hb hg_ hnew_; clear hg_ hnew_; rw [Int.toNat_natCast] at ho; have HD := Aside0.mk ho; have HB := Aside0.mk hb; have g0 := pw_cell_below hb g0; clear ho hb)
      obtain ⟨D, d, hv0, hd, hC⟩ := Kd.R_reads HD.out
      rw [List.length_replicate] at hv0
      subst hv0
      clear hd hC
      have HD := Aside0.mk (show Kd.R Kd.bool 4 w2 w1.heap.size (fun _ => True) (.slice D l0_0.length d) (doneL l0_0.length []) from by rw [doneL_nil]; exact HD.out)
      go_upto_region 6 with ((with_reducible refine gate_dst (N := 24) rfl ?_); refine Kd.R_lit (Kd.int .i64) (w0 := w1) w1.heap.size 3 ?hg (N := 24) ?hd (xs := ([] : List Int)) (inner := []) (ok := fun _ => True) (okp := fun _ => True) ?hr ?hp (fun _ hk => hk) trivial HB.out HB.out.size (by simp) ?_; (case hd => rfl); (case hg => rfl); (case hr => first | (go_simp; done) | (go_simp; rfl)); (case hp => exact (Reps.none _ _)); intro v7 w3 ho hb hg_ hnew_; clear hnew_; have HR := Aside0.mk ho; have HB := Aside0.mk hb; have HD := Aside0.mk (Kd.R_grown HD.out hg_ (fun _ _ h => by cases h)); have g0 : w3.cell? ⟨p, 0, none⟩ = some (.slice A l0_0.length c) := (HB.out.cell (p := ⟨p, 0, none⟩) HOA.out.row.lt).trans HOA.out.c0; clear ho hb hg_)
      go_wp2
      clear g0
      go_loopg [7, 8, 9, 10, 30] l0_0.length (fun gg s7 _ _ _ s30 wr => ∃ r : Nat, r ≤ l0_0.length ∧ l0_0.length - r ≤ gg ∧ s30 = .int .i64 r ∧ Aside0 (Below w1.heap.size w1 wr) ∧ Aside0 (Kd.R Kd.bool 4 wr w1.heap.size (fun _ => True) (.slice D l0_0.length d) (doneL l0_0.length (ordL l0_0.length M r))) ∧ Aside0 (Kd.R (Kd.int .i64) 3 wr w1.heap.size (fun _ => True) s7 (numL l0_0 (ordL l0_0.length M r))))
      case atStart => exact ⟨0, Nat.zero_le _, by omega, rfl, HB, HD, HR⟩
      case round =>
        clear HR HB HD
        obtain ⟨r, hr, hgg, rfl, HB, HD, HR⟩ := hrel
        by_cases hrl : r < l0_0.length
        · have hrlz : (r : Int) < (l0_0.length : Int) := by omega
          have HSR := Aside0.mk (show ordL l0_0.length M (r + 1) = ordStep l0_0.length M (ordL l0_0.length M r) from rfl)
          have HLR := Aside0.mk (ordL_len l0_0.length M r)
          generalize ordL l0_0.length M r = l at HD HR HSR HLR
          have g0 := (HOA.out.step HB.out).c0
          go_wp2
          clear g0
          go_loopg [7, 8, 9, 10, 37] l0_0.length (fun gg s7 _ _ _ s37 wr => s7 = u7 ∧ ∃ i : Nat, i ≤ l0_0.length ∧ l0_0.length - i ≤ gg ∧ s37 = .int .i64 i ∧ Aside0 (Below w1.heap.size w1 wr) ∧ Aside0 (Kd.R Kd.bool 4 wr w1.heap.size (fun _ => True) (.slice D l0_0.length d) (doneL l0_0.length l)) ∧ Aside0 (Kd.R (Kd.int .i64) 3 wr w1.heap.size (fun _ => True) u7 (numL l0_0 l)) ∧ Aside0 (∀ j, j < i → curB M l j l0_0.length = false))
          case atStart => exact ⟨rfl, 0, Nat.zero_le _, by omega, rfl, HB, HD, HR, ⟨fun j hj => absurd hj (Nat.not_lt_zero _)⟩⟩
          case round =>
            clear HR HB HD
            obtain ⟨h7, i, hi, hgg2, rfl, HB, HD, HR, HA⟩ := hrel
            subst h7
            by_cases hil : i < l0_0.length
            · have hilz : (i : Int) < (l0_0.length : Int) := by omega
              have g0 := (HOA.out.step HB.out).c0
              obtain ⟨gd, capd, hvd, hcapd, hbased, hgltd, hokd⟩ := R_form HD.out (by rw [doneL_len]; omega)
              rw [doneL_len] at hvd
              injection hvd with hvd1 hvd2 hvd3
              subst hvd1; subst hvd3
              clear hvd2 hokd hcapd
              have HBD := Aside0.mk hbased
              have q0 := Kd.R_celln false HD.out (i : Int) (by omega) hilz
              rw [doneL_at l hil, Int.toNat_natCast] at q0
              obtain ⟨di, hdi⟩ : ∃ x, l.contains i = x := ⟨_, rfl⟩
              rw [hdi] at q0
              have HDI := Aside0.mk (show curB M l i 0 = !di from by unfold curB; rw [hdi]; simp)
              obtain ⟨q1, q2⟩ := q0
              clear hdi q2 hgltd hbased
              go_wp2
              clear q1 g0
              go_loopg [9, 10, 50] l0_0.length (fun gg s9 _ s50 wq => ∃ k : Nat, k ≤ l0_0.length ∧ l0_0.length - k ≤ gg ∧ s50 = .int .i64 k ∧ s9 = .bool (curB M l i k) ∧ Aside0 (wq = wr))
              case atStart => exact ⟨0, Nat.zero_le _, by omega, rfl, by rw [HDI.out], ⟨rfl⟩⟩
              case round =>
                obtain ⟨k, hk, hgg3, rfl, rfl, HWQ⟩ := hrel
                obtain rfl := HWQ.out
                by_cases hkl : k < l0_0.length
                · have hklz : (k : Int) < (l0_0.length : Int) := by omega
                  have q0 := Kd.R_celln false HD.out (k : Int) (by omega) hklz
                  rw [doneL_at l hkl, Int.toNat_natCast] at q0
                  have HN1 := curB_succ M l i k
                  obtain ⟨cb, hcb⟩ : ∃ x, curB M l i k = x := ⟨_, rfl⟩
                  obtain ⟨dk, hdk⟩ : ∃ x, l.contains k = x := ⟨_, rfl⟩
                  obtain ⟨mk, hmk⟩ : ∃ x, M k i = x := ⟨_, rfl⟩
                  have g1 := (HOA.out.step HB.out).c2
                  have g2 := (HOA.out.step HB.out).m2.topc hkl
                  have g3 := (HOA.out.step HB.out).m2.cell hkl hil
                  rw [hmk] at g3
                  rw [hdk] at q0
                  rw [hcb, hdk, hmk] at HN1
                  obtain ⟨q1, q2⟩ := q0
                  have HN2 := Aside0.mk HN1
                  rw [hcb]
                  clear HN1 hcb hdk hmk q2
                  cases cb <;> cases dk <;> cases mk
                  all_goals (go_wp2; go_roundg (l0_0.length - (k + 1)); (case measure => omega); (case rel => exact ⟨k + 1, by omega, by omega, by first | go_num | exact congrArg (Value.int .i64) (wrap_succ k (by have := HN.out; omega)), by rw [HN2.out]; rfl, ⟨rfl⟩⟩))
                · obtain rfl : k = l0_0.length := by omega
                  have hkz : ¬ ((l0_0.length : Int) < (l0_0.length : Int)) := by omega
                  have HNM := Aside0.mk (show (numL l0_0 l).length ≤ 10 from by have h1 := HLR.out; have h2 := HN.out; rw [numL, List.length_map]; omega)
                  cases hf : curB M l i l0_0.length with
                  | false =>
                    have HF := Aside0.mk hf
                    clear hf
                    go_wp2
                    go_roundg (l0_0.length - (i + 1))
                    case measure => omega
                    case rel => exact ⟨rfl, i + 1, by omega, by omega, by first | go_num | exact congrArg (Value.int .i64) (wrap_succ i (by have := HN.out; omega)), HB, HD, HR, ⟨fun j hj => by
                      by_cases e : j = i
                      · subst e; exact HF.out
                      · exact HA.out j (by omega)⟩⟩
                  | true =>
                    have HST := Aside0.mk (show ordL l0_0.length M (r + 1) = l ++ [i] from by rw [HSR.out]; exact ordStep_hit hil hf HA.out)
                    clear hf
                    have q0 := Kd.R_celln false HD.out (i : Int) (by omega) hilz
                    rw [Int.toNat_natCast] at q0
                    obtain ⟨q1, q2⟩ := q0
                    have q3 := Kd.R_putn HD.out (i : Int) true
                    rw [Int.toNat_natCast, doneL_set l hil] at q3
                    obtain ⟨cells, hcl⟩ := Kd.R_typed HD.out gd rfl
                    have q4 := Kd.R_set HR.out hcl (by decide) i (.bool true)
                    have q5 := below_set HB.out (g := gd) (j := i) (v := .bool true) HBD.out
                    have HD2 := Aside0.mk q3
                    have HR2 := Aside0.mk q4
                    have HB2 := Aside0.mk q5
                    clear q3 q4 q5 hcl
                    go_upto_region 19 with (fail)
                    clear q1 q2 HD HR HB
                    generalize wr.setCell ⟨gd, i, none⟩ (.bool true) = wz at HD2 HR2 HB2 ⊢
                    have g0 := (HOA.out.step HB2.out).c0
                    obtain ⟨ad, ea, hx⟩ := Kd.at_int HCN.out (i : Int) (by omega) hilz
                    cases ea
                    rw [rd_nums l0_0 i hil, Int.toNat_natCast] at hx
                    obtain ⟨y, hy⟩ : ∃ y, (l0_0.getD i z76).f0 = y := ⟨_, rfl⟩
                    rw [hy] at hx
                    have HY := Aside0.mk (show numL l0_0 (l ++ [i]) = numL l0_0 l ++ [y] from by rw [numL, List.map_append, List.map_cons, List.map_nil, hy]; rfl)
                    replace hx := (HB2.out.cell (World.block_lt_of_cell? w1 _ hx)).trans hx
                    clear hy
                    go_wp2_with ((with_reducible refine gate_builtin (b := .append) (xs := #[.tmp 78, .tmp 86]) rfl ?_); at_builtin; refine Kd.R_append (Kd.int .i64) (w0 := w1) w1.heap.size rfl (.tmp 78) (.tmp 86) 39 3 (.int .i64 0) 8 rfl Try.underlying39 info3 rfl (by decide) (by omega) u7 (numL l0_0 l) y [.int .i64 y] (fun _ => True) (fun _ => False) rfl rfl rfl (fun _ hk => hk.elim) (fun _ _ => trivial) ?aO ?aB ?aS ?aL ?_; (case aO => exact (by (with_reducible repeat (first | apply Kd.R_alloc | apply Kd.R_drewN | apply Kd.R_drew)); exact HR2.out)); (case aB => exact (by repeat (first | exact HB2.out | apply below_alloc | apply pw_below_drewN | apply below_drew1))); (case aS => exact below_size (by repeat (first | exact HB2.out | apply below_alloc | apply pw_below_drewN | apply below_drew1))); (case aL => have := HNM.out; omega); intro v1 w5 ho hb hg hat; have HB3 := Aside0.mk hb; have HR3 := Aside0.mk (show Kd.R (Kd.int .i64) 3 w5 w1.heap.size (fun _ => True) v1 (numL l0_0 (l ++ [i])) from by rw [HY.out]; exact ho); have HD3 := Aside0.mk (Kd.R_grown2 HD2.out rfl hg (rows_ne HR2.out HD2.out (by decide))); clear hx g0 ho hb hg hat)
                    go_roundg (l0_0.length - (r + 1))
                    case measure => omega
                    case rel => exact ⟨r + 1, by omega, by omega, by first | go_num | exact congrArg (Value.int .i64) (wrap_succ r (by have := HN.out; omega)), HB3, by rw [HST.out]; exact HD3, by rw [HST.out]; exact HR3⟩
            · obtain rfl : i = l0_0.length := by omega
              have hkz : ¬ ((l0_0.length : Int) < (l0_0.length : Int)) := by omega
              have HST := Aside0.mk (show ordL l0_0.length M (r + 1) = l from by rw [HSR.out]; exact ordStep_miss HA.out)
              go_wp2
              go_roundg (l0_0.length - (r + 1))
              case measure => omega
              case rel => exact ⟨r + 1, by omega, by omega, by first | go_num | exact congrArg (Value.int .i64) (wrap_succ r (by have := HN.out; omega)), HB, by rw [HST.out]; exact HD, by rw [HST.out]; exact HR⟩
        · obtain rfl : r = l0_0.length := by omega
          have hkz : ¬ ((l0_0.length : Int) < (l0_0.length : Int)) := by omega
          go_wp2
          go_ret2
          exact ⟨_, rfl, by rw [HM.out]; exact Kd.R_lower HR.out HW1.out, below_chain HBw.out HB.out⟩

end Go.Proofs.Ytdpehkfjhfjobaa.Q
