-- Written by a program of this session (wip/xprint.py over the kit's printer).
import Derived.Test.YtenphfagdpkjaaaQ0
import Derived.Test.YtenphfagdpkjaaaQF100
import Derived.Test.YtenphfagdpkjaaaQF16
import Derived.Test.YtenphfagdpkjaaaQF47
import Derived.Test.YtenphfagdpkjaaaQF51
import Derived.Test.YtenphfagdpkjaaaQF67
import Derived.Test.YtenphfagdpkjaaaQF83
import Derived.Test.YtenphfagdpkjaaaQF99
import Derived.Test.YtenphfagdpkjaaaQP
namespace Go.Proofs.Ytenphfagdpkjaaa.Q
open Go.RowKit Go.Proofs.YtenphfagdpkjaaaW.PrintWords Go.Proofs.YtenphfagdpkjaaaW.PrintLast
set_option linter.unusedVariables false
set_option linter.unusedSimpArgs false

/-! ### impl_OrderPhases: function 33 -/
def curB (M : Nat → Nat → Bool) (l : List Nat) (i k : Nat) : Bool := !(l.contains i) && (List.range k).all fun j => l.contains j || !(M j i)
theorem curB_succ (M : Nat → Nat → Bool) (l : List Nat) (i k : Nat) : curB M l i (k + 1) = (curB M l i k && (l.contains k || !(M k i))) := by
  unfold curB
  rw [List.range_succ, List.all_append, ← Bool.and_assoc]
  simp
def ordStep (n : Nat) (M : Nat → Nat → Bool) (l : List Nat) : List Nat :=
  match (List.range n).find? (fun i => curB M l i n) with
  | some i => l ++ [i]
  | none => l
theorem ordStep_hit {n i : Nat} {M : Nat → Nat → Bool} {l : List Nat} (hi : i < n) (h : curB M l i n = true) (hb : ∀ j, j < i → curB M l j n = false) : ordStep n M l = l ++ [i] := by
  unfold ordStep
  have : (List.range n).find? (fun i => curB M l i n) = some i := by
    rw [List.find?_eq_some_iff_getElem]
    refine ⟨h, i, by simpa using hi, by simp, fun j hj => ?_⟩
    simp [hb j hj]
  rw [this]
theorem ordStep_miss {n : Nat} {M : Nat → Nat → Bool} {l : List Nat} (h : ∀ j, j < n → curB M l j n = false) : ordStep n M l = l := by
  unfold ordStep
  have : (List.range n).find? (fun i => curB M l i n) = none := by
    rw [List.find?_eq_none]
    intro j hj
    simp [h j (List.mem_range.1 hj)]
  rw [this]
def ordL (n : Nat) (M : Nat → Nat → Bool) : Nat → List Nat
  | 0 => []
  | m + 1 => ordStep n M (ordL n M m)
theorem ordStep_len (n : Nat) (M : Nat → Nat → Bool) (l : List Nat) : (ordStep n M l).length ≤ l.length + 1 := by
  unfold ordStep
  split <;> simp
theorem ordL_len (n : Nat) (M : Nat → Nat → Bool) (m : Nat) : (ordL n M m).length ≤ m := by
  induction m with
  | zero => simp [ordL]
  | succ m ih =>
    have := ordStep_len n M (ordL n M m)
    show (ordStep n M (ordL n M m)).length ≤ m + 1
    omega
def doneL (n : Nat) (l : List Nat) : List Bool := (List.range n).map fun i => l.contains i
theorem doneL_len (n : Nat) (l : List Nat) : (doneL n l).length = n := by simp [doneL]
theorem doneL_at {n i : Nat} (l : List Nat) (h : i < n) : rdOf false (doneL n l) (i : Int) = l.contains i := by
  simp [rdOf, doneL, List.getD_eq_getElem?_getD, h]
theorem doneL_set {n i : Nat} (l : List Nat) (_ : i < n) : (doneL n l).set i true = doneL n (l ++ [i]) := by
  apply List.ext_getElem (by simp [doneL])
  intro j h1 h2
  simp only [doneL, List.getElem_set, List.getElem_map, List.getElem_range]
  by_cases e : i = j
  · subst e; simp
  · have e2 : ¬ j = i := fun h => e h.symm
    simp [e, e2]
theorem doneL_nil (n : Nat) : doneL n [] = List.replicate n false := by
  apply List.ext_getElem (by simp [doneL])
  intro j h1 h2
  simp [doneL]
theorem ordL_stop {n : Nat} {M : Nat → Nat → Bool} {r : Nat} (h : ordL n M (r + 1) = ordL n M r) : ∀ d, ordL n M (r + d) = ordL n M r
  | 0 => rfl
  | d + 1 => by
    show ordStep n M (ordL n M (r + d)) = _
    rw [ordL_stop h d]
    exact h
/-- The first place from i on that p holds of, or -1. -/
def nxD (p : Nat → Bool) (i : Nat) : Nat → Int
  | 0 => -1
  | d + 1 => if p i then (i : Int) else nxD p (i + 1) d
theorem nxD_range (p : Nat → Bool) : ∀ d i, (nxD p i d = -1 ∧ ∀ j, i ≤ j → j < i + d → p j = false) ∨ ∃ q : Nat, nxD p i d = (q : Int) ∧ i ≤ q ∧ q < i + d ∧ p q = true ∧ ∀ j, i ≤ j → j < q → p j = false
  | 0, i => .inl ⟨rfl, fun j h1 h2 => by omega⟩
  | d + 1, i => by
    rw [nxD]
    cases h : p i with
    | true => exact .inr ⟨i, by rw [if_pos rfl], Nat.le_refl _, by omega, h, fun j h1 h2 => by omega⟩
    | false =>
      rw [if_neg (by simp)]
      rcases nxD_range p d (i + 1) with ⟨h1, h2⟩ | ⟨q, h1, h2, h3, h4, h5⟩
      · exact .inl ⟨h1, fun j h3 h4 => by
          by_cases e : j = i
          · subst e; exact h
          · exact h2 j (by omega) (by omega)⟩
      · exact .inr ⟨q, h1, by omega, by omega, h4, fun j h6 h7 => by
          by_cases e : j = i
          · subst e; exact h
          · exact h5 j (by omega) h7⟩
def natL (l : List Nat) : List Int := l.map fun (i : Nat) => (i : Int)
def ordR (m : Nat) (T : Nat → Nat → Bool) : List Int × Bool := if (ordL m T m).length = m then (natL (ordL m T m), true) else ([], false)
def impl_OrderPhases.f (l0_0 : List S77) (l0_1 : List S91) (l1 : List S64) : Option (List Int × Bool) := if smallP l1 then some (if validG l0_0 l0_1 l1 then ordR l1.length (lpM l0_0 l1 (lat l0_0 l0_1)) else ([], false)) else none
set_option maxHeartbeats 8000000 in
set_option maxRecDepth 100000 in
theorem impl_OrderPhases.calls (A0_0 : Option Addr) (c0_0 : Nat) (l0_0 : List S77) (A0_1 : Option Addr) (c0_1 : Nat) (l0_1 : List S91) (A1 : Option Addr) (c1 : Nat) (l1 : List S64) (r1 : List Int) (r2 : Bool) (w : World) (hr0_0 : Kd.C k77 w A0_0 l0_0.length l0_0) (hc0_0 : l0_0.length ≤ c0_0) (hr0_1 : Kd.C k91 w A0_1 l0_1.length l0_1) (hc0_1 : l0_1.length ≤ c0_1) (hr1 : Kd.C k64 w A1 l1.length l1) (hc1 : l1.length ≤ c1) (h : impl_OrderPhases.f l0_0 l0_1 l1 = some (r1, r2)) :
    Calls Try.prog 33 #[.agg #[.slice A0_0 l0_0.length c0_0, .slice A0_1 l0_1.length c0_1], .slice A1 l1.length c1] w fun e w' => ∃ v0_ : Value, e = .returned (.tuple #[v0_, .bool r2]) ∧ Kd.R (Kd.int .i64) 3 w' w.heap.size (fun _ => True) v0_ r1 ∧ Below w.heap.size w w' := by
  have hs : smallP l1 = true := by
    unfold impl_OrderPhases.f at h
    by_cases hs : smallP l1 = true
    · exact hs
    · rw [if_neg hs] at h; cases h
  unfold impl_OrderPhases.f at h
  rw [if_pos hs] at h
  have HSM := Aside0.mk hs
  have HP1 := Aside0.mk hr1
  have HPC := Aside0.mk hc1
  have H := Option.some.inj h
  clear hs hr1 hc1 h
  have HR0 := Aside0.mk hr0_0
  have HR1 := Aside0.mk hr0_1
  have HC0 := Aside0.mk hc0_0
  have HC1 := Aside0.mk hc0_1
  clear hr0_0 hr0_1 hc0_0 hc0_1
  obtain ⟨wb, hwb⟩ : ∃ wb, (w).alloc (.cells #[.slice A0_0 l0_0.length c0_0, .slice A0_1 l0_1.length c0_1] 33 (0, 0)) = wb := ⟨_, rfl⟩
  have HBw := Aside0.mk (show Below w.heap.size w wb from by rw [← hwb]; repeat (first | exact Below.refl _ _ | apply below_alloc))
  have HWB := HBw
  have hhr : wb.heap[w.heap.size]? = some (.cells #[.slice A0_0 l0_0.length c0_0, .slice A0_1 l0_1.length c0_1] 33 (0, 0)) := by rw [← hwb]; have h := blk_new (w) (.cells #[.slice A0_0 l0_0.length c0_0, .slice A0_1 l0_1.length c0_1] 33 (0, 0)); rw [show (w).heap.size = w.heap.size from by rfl] at h; exact h
  have hb0 : wb.cell? ⟨w.heap.size, 0, none⟩ = some (.slice A0_0 l0_0.length c0_0) := (blk_cell hhr 0).trans rfl
  have hb1 : wb.cell? ⟨w.heap.size, 1, none⟩ = some (.slice A0_1 l0_1.length c0_1) := (blk_cell hhr 1).trans rfl
  have hbs : w.heap.size < wb.heap.size := blk_lt hhr
  have HW := Aside0.mk hwb
  clear hwb hhr
  obtain ⟨b, hb⟩ : ∃ b, goodB l0_0 l0_1 = b := ⟨_, rfl⟩
  have HGB := Aside0.mk hb
  unfold validG at H
  rw [hb] at H
  cases b with
  | false =>
    clear hb
    injection H with H1 H2
    subst H1; subst H2
    go_enter Try.func33, Try.ntmps33
    go_upto_region 1 with (fail)
    try rw [HW.out]
    clear HW
    go_wp2_with (go_at_call 47; (refine (impl_readGrouping.bad _ _ l0_0 _ _ l0_1 _ _ l1 _ (Kd.C_below HR0.out (by repeat (first | exact HBw.out | exact Below.refl _ _ | apply below_alloc | apply pw_below_drewN | apply below_drew1))) HC0.out (Kd.C_below HR1.out (by repeat (first | exact HBw.out | exact Below.refl _ _ | apply below_alloc | apply pw_below_drewN | apply below_drew1))) HC1.out (Kd.C_below HP1.out (by repeat (first | exact HBw.out | exact Below.refl _ _ | apply below_alloc | apply pw_below_drewN | apply below_drew1))) HPC.out HGB.out).mono ?_); rintro e w1 ⟨rfl, hb⟩; have HBw : Aside0 (Below w.heap.size w w1) := Aside0.mk (below_chain (w := w) (by repeat (first | exact HBw.out | exact Below.refl _ _ | apply below_alloc | apply pw_below_drewN | apply below_drew1)) hb); have hb0 := pw_cell_below hb hb0; clear hb)
    go_ret2
    exact ⟨_, rfl, Kd.R_nil _ _ _ _ _, (by repeat (first | exact HBw.out | exact Below.refl _ _ | apply below_alloc | apply pw_below_drewN | apply below_drew1))⟩
  | true =>
    have HG := Aside0.mk (goodB_parts hb)
    clear hb
    obtain ⟨b2, hb2⟩ : ∃ b, (consB l0_0.length (lat l0_0 l0_1) && grpB l0_0 l1) = b := ⟨_, rfl⟩
    rw [hb2] at H
    have HCB := Aside0.mk hb2
    clear hb2
    cases b2 with
    | false =>
      injection H with H1 H2
      subst H1; subst H2
      go_enter Try.func33, Try.ntmps33
      go_upto_region 1 with (fail)
      try rw [HW.out]
      clear HW
      go_wp2_with (go_at_call 47; (refine (impl_readGrouping.calls _ _ l0_0 _ _ l0_1 _ _ l1 _ (Kd.C_below HR0.out (by repeat (first | exact HBw.out | exact Below.refl _ _ | apply below_alloc | apply pw_below_drewN | apply below_drew1))) HC0.out (Kd.C_below HR1.out (by repeat (first | exact HBw.out | exact Below.refl _ _ | apply below_alloc | apply pw_below_drewN | apply below_drew1))) HC1.out (Kd.C_below HP1.out (by repeat (first | exact HBw.out | exact Below.refl _ _ | apply below_alloc | apply pw_below_drewN | apply below_drew1))) HPC.out HGB.out HSM.out).mono ?_); rintro e w1 ⟨p, rfl, N1, N2, A, c, HO⟩; rw [HCB.out]; have hb := HO.below; have HBw : Aside0 (Below w.heap.size w w1) := Aside0.mk (below_chain (w := w) (by repeat (first | exact HBw.out | exact Below.refl _ _ | apply below_alloc | apply pw_below_drewN | apply below_drew1)) hb); have hb0 := pw_cell_below hb hb0; clear hb HO)
      go_ret2
      exact ⟨_, rfl, Kd.R_nil _ _ _ _ _, (by repeat (first | exact HBw.out | exact Below.refl _ _ | apply below_alloc | apply pw_below_drewN | apply below_drew1))⟩
    | true =>
      have HN := Aside0.mk HG.out.1
      have hl6 : l1.length ≤ 6 := by
        have h1 : grpB l0_0 l1 = true := (Bool.and_eq_true _ _ ▸ HCB.out : _ ∧ _).2
        unfold grpB at h1
        rw [Bool.and_eq_true] at h1
        exact of_decide_eq_true h1.2
      have HRES := Aside0.mk (show ordR l1.length (lpM l0_0 l1 (lat l0_0 l0_1)) = (r1, r2) from H)
      clear H
      go_enter Try.func33, Try.ntmps33
      go_upto_region 1 with (fail)
      try rw [HW.out]
      clear HW
      go_upto_region 4 with (go_at_call 47; (refine (impl_readGrouping.calls _ _ l0_0 _ _ l0_1 _ _ l1 _ (Kd.C_below HR0.out (by repeat (first | exact HBw.out | exact Below.refl _ _ | apply below_alloc | apply pw_below_drewN | apply below_drew1))) HC0.out (Kd.C_below HR1.out (by repeat (first | exact HBw.out | exact Below.refl _ _ | apply below_alloc | apply pw_below_drewN | apply below_drew1))) HC1.out (Kd.C_below HP1.out (by repeat (first | exact HBw.out | exact Below.refl _ _ | apply below_alloc | apply pw_below_drewN | apply below_drew1))) HPC.out HGB.out HSM.out).mono ?_); rintro e w1 ⟨p, rfl, N1, N2, A, c, HO⟩; rw [HCB.out]; have hb := HO.below; have HBw : Aside0 (Below w.heap.size w w1) := Aside0.mk (below_chain (w := w) (by repeat (first | exact HBw.out | exact Below.refl _ _ | apply below_alloc | apply pw_below_drewN | apply below_drew1)) hb); have hb0 := pw_cell_below hb hb0; have HOA := Aside0.mk HO; clear hb HO)
      clear hb0
      have HL6 := Aside0.mk hl6
      go_upto_region 5 with (go_at_call 67; (refine (impl_laterPhases.calls _ p N1 N2 A c l0_0 _ _ _ _ l1 _ HOA.out HN.out (Kd.C_below HP1.out HBw.out) HPC.out HL6.out).mono ?_); rintro e w2 ⟨N, rfl, _, hMt, hb⟩; have HMT := Aside0.mk hMt; have HBw := Aside0.mk (below_chain HBw.out hb); clear hMt hb)
      clear HOA
      obtain ⟨T, hT⟩ : ∃ T, lpM l0_0 l1 (lat l0_0 l0_1) = T := ⟨_, rfl⟩
      rw [hT] at HMT HRES
      obtain ⟨m, hm⟩ : ∃ m, l1.length = m := ⟨_, rfl⟩
      rw [hm] at HMT HRES HL6 hl6 ⊢
      clear hT hm HP1 HPC
      have HW2 := Aside0.mk HBw.out.size
      have HNL := Aside0.mk HMT.out.lt
      go_upto_region 6 with ((with_reducible refine gate_dst (N := 28) rfl ?_); refine Kd.R_make Kd.bool (w0 := w2) w2.heap.size 4 rfl (N := 28) rfl 78 (.tmp 27) (.tmp 27) rfl (m : Int) rfl rfl Try.underlying78 (.bool false) 1 info4 rfl (by decide) (by omega) false (okp := fun _ => False) rfl (fun _ hk => hk.elim) (ok := fun _ => True) trivial (by omega) (by rw [Int.toNat_natCast]; have := HL6.out; omega) (Below.refl _ _) (Nat.le_refl _) ?_; intro v0 w3 ho hb hg_ hnew_; clear hg_ hnew_; rw [Int.toNat_natCast] at ho; have HD := Aside0.mk ho; have HB := Aside0.mk hb; clear ho hb)
      obtain ⟨D, d, hv0, hd, hC⟩ := Kd.R_reads HD.out
      rw [List.length_replicate] at hv0
      subst hv0
      clear hd hC
      have HD := Aside0.mk (show Kd.R Kd.bool 4 w3 w2.heap.size (fun _ => True) (.slice D m d) (doneL m []) from by rw [doneL_nil]; exact HD.out)
      go_upto_region 7 with ((with_reducible refine gate_dst (N := 29) rfl ?_); refine Kd.R_lit (Kd.int .i64) (w0 := w2) w2.heap.size 3 ?hg (N := 29) ?hd (xs := ([] : List Int)) (inner := []) (ok := fun _ => True) (okp := fun _ => True) ?hr ?hp (fun _ hk => hk) trivial HB.out HB.out.size (by simp) ?_; (case hd => rfl); (case hg => rfl); (case hr => first | (go_simp; done) | (go_simp; rfl)); (case hp => exact (Reps.none _ _)); intro v7 w4 ho hb hg_ hnew_; clear hnew_; have HR := Aside0.mk ho; have HB := Aside0.mk hb; have HD := Aside0.mk (Kd.R_grown HD.out hg_ (fun _ _ h => by cases h)); clear ho hb hg_)
      go_wp2
      go_loopg [10, 11, 12, 13, 14, 32] m (fun gg s10 _ _ _ _ s32 wr => ∃ r : Nat, r ≤ m ∧ m - r ≤ gg ∧ s32 = .int .i64 r ∧ Aside0 ((ordL m T r).length = r) ∧ Aside0 (Below w2.heap.size w2 wr) ∧ Aside0 (Kd.R Kd.bool 4 wr w2.heap.size (fun _ => True) (.slice D m d) (doneL m (ordL m T r))) ∧ Aside0 (Kd.R (Kd.int .i64) 3 wr w2.heap.size (fun _ => True) s10 (natL (ordL m T r))))
      case atStart => exact ⟨0, Nat.zero_le _, by omega, rfl, ⟨rfl⟩, HB, HD, ⟨HR.out⟩⟩
      case round =>
        clear HR HB HD
        obtain ⟨r, hr, hgg, rfl, HLR, HB, HD, HR⟩ := hrel
        by_cases hrl : r < m
        · have hrlz : (r : Int) < (m : Int) := by omega
          have HSR := Aside0.mk (show ordL m T (r + 1) = ordStep m T (ordL m T r) from rfl)
          have HSP := Aside0.mk (fun (h : ordL m T (r + 1) = ordL m T r) => show ordL m T m = ordL m T r from by have := ordL_stop h (m - r); rwa [show r + (m - r) = m by omega] at this)
          generalize ordL m T r = l at HD HR HSR HLR HSP
          have hwm : wrap64 ((m : Int) - 1) = (m : Int) - 1 := by unfold wrap64; omega
          go_upto_region 11 with (fail)
          clear hwm
          go_loopg [11, 12, 13, 14] m (fun gg s11 s12 _ _ wq => ∃ (e : Nat) (x : Int), e ≤ m ∧ e ≤ gg ∧ x + 1 = (e : Int) ∧ s12 = .int .i64 x ∧ s11 = .int .i64 (nxD (fun i => curB T l i m) e (m - e)) ∧ Aside0 (wq = wr))
          case atStart => exact ⟨m, (m : Int) - 1, Nat.le_refl _, Nat.le_refl _, by omega, rfl, by rw [Nat.sub_self]; rfl, ⟨rfl⟩⟩
          case round =>
            obtain ⟨e, x, he, hgg2, hx, rfl, rfl, HWQ⟩ := hrel
            obtain rfl := HWQ.out
            by_cases he0 : 0 < e
            · obtain ⟨i, rfl⟩ : ∃ i, e = i + 1 := ⟨e - 1, by omega⟩
              obtain rfl : x = (i : Int) := by omega
              clear hx
              have hil : i < m := by omega
              have hilz : (i : Int) < (m : Int) := by omega
              have hi0 : (0 : Int) ≤ (i : Int) := by omega
              obtain ⟨gd, capd, hvd, hcapd, hbased, hgltd, hokd⟩ := R_form HD.out (by rw [doneL_len]; omega)
              rw [doneL_len] at hvd
              injection hvd with hvd1 hvd2 hvd3
              subst hvd1; subst hvd3
              clear hvd2 hokd hcapd hbased hgltd
              have q0 := Kd.R_celln false HD.out (i : Int) (by omega) hilz
              rw [doneL_at l hil, Int.toNat_natCast] at q0
              obtain ⟨di, hdi⟩ : ∃ x, l.contains i = x := ⟨_, rfl⟩
              rw [hdi] at q0
              have HDI := Aside0.mk (show curB T l i 0 = !di from by unfold curB; rw [hdi]; simp)
              obtain ⟨q1, q2⟩ := q0
              obtain ⟨nx, hnx⟩ : ∃ x, nxD (fun i => curB T l i m) (i + 1) (m - (i + 1)) = x := ⟨_, rfl⟩
              have HNX := Aside0.mk hnx
              rw [hnx]
              clear hdi q2 hnx
              go_upto_region 15 with (fail)
              clear q1
              go_loopg [13, 14, 48] m (fun gg s13 _ s48 wz => ∃ k : Nat, k ≤ m ∧ m - k ≤ gg ∧ s48 = .int .i64 k ∧ s13 = .bool (curB T l i k) ∧ Aside0 (wz = wr))
              case atStart => exact ⟨0, Nat.zero_le _, by omega, rfl, by rw [HDI.out], ⟨rfl⟩⟩
              case round =>
                obtain ⟨k, hk, hgg3, rfl, rfl, HWZ⟩ := hrel
                obtain rfl := HWZ.out
                by_cases hkl : k < m
                · have hklz : (k : Int) < (m : Int) := by omega
                  have q0 := Kd.R_celln false HD.out (k : Int) (by omega) hklz
                  rw [doneL_at l hkl, Int.toNat_natCast] at q0
                  have HN1 := curB_succ T l i k
                  obtain ⟨cb, hcb⟩ : ∃ x, curB T l i k = x := ⟨_, rfl⟩
                  obtain ⟨dk, hdk⟩ : ∃ x, l.contains k = x := ⟨_, rfl⟩
                  obtain ⟨mk, hmk⟩ : ∃ x, T k i = x := ⟨_, rfl⟩
                  have HMr := Aside0.mk (HMT.out.below HB.out HNL.out)
                  have g2 := HMr.out.topc hkl
                  have g3 := HMr.out.cell hkl hil
                  rw [hmk] at g3
                  rw [hdk] at q0
                  rw [hcb, hdk, hmk] at HN1
                  obtain ⟨q1, q2⟩ := q0
                  have HN2 := Aside0.mk HN1
                  rw [hcb]
                  clear HN1 hcb hdk hmk q2
                  cases cb <;> cases dk <;> cases mk
                  all_goals (go_wp2; go_roundg (m - (k + 1)); (case measure => omega); (case rel => exact ⟨k + 1, by omega, by omega, by first | go_num | exact congrArg (Value.int .i64) (wrap_succ k (by have := HL6.out; omega)), by rw [HN2.out]; rfl, ⟨rfl⟩⟩))
                · obtain rfl : k = m := by omega
                  have hkz : ¬ ((k : Int) < (k : Int)) := by omega
                  have hwi : wrap64 ((i : Int) - 1) = (i : Int) - 1 := by unfold wrap64; omega
                  cases hf : curB T l i k with
                  | false =>
                    have HF := Aside0.mk hf
                    clear hf
                    go_wp2
                    clear hwi
                    go_roundg i
                    case measure => omega
                    case rel => exact ⟨i, (i : Int) - 1, by omega, by omega, by omega, rfl, by rw [show k - i = (k - (i + 1)) + 1 by omega, nxD, HF.out, if_neg (by simp), HNX.out], ⟨rfl⟩⟩
                  | true =>
                    have HF := Aside0.mk hf
                    clear hf
                    go_wp2
                    clear hwi
                    go_roundg i
                    case measure => omega
                    case rel => exact ⟨i, (i : Int) - 1, by omega, by omega, by omega, rfl, by rw [show k - i = (k - (i + 1)) + 1 by omega, nxD, HF.out, if_pos rfl], ⟨rfl⟩⟩
            · obtain rfl : e = 0 := by omega
              obtain rfl : x = -1 := by omega
              clear hx
              rw [Nat.sub_zero]
              have hxr := nxD_range (fun i => curB T l i m) m 0
              obtain ⟨nx, hnx⟩ : ∃ x, nxD (fun i => curB T l i m) 0 m = x := ⟨_, rfl⟩
              rw [hnx] at hxr ⊢
              clear hnx
              rcases hxr with ⟨h1, h2⟩ | ⟨q, h1, h2, h3, h4, h5⟩
              · subst h1
                have HST := Aside0.mk (show ordL m T (r + 1) = l from by rw [HSR.out]; exact ordStep_miss (fun j hj => h2 j (by omega) (by omega)))
                have hfin : ordR m T = ([], false) := by unfold ordR; rw [HSP.out HST.out, HLR.out, if_neg (by omega)]
                have H := HRES.out
                rw [hfin] at H
                injection H with H1 H2
                subst H1; subst H2
                clear hfin h2
                go_wp2
                go_ret2
                exact ⟨_, rfl, Kd.R_nil _ _ _ _ _, below_chain HBw.out HB.out⟩
              · subst h1
                have hqm : q < m := by omega
                have hqz : (q : Int) < (m : Int) := by omega
                have hq0 : ¬ ((q : Int) < 0) := by omega
                have HST := Aside0.mk (show ordL m T (r + 1) = l ++ [q] from by rw [HSR.out]; exact ordStep_hit hqm h4 (fun j hj => h5 j (by omega) hj))
                obtain ⟨gd, capd, hvd, hcapd, hbased, hgltd, hokd⟩ := R_form HD.out (by rw [doneL_len]; omega)
                rw [doneL_len] at hvd
                injection hvd with hvd1 hvd2 hvd3
                subst hvd1; subst hvd3
                clear hvd2 hokd hcapd hgltd h2 h3 h4 h5
                have q0 := Kd.R_celln false HD.out (q : Int) (by omega) hqz
                rw [Int.toNat_natCast] at q0
                obtain ⟨q1, q2⟩ := q0
                have q3 := Kd.R_putn HD.out (q : Int) true
                rw [Int.toNat_natCast, doneL_set l hqm] at q3
                obtain ⟨cells, hcl⟩ := Kd.R_typed HD.out gd rfl
                have q4 := Kd.R_set HR.out hcl (by decide) q (.bool true)
                have q5 := below_set HB.out (g := gd) (j := q) (v := .bool true) hbased
                have HD2 := Aside0.mk q3
                have HR2 := Aside0.mk q4
                have HB2 := Aside0.mk q5
                have HNM := Aside0.mk (show (natL l).length ≤ 6 from by have h1 := HLR.out; have h2 := HL6.out; rw [natL, List.length_map]; omega)
                have HY := Aside0.mk (show natL (l ++ [q]) = natL l ++ [(q : Int)] from by rw [natL, List.map_append]; rfl)
                clear q3 q4 q5 hcl hbased
                go_upto_region 24 with (fail)
                clear q1 q2 HD HR HB
                generalize wr.setCell ⟨gd, q, none⟩ (.bool true) = wz at HD2 HR2 HB2 ⊢
                go_wp2_with ((with_reducible refine gate_builtin (b := .append) (xs := #[.tmp 76, .tmp 78]) rfl ?_); at_builtin; refine Kd.R_append (Kd.int .i64) (w0 := w2) w2.heap.size rfl (.tmp 76) (.tmp 78) 45 3 (.int .i64 0) 8 rfl Try.underlying45 info3 rfl (by decide) (by omega) u10 (natL l) (q : Int) [.int .i64 q] (fun _ => True) (fun _ => False) rfl rfl rfl (fun _ hk => hk.elim) (fun _ _ => trivial) ?aO ?aB ?aS ?aL ?_; (case aO => exact (by (with_reducible repeat (first | apply Kd.R_alloc | apply Kd.R_drewN | apply Kd.R_drew)); exact HR2.out)); (case aB => exact (by repeat (first | exact HB2.out | apply below_alloc | apply pw_below_drewN | apply below_drew1))); (case aS => exact below_size (by repeat (first | exact HB2.out | apply below_alloc | apply pw_below_drewN | apply below_drew1))); (case aL => have := HNM.out; omega); intro v1 w5 ho hb hg hat; have HB3 := Aside0.mk hb; have HR3 := Aside0.mk ho; have HD3 := Aside0.mk (Kd.R_grown2 HD2.out rfl hg (rows_ne HR2.out HD2.out (by decide))); clear ho hb hg hat)
                rw [← HY.out] at HR3
                go_roundg (m - (r + 1))
                case measure => omega
                case rel => exact ⟨r + 1, by omega, by omega, by first | go_num | exact congrArg (Value.int .i64) (wrap_succ r (by have := HL6.out; omega)), ⟨by rw [HST.out, List.length_append, HLR.out]; rfl⟩, HB3, by rw [HST.out]; exact HD3, by rw [HST.out]; exact HR3⟩
        · obtain rfl : r = m := by omega
          have hkz : ¬ ((r : Int) < (r : Int)) := by omega
          have hfin : ordR r T = (natL (ordL r T r), true) := by unfold ordR; rw [if_pos HLR.out]
          have H := HRES.out
          rw [hfin] at H
          injection H with H1 H2
          subst H1; subst H2
          clear hfin
          go_wp2
          go_ret2
          exact ⟨_, rfl, Kd.R_lower HR.out HW2.out, below_chain HBw.out HB.out⟩

end Go.Proofs.Ytenphfagdpkjaaa.Q
