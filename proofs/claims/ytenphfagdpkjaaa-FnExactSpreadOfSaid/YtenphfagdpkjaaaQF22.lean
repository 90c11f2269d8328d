-- Written by a program of this session (wip/xprint.py over the kit's printer).
import Derived.Test.YtenphfagdpkjaaaQ0
import Derived.Test.YtenphfagdpkjaaaQF100
import Derived.Test.YtenphfagdpkjaaaQF16
import Derived.Test.YtenphfagdpkjaaaQF47
import Derived.Test.YtenphfagdpkjaaaQF51
import Derived.Test.YtenphfagdpkjaaaQF53
import Derived.Test.YtenphfagdpkjaaaQF83
import Derived.Test.YtenphfagdpkjaaaQF90
import Derived.Test.YtenphfagdpkjaaaQF99
import Derived.Test.YtenphfagdpkjaaaQP
import Derived.Test.YtenphfagdpkjaaaQV0
namespace Go.Proofs.Ytenphfagdpkjaaa.Q
open Go.RowKit Go.Proofs.YtenphfagdpkjaaaW.PrintWords Go.Proofs.YtenphfagdpkjaaaW.PrintLast
set_option linter.unusedVariables false
set_option linter.unusedSimpArgs false

/-! ### impl_SpreadOf: function 22 -/
def spRow (q : Nat → Bool) : Nat → Nat
  | 0 => 0
  | k + 1 => spRow q k + if q k then 1 else 0
def spAll (q : Nat → Nat → Bool) (m : Nat) : Nat → Nat
  | 0 => 0
  | j + 1 => spAll q m j + spRow (q j) m
theorem spRow_le (q : Nat → Bool) : ∀ k, spRow q k ≤ k
  | 0 => Nat.le_refl _
  | k + 1 => by have := spRow_le q k; rw [spRow]; split <;> omega
theorem spAll_le (q : Nat → Nat → Bool) (m : Nat) : ∀ j, spAll q m j ≤ j * m
  | 0 => by simp [spAll]
  | j + 1 => by have := spAll_le q m j; have := spRow_le (q j) m; rw [spAll, Nat.succ_mul]; omega
def spAt (cs : List S77) (M : Nat → Nat → Bool) (ms : List Int) (j k : Nat) : Bool := M (find cs (ms.getD j 0)).toNat (find cs (ms.getD k 0)).toNat
def spCount (cs : List S77) (M : Nat → Nat → Bool) (ms : List Int) : Nat := spAll (spAt cs M ms) ms.length ms.length
def impl_SpreadOf.f (l0_0 : List S77) (l0_1 : List S91) (l1 : List S64) (a2 : Int) : Option (Int × Bool) := if smallP l1 ∧ l1.length ≤ 9223372036854775807 then some (if validG l0_0 l0_1 l1 && (decide (0 ≤ a2) && decide (a2 < l1.length)) then ((spCount l0_0 (lat l0_0 l0_1) (l1.getD a2.toNat z64).f1 : Int), true) else (0, false)) else none
theorem grp_mem {cs : List S77} {l : List S64} (h : grpB cs l = true) {i : Nat} (hi : i < l.length) : ∀ k, k < (l.getD i z64).f1.length → memOk cs (flatM (l.take i)) (l.getD i z64).f1 k = true := by
  unfold grpB at h
  rw [Bool.and_eq_true, List.all_eq_true] at h
  have h2 := h.1 i (List.mem_range.2 hi)
  unfold phOk at h2
  rw [Bool.and_eq_true, List.all_eq_true] at h2
  exact fun k hk => h2.2 k (List.mem_range.2 hk)
theorem mem_find {cs : List S77} {U ms : List Int} {k : Nat} (h : memOk cs U ms k = true) : 0 ≤ find cs (ms.getD k 0) := by
  unfold memOk at h
  rw [Bool.and_eq_true, Bool.and_eq_true] at h
  exact of_decide_eq_true h.1.1
theorem mem_used {cs : List S77} {rs : List S91} (hg : goodB cs rs = true) {U ms : List Int} (h : ∀ k, k < ms.length → memOk cs U ms k = true) : ∀ k, k ≤ ms.length → UsedOk (ms.take k)
  | 0, _ => by rw [List.take_zero]; exact ⟨by simp, by simp⟩
  | k + 1, hk => by
    have ih := mem_used hg h k (by omega)
    have h1 := h k (by omega)
    rw [take_succD ms k (by omega)]
    refine ih.snoc (find_num hg (mem_find h1)) ?_
    unfold memOk at h1
    rw [Bool.and_eq_true, Bool.and_eq_true, Bool.not_eq_true'] at h1
    cases hc : (ms.take k).contains (ms.getD k 0) with
    | false => rfl
    | true =>
      have h2 : (U ++ ms.take k).contains (ms.getD k 0) = true := List.contains_iff_mem.2 (List.mem_append.2 (.inr (List.contains_iff_mem.1 hc)))
      rw [h2] at h1
      cases h1.1.2
theorem mem_len {cs : List S77} {rs : List S91} (hg : goodB cs rs = true) {U ms : List Int} (h : ∀ k, k < ms.length → memOk cs U ms k = true) : ms.length ≤ 999 := by
  have := (mem_used hg h ms.length (Nat.le_refl _)).len
  rwa [List.take_length] at this
theorem within_in {a n : Int} (h : 0 ≤ a ∧ a < n) : impl_within.f a 0 (n - 1) = some true := by
  unfold impl_within.f
  rw [if_pos (show a ≥ 0 from h.1), decide_eq_true (show a ≤ n - 1 by omega)]
theorem within_out {a n : Int} (h : ¬ (0 ≤ a ∧ a < n)) : impl_within.f a 0 (n - 1) = some false := by
  unfold impl_within.f
  by_cases h0 : 0 ≤ a
  · rw [if_pos (show a ≥ 0 from h0), decide_eq_false (show ¬ a ≤ n - 1 by omega)]
  · rw [if_neg (show ¬ a ≥ 0 from h0)]
def impl_SpreadOf.T11 : Bool × List (List Nat × List Nat) := (true, [([], []), ([0], [0]), ([1], [1]), ([2], [2]), ([], []), ([], []), ([4, 5], [4, 5]), ([3, 6], [3, 6]), ([7], [7]), ([], []), ([], []), ([9, 10, 6], [9, 10]), ([8, 11], [8, 11]), ([12], [12])])
def impl_SpreadOf.B11 : List Nat := [0, 1, 3, 7, 0, 0, 48, 127, 255, 0, 0, 1648, 4095, 8191]
theorem impl_SpreadOf.tab11 : rtab .any (opsOf Try.f22 11) = impl_SpreadOf.T11 := by kernel_rfl
theorem impl_SpreadOf.bits11 : waitsOk impl_SpreadOf.T11.2 impl_SpreadOf.B11 = true := by kernel_rfl
set_option maxHeartbeats 8000000 in
set_option maxRecDepth 100000 in
theorem impl_SpreadOf.calls (A0_0 : Option Addr) (c0_0 : Nat) (l0_0 : List S77) (A0_1 : Option Addr) (c0_1 : Nat) (l0_1 : List S91) (A1 : Option Addr) (c1 : Nat) (l1 : List S64) (a2 : Int) (r1 : Int) (r2 : Bool) (w : World) (hr0_0 : Kd.C k77 w A0_0 l0_0.length l0_0) (hc0_0 : l0_0.length ≤ c0_0) (hr0_1 : Kd.C k91 w A0_1 l0_1.length l0_1) (hc0_1 : l0_1.length ≤ c0_1) (hr1 : Kd.C k64 w A1 l1.length l1) (hc1 : l1.length ≤ c1) (h : impl_SpreadOf.f l0_0 l0_1 l1 a2 = some (r1, r2)) :
    Calls Try.prog 22 #[.agg #[.slice A0_0 l0_0.length c0_0, .slice A0_1 l0_1.length c0_1], .slice A1 l1.length c1, .int .i64 a2] w fun e w' => e = .returned (.tuple #[.int .i64 r1, .bool r2]) ∧ Below w.heap.size w w' := by
  have hs : smallP l1 = true ∧ l1.length ≤ 9223372036854775807 := by
    unfold impl_SpreadOf.f at h
    by_cases hs : smallP l1 = true ∧ l1.length ≤ 9223372036854775807
    · exact hs
    · rw [if_neg hs] at h; cases h
  unfold impl_SpreadOf.f at h
  rw [if_pos hs] at h
  obtain ⟨hs, hll⟩ := hs
  have HSM := Aside0.mk hs
  have HP1 := Aside0.mk hr1
  have HPC := Aside0.mk hc1
  have H := Option.some.inj h
  clear hs hr1 hc1 h
  have HR0 := Aside0.mk hr0_0
  have HR1 := Aside0.mk hr0_1
  have HC0 := Aside0.mk hc0_0
  have HC1 := Aside0.mk hc0_1
  clear hr0_0 hr0_1 hc0_0 hc0_1
  obtain ⟨wb, hwb⟩ : ∃ wb, (w).alloc (.cells #[.slice A0_0 l0_0.length c0_0, .slice A0_1 l0_1.length c0_1] 33 (0, 0)) = wb := ⟨_, rfl⟩
  have HBw := Aside0.mk (show Below w.heap.size w wb from by rw [← hwb]; repeat (first | exact Below.refl _ _ | apply below_alloc))
  have HWB := HBw
  have hhr : wb.heap[w.heap.size]? = some (.cells #[.slice A0_0 l0_0.length c0_0, .slice A0_1 l0_1.length c0_1] 33 (0, 0)) := by rw [← hwb]; have h := blk_new (w) (.cells #[.slice A0_0 l0_0.length c0_0, .slice A0_1 l0_1.length c0_1] 33 (0, 0)); rw [show (w).heap.size = w.heap.size from by rfl] at h; exact h
  have hb0 : wb.cell? ⟨w.heap.size, 0, none⟩ = some (.slice A0_0 l0_0.length c0_0) := (blk_cell hhr 0).trans rfl
  have hb1 : wb.cell? ⟨w.heap.size, 1, none⟩ = some (.slice A0_1 l0_1.length c0_1) := (blk_cell hhr 1).trans rfl
  have hbs : w.heap.size < wb.heap.size := blk_lt hhr
  have HW := Aside0.mk hwb
  clear hwb
  have HBX := Aside0.mk hhr
  clear hhr
  obtain ⟨b, hb⟩ : ∃ b, goodB l0_0 l0_1 = b := ⟨_, rfl⟩
  have HGB := Aside0.mk hb
  unfold validG at H
  rw [hb] at H
  cases b with
  | false =>
    clear hb
    injection H with H1 H2
    subst H1; subst H2
    go_enter Try.func22, Try.ntmps22
    go_upto_region 1 with (fail)
    try rw [HW.out]
    clear HW
    go_wp2_with (go_at_call 47; (refine (impl_readGrouping.bad _ _ l0_0 _ _ l0_1 _ _ l1 _ (Kd.C_below HR0.out (by repeat (first | exact HBw.out | exact Below.refl _ _ | apply below_alloc | apply pw_below_drewN | apply below_drew1))) HC0.out (Kd.C_below HR1.out (by repeat (first | exact HBw.out | exact Below.refl _ _ | apply below_alloc | apply pw_below_drewN | apply below_drew1))) HC1.out (Kd.C_below HP1.out (by repeat (first | exact HBw.out | exact Below.refl _ _ | apply below_alloc | apply pw_below_drewN | apply below_drew1))) HPC.out HGB.out).mono ?_); rintro e w1 ⟨rfl, hb⟩; have HBw : Aside0 (Below w.heap.size w w1) := Aside0.mk (below_chain (w := w) (by repeat (first | exact HBw.out | exact Below.refl _ _ | apply below_alloc | apply pw_below_drewN | apply below_drew1)) hb); have hb0 := pw_cell_below hb hb0; clear hb)
    go_ret2
    exact ⟨rfl, (by repeat (first | exact HBw.out | exact Below.refl _ _ | apply below_alloc | apply pw_below_drewN | apply below_drew1))⟩
  | true =>
    have HG := Aside0.mk (goodB_parts hb)
    clear hb
    obtain ⟨b2, hb2⟩ : ∃ b, (consB l0_0.length (lat l0_0 l0_1) && grpB l0_0 l1) = b := ⟨_, rfl⟩
    rw [hb2] at H
    have HCB := Aside0.mk hb2
    clear hb2
    cases b2 with
    | false =>
      injection H with H1 H2
      subst H1; subst H2
      go_enter Try.func22, Try.ntmps22
      go_upto_region 1 with (fail)
      try rw [HW.out]
      clear HW
      go_wp2_with (go_at_call 47; (refine (impl_readGrouping.calls _ _ l0_0 _ _ l0_1 _ _ l1 _ (Kd.C_below HR0.out (by repeat (first | exact HBw.out | exact Below.refl _ _ | apply below_alloc | apply pw_below_drewN | apply below_drew1))) HC0.out (Kd.C_below HR1.out (by repeat (first | exact HBw.out | exact Below.refl _ _ | apply below_alloc | apply pw_below_drewN | apply below_drew1))) HC1.out (Kd.C_below HP1.out (by repeat (first | exact HBw.out | exact Below.refl _ _ | apply below_alloc | apply pw_below_drewN | apply below_drew1))) HPC.out HGB.out HSM.out).mono ?_); rintro e w1 ⟨p, rfl, N1, N2, A, c, HO⟩; rw [HCB.out]; have hb := HO.below; have HBw : Aside0 (Below w.heap.size w w1) := Aside0.mk (below_chain (w := w) (by repeat (first | exact HBw.out | exact Below.refl _ _ | apply below_alloc | apply pw_below_drewN | apply below_drew1)) hb); have hb0 := pw_cell_below hb hb0; clear hb HO)
      go_ret2
      exact ⟨rfl, (by repeat (first | exact HBw.out | exact Below.refl _ _ | apply below_alloc | apply pw_below_drewN | apply below_drew1))⟩
    | true =>
      have hwl : wrap64 ((l1.length : Int) - 1) = (l1.length : Int) - 1 := by clear H; unfold wrap64; omega
      by_cases hin : 0 ≤ a2 ∧ a2 < (l1.length : Int)
      · have HWI := Aside0.mk (within_in hin)
        rw [decide_eq_true hin.1, decide_eq_true hin.2] at H
        obtain ⟨i, rfl⟩ : ∃ i : Nat, a2 = (i : Int) := ⟨a2.toNat, by omega⟩
        have hil : i < l1.length := by have := hin.2; clear hwl; omega
        rw [Int.toNat_natCast] at H
        have HGR := Aside0.mk (show grpB l0_0 l1 = true from (Bool.and_eq_true _ _ ▸ HCB.out : _ ∧ _).2)
        have HMO := Aside0.mk (grp_mem HGR.out hil)
        obtain ⟨ad, D1, d1, e1, hx0, hx1, hd1, hC1⟩ := at_T64 HP1.out (i : Int) hin.1 hin.2
        subst e1
        have e2 : rd_T64 l1 (i : Int) = l1.getD i z64 := by simp [rd_T64]
        rw [e2] at hx0 hx1 hd1 hC1
        clear e2 hx0 hd1
        simp only [Int.toNat_natCast] at hx1
        obtain ⟨ms, hms⟩ : ∃ s, (l1.getD i z64).f1 = s := ⟨_, rfl⟩
        rw [hms] at hx1 hC1 HMO H
        have HML := Aside0.mk (mem_len HGB.out HMO.out)
        have HMS := Aside0.mk hC1
        obtain ⟨M, hM⟩ : ∃ M, lat l0_0 l0_1 = M := ⟨_, rfl⟩
        rw [hM] at H
        have HM := Aside0.mk hM
        injection H with H1 H2
        have HRR := Aside0.mk H1
        have HRQ := HR1
        subst H2
        have HX1 := Aside0.mk hx1
        have hilz : (i : Int) < (l1.length : Int) := hin.2
        clear hms hM hC1 H1 hx1 hin
        go_enter Try.func22, Try.ntmps22
        go_upto_region 1 with (fail)
        try rw [HW.out]
        clear HW
        go_upto_region 5 with (first | (go_at_call 47; (refine (impl_readGrouping.calls _ _ l0_0 _ _ l0_1 _ _ l1 _ (Kd.C_below HR0.out (by repeat (first | exact HBw.out | exact Below.refl _ _ | apply below_alloc | apply pw_below_drewN | apply below_drew1))) HC0.out (Kd.C_below HR1.out (by repeat (first | exact HBw.out | exact Below.refl _ _ | apply below_alloc | apply pw_below_drewN | apply below_drew1))) HC1.out (Kd.C_below HP1.out (by repeat (first | exact HBw.out | exact Below.refl _ _ | apply below_alloc | apply pw_below_drewN | apply below_drew1))) HPC.out HGB.out HSM.out).mono ?_); rintro e w1 ⟨p, rfl, N1, N2, A, c, HO⟩; rw [HCB.out]; have hb := HO.below; have HBX := Aside0.mk (blk_below HBX.out hb); have HBw : Aside0 (Below w.heap.size w w1) := Aside0.mk (below_chain (w := w) (by repeat (first | exact HBw.out | exact Below.refl _ _ | apply below_alloc | apply pw_below_drewN | apply below_drew1)) hb); have hb0 := pw_cell_below hb hb0; have HO := Aside0.mk HO; clear hb) | (go_at_call 59; (refine (impl_within.calls _ 0 ((l1.length : Int) - 1) _ _ HWI.out).mono ?_); rintro e w2 ⟨rfl, hd⟩; have hb := hd.below; clear hd; have HBX := Aside0.mk (blk_below HBX.out hb); have HO := Aside0.mk (HO.out.step hb); have HBw : Aside0 (Below w.heap.size w w2) := Aside0.mk (below_chain (w := w) (by repeat (first | exact HBw.out | exact Below.refl _ _ | apply below_alloc | apply pw_below_drewN | apply below_drew1)) hb); have hb0 := pw_cell_below hb hb0; clear hb))
        have HB := HBw
        clear hb0 hb1 HBw hwl
        obtain ⟨wo, HO⟩ : ∃ wo, Aside0 (OrdIn wo w2 p N1 N2 l0_0.length (.slice A l0_0.length c) (nums l0_0) (abv l0_0 l0_1) (lat l0_0 l0_1)) := ⟨_, HO⟩
        rw [HM.out] at HO
        have hx1 := (HB.out.cell (World.block_lt_of_cell? w _ HX1.out)).trans HX1.out
        go_upto_region 6 with (fail)
        clear hx1
        go_loopg [10, 12, 14, 37] ms.length (fun gg s10 _ _ s37 wr => ∃ j : Nat, j ≤ ms.length ∧ ms.length - j ≤ gg ∧ s37 = .int .i64 j ∧ s10 = .int .i64 ((spAll (spAt l0_0 M ms) ms.length j : Nat) : Int) ∧ Aside0 (Below w.heap.size w wr) ∧ Aside0 (OrdIn wo wr p N1 N2 l0_0.length (.slice A l0_0.length c) (nums l0_0) (abv l0_0 l0_1) M) ∧ Aside0 (wr.heap[w.heap.size]? = some (.cells #[.slice A0_0 l0_0.length c0_0, .slice A0_1 l0_1.length c0_1] 33 (0, 0))))
        case atStart => exact ⟨0, Nat.zero_le _, by omega, rfl, rfl, HB, HO, HBX⟩
        case round =>
          clear HB HO HBX
          obtain ⟨j, hj, hgg, rfl, rfl, HB, HO, HBX⟩ := hrel
          by_cases hjl : j < ms.length
          · have hjlz : (j : Int) < (ms.length : Int) := by omega
            obtain ⟨adm, em, hxm⟩ := Kd.at_int HMS.out (j : Int) (by omega) hjlz
            subst em
            rw [← rd_get ms j, Int.toNat_natCast] at hxm
            obtain ⟨xa, hxa⟩ : ∃ x, ms.getD j 0 = x := ⟨_, rfl⟩
            rw [hxa] at hxm
            replace hxm := (HB.out.cell (World.block_lt_of_cell? w _ hxm)).trans hxm
            obtain ⟨ia, hia, hial⟩ := find_nat l0_0 xa (by rw [← hxa]; exact mem_find (HMO.out j hjl))
            have AA := Aside0.mk (show impl_indexOf.f l0_0 l0_1 xa = some (ia : Int) from congrArg some hia)
            have HXA := Aside0.mk hxa
            have HIA := Aside0.mk hia
            clear hxa hia
            have hx1 := (HB.out.cell (World.block_lt_of_cell? w _ HX1.out)).trans HX1.out
            obtain ⟨sn, hsn⟩ : ∃ n, spAll (spAt l0_0 M ms) ms.length j = n := ⟨_, rfl⟩
            have HSN := Aside0.mk hsn
            rw [hsn]
            clear hsn
            go_upto_region 9 with (fail)
            clear hx1 hxm
            go_loopg [10, 14, 47] ms.length (fun gg s10 _ s47 wr => ∃ k : Nat, k ≤ ms.length ∧ ms.length - k ≤ gg ∧ s47 = .int .i64 k ∧ s10 = .int .i64 ((sn + spRow (spAt l0_0 M ms j) k : Nat) : Int) ∧ Aside0 (Below w.heap.size w wr) ∧ Aside0 (OrdIn wo wr p N1 N2 l0_0.length (.slice A l0_0.length c) (nums l0_0) (abv l0_0 l0_1) M) ∧ Aside0 (wr.heap[w.heap.size]? = some (.cells #[.slice A0_0 l0_0.length c0_0, .slice A0_1 l0_1.length c0_1] 33 (0, 0))))
            case atStart => exact ⟨0, Nat.zero_le _, by omega, rfl, rfl, HB, HO, HBX⟩
            case round =>
              clear HB HO HBX
              obtain ⟨k, hk, hgg2, rfl, rfl, HB, HO, HBX⟩ := hrel
              by_cases hkl : k < ms.length
              · have hklz : (k : Int) < (ms.length : Int) := by omega
                obtain ⟨adn, en, hxn⟩ := Kd.at_int HMS.out (k : Int) (by omega) hklz
                obtain rfl := Option.some.inj en
                rw [← rd_get ms k, Int.toNat_natCast] at hxn
                obtain ⟨xb, hxb⟩ : ∃ x, ms.getD k 0 = x := ⟨_, rfl⟩
                rw [hxb] at hxn
                replace hxn := (HB.out.cell (World.block_lt_of_cell? w _ hxn)).trans hxn
                obtain ⟨ik, hik, hikl⟩ := find_nat l0_0 xb (by rw [← hxb]; exact mem_find (HMO.out k hkl))
                have AB := Aside0.mk (show impl_indexOf.f l0_0 l0_1 xb = some (ik : Int) from congrArg some hik)
                obtain ⟨mb, hmb⟩ : ∃ x, M ia ik = x := ⟨_, rfl⟩
                have HSP := Aside0.mk (show spAt l0_0 M ms j k = mb from by unfold spAt; rw [HXA.out, HIA.out, hxb, hik]; exact hmb)
                have hialz : (ia : Int) < (l0_0.length : Int) := by omega
                have hiklz : (ik : Int) < (l0_0.length : Int) := by omega
                obtain ⟨sr, hsr⟩ : ∃ n, sn + spRow (spAt l0_0 M ms j) k = n := ⟨_, rfl⟩
                have HSR := Aside0.mk hsr
                have hsrl : sr ≤ 1000000 := by
                  have h1 := spAll_le (spAt l0_0 M ms) ms.length j
                  have h2 := spRow_le (spAt l0_0 M ms j) k
                  have h3 := HML.out
                  have h4 : j * ms.length ≤ 998 * 999 := Nat.mul_le_mul (by omega) h3
                  rw [HSN.out] at h1
                  omega
                rw [hsr]
                go_upto_region 11 with (fail)
                have HS0 := Aside0.mk (show (fun w' => w'.cell? ⟨w.heap.size, 0, none⟩ = some (.slice A0_0 l0_0.length c0_0) ∧ w'.cell? ⟨w.heap.size, 1, none⟩ = some (.slice A0_1 l0_1.length c0_1) ∧ w'.cell? ⟨p, 2, none⟩ = some (.slice (some ⟨N2, 0, none⟩) l0_0.length l0_0.length) ∧ w'.cell? ⟨N2, ia, none⟩ = some (.slice (some ⟨N2 + 1 + ia, 0, none⟩) l0_0.length l0_0.length) ∧ w'.cell? ⟨N2 + 1 + ia, ik, none⟩ = some (.bool mb) ∧ Aside0 (Below w.heap.size w w') ∧ Aside0 (OrdIn wo w' p N1 N2 l0_0.length (.slice A l0_0.length c) (nums l0_0) (abv l0_0 l0_1) M) ∧ Aside0 (w'.heap[w.heap.size]? = some (.cells #[.slice A0_0 l0_0.length c0_0, .slice A0_1 l0_1.length c0_1] 33 (0, 0)))) wr.drew from ⟨(blk_cell HBX.out 0).trans rfl, (blk_cell HBX.out 1).trans rfl, HO.out.drew.c2, HO.out.drew.m2.topc hial, by rw [← hmb]; exact HO.out.drew.m2.cell hial hikl, ⟨below_drew1 HB.out⟩, ⟨HO.out.drew⟩, HBX⟩)
                clear HB HO HBX hmb hxb hik hsr hxn en
                all_goals refine start_ (n := 14) (S := (fun w' => w'.cell? ⟨w.heap.size, 0, none⟩ = some (.slice A0_0 l0_0.length c0_0) ∧ w'.cell? ⟨w.heap.size, 1, none⟩ = some (.slice A0_1 l0_1.length c0_1) ∧ w'.cell? ⟨p, 2, none⟩ = some (.slice (some ⟨N2, 0, none⟩) l0_0.length l0_0.length) ∧ w'.cell? ⟨N2, ia, none⟩ = some (.slice (some ⟨N2 + 1 + ia, 0, none⟩) l0_0.length l0_0.length) ∧ w'.cell? ⟨N2 + 1 + ia, ik, none⟩ = some (.bool mb) ∧ Aside0 (Below w.heap.size w w') ∧ Aside0 (OrdIn wo w' p N1 N2 l0_0.length (.slice A l0_0.length c) (nums l0_0) (abv l0_0 l0_1) M) ∧ Aside0 (w'.heap[w.heap.size]? = some (.cells #[.slice A0_0 l0_0.length c0_0, .slice A0_1 l0_1.length c0_1] 33 (0, 0))))) (ds := []) (bl 0 14) (by kernel_rfl) rfl rfl HS0.out (fun hHeld => ?_); refine with_tabW impl_SpreadOf.tab11 impl_SpreadOf.bits11 (fun HT_ HW_ => ?_)
                all_goals generalize wr.drew = wv at hHeld ⊢
                all_goals first | refine pA_ 0 (some 51) (bl 1 14) HT_.out (h := ?_) | refine pO_ 0 (some 51) (bl 1 14) HT_.out (h := ?_)
                all_goals first | refine pA_ 1 (some 52) (bl 2 14) HT_.out (h := ?_) | refine pO_ 1 (some 52) (bl 2 14) HT_.out (h := ?_)
                all_goals first | refine pA_ 2 (some 53) (bl 3 14) HT_.out (h := ?_) | refine pO_ 2 (some 53) (bl 3 14) HT_.out (h := ?_)
                all_goals first | refine pA_ 5 (some 56) (bx 3 [5] 14) HT_.out (h := ?_) | refine pO_ 5 (some 56) (bx 3 [5] 14) HT_.out (h := ?_)
                all_goals first | refine pA_ 10 (some 61) (bx 3 [5, 10] 14) HT_.out (h := ?_) | refine pO_ 10 (some 61) (bx 3 [5, 10] 14) HT_.out (h := ?_)
                all_goals first | refine tA_ 3 (some 54) (bx 4 [5, 10] 14) HT_.out HW_.out hHeld (h := ?_) | refine pO_ 3 (some 54) (bx 4 [5, 10] 14) HT_.out (h := ?_)
                all_goals first | refine tA_ 4 (some 55) (bx 6 [10] 14) HT_.out HW_.out hHeld (h := ?_) | refine pO_ 4 (some 55) (bx 6 [10] 14) HT_.out (h := ?_)
                all_goals first | refine tA_ 9 (some 60) (bx 6 [9, 10] 14) HT_.out HW_.out hHeld (h := ?_) | refine pO_ 9 (some 60) (bx 6 [9, 10] 14) HT_.out (h := ?_)
                all_goals first | refine pO_ 6 (some 57) (bx 7 [9, 10] 14) HT_.out (h := ?_) | (refine one_ (i := 6) (N := some 57) (bx 7 [9, 10] 14) rfl rfl (one_of HT_.out (by kernel_rfl)) (by decide) (fun K hK => ?_); refine goes_ Try.func53 (by kernel_rfl) rfl #[.agg #[.slice A0_0 l0_0.length c0_0, .slice A0_1 l0_1.length c0_1], .int .i64 xa] (by rfl) rfl rfl (by (try simp only [List.map_toArray, List.map_cons, List.map_nil]); first | done | rfl) ?_; with_reducible refine (impl_indexOf.calls _ _ l0_0 _ _ l0_1 xa _ _ (Kd.C_below HR0.out hHeld.2.2.2.2.2.1.out) HC0.out (Kd.C_below HRQ.out hHeld.2.2.2.2.2.1.out) HC1.out AA.out).mono ?_; rintro e w3 ⟨rfl, hb⟩; refine ⟨_, rfl, ?_⟩; refine hK.out _ _ ⟨pw_cell_below hb hHeld.1, pw_cell_below hb hHeld.2.1, pw_cell_below hb hHeld.2.2.1, pw_cell_below hb hHeld.2.2.2.1, pw_cell_below hb hHeld.2.2.2.2.1, ⟨below_chain hHeld.2.2.2.2.2.1.out hb⟩, ⟨hHeld.2.2.2.2.2.2.1.out.step hb⟩, ⟨blk_below hHeld.2.2.2.2.2.2.2.out hb⟩⟩ (fun hHeld => ?_); clear hK K; refine norm_ (a' := ?_) ?_ ?_; rotate_left; (show Act.put _ (some 57) _ = _; simp only [Act.put, List.setIfInBounds_toArray, List.set_cons_zero, List.set_cons_succ, i64_w, i32_w]; rfl))
                all_goals first | refine pA_ 7 (some 58) (bx 8 [9, 10] 14) HT_.out (h := ?_) | refine pO_ 7 (some 58) (bx 8 [9, 10] 14) HT_.out (h := ?_)
                all_goals first | refine tA_ 8 (some 59) (bl 11 14) HT_.out HW_.out hHeld (h := ?_) | refine pO_ 8 (some 59) (bl 11 14) HT_.out (h := ?_)
                all_goals first | refine pO_ 11 (some 62) (bl 12 14) HT_.out (h := ?_) | (refine one_ (i := 11) (N := some 62) (bl 12 14) rfl rfl (one_of HT_.out (by kernel_rfl)) (by decide) (fun K hK => ?_); refine goes_ Try.func53 (by kernel_rfl) rfl #[.agg #[.slice A0_0 l0_0.length c0_0, .slice A0_1 l0_1.length c0_1], .int .i64 xb] (by rfl) rfl rfl (by (try simp only [List.map_toArray, List.map_cons, List.map_nil]); first | done | rfl) ?_; with_reducible refine (impl_indexOf.calls _ _ l0_0 _ _ l0_1 xb _ _ (Kd.C_below HR0.out hHeld.2.2.2.2.2.1.out) HC0.out (Kd.C_below HRQ.out hHeld.2.2.2.2.2.1.out) HC1.out AB.out).mono ?_; rintro e w4 ⟨rfl, hb⟩; refine ⟨_, rfl, ?_⟩; refine hK.out _ _ ⟨pw_cell_below hb hHeld.1, pw_cell_below hb hHeld.2.1, pw_cell_below hb hHeld.2.2.1, pw_cell_below hb hHeld.2.2.2.1, pw_cell_below hb hHeld.2.2.2.2.1, ⟨below_chain hHeld.2.2.2.2.2.1.out hb⟩, ⟨hHeld.2.2.2.2.2.2.1.out.step hb⟩, ⟨blk_below hHeld.2.2.2.2.2.2.2.out hb⟩⟩ (fun hHeld => ?_); clear hK K; refine norm_ (a' := ?_) ?_ ?_; rotate_left; (show Act.put _ (some 62) _ = _; simp only [Act.put, List.setIfInBounds_toArray, List.set_cons_zero, List.set_cons_succ, i64_w, i32_w]; rfl))
                all_goals first | refine pA_ 12 (some 63) (bl 13 14) HT_.out (h := ?_) | refine pO_ 12 (some 63) (bl 13 14) HT_.out (h := ?_)
                all_goals first | refine tA_ 13 (some 64) (bl 14 14) HT_.out HW_.out hHeld (h := ?_) | refine pO_ 13 (some 64) (bl 14 14) HT_.out (h := ?_)
                all_goals refine done_ (done_of HT_.out (by kernel_rfl)) ?_
                obtain ⟨_, _, _, _, _, HB, HO, HBX⟩ := hHeld
                cases mb with
                | false =>
                  go_wp2
                  go_roundg (ms.length - (k + 1))
                  case measure => omega
                  case rel => exact ⟨k + 1, by omega, by omega, by first | go_num | exact congrArg (Value.int .i64) (wrap_succ k (by have := HML.out; omega)), by rw [spRow, HSP.out, ← HSR.out]; rfl, HB, HO, HBX⟩
                | true =>
                  go_wp2
                  go_roundg (ms.length - (k + 1))
                  case measure => omega
                  case rel => exact ⟨k + 1, by omega, by omega, by first | go_num | exact congrArg (Value.int .i64) (wrap_succ k (by have := HML.out; omega)), by rw [spRow, HSP.out, if_pos rfl, ← Nat.add_assoc, HSR.out]; first | go_num | exact congrArg (Value.int .i64) (wrap_succ sr (by omega)), HB, HO, HBX⟩
              · obtain rfl : k = ms.length := by omega
                have hkz : ¬ ((ms.length : Int) < (ms.length : Int)) := by omega
                obtain ⟨sr, hsr⟩ : ∃ n, sn + spRow (spAt l0_0 M ms j) ms.length = n := ⟨_, rfl⟩
                have HSR := Aside0.mk hsr
                rw [hsr]
                clear hsr
                go_wp2
                go_roundg (ms.length - (j + 1))
                case measure => omega
                case rel => exact ⟨j + 1, by omega, by omega, by first | go_num | exact congrArg (Value.int .i64) (wrap_succ j (by have := HML.out; omega)), by rw [spAll, HSN.out, HSR.out], HB, HO, HBX⟩
          · obtain rfl : j = ms.length := by omega
            have hkz : ¬ ((ms.length : Int) < (ms.length : Int)) := by omega
            have hcr : ((spAll (spAt l0_0 M ms) ms.length ms.length : Nat) : Int) = r1 := HRR.out
            rw [hcr]
            clear hcr
            go_wp2
            go_ret2
            exact ⟨rfl, HB.out⟩
      · have HWI := Aside0.mk (within_out hin)
        have H' : ((0 : Int), false) = (r1, r2) := by
          rw [← H]
          by_cases h0 : 0 ≤ a2
          · rw [decide_eq_false (fun h1 => hin ⟨h0, h1⟩), Bool.and_false, Bool.and_false]; rfl
          · rw [decide_eq_false h0, Bool.false_and, Bool.and_false]; rfl
        clear H hin
        injection H' with H1 H2
        subst H1; subst H2
        go_enter Try.func22, Try.ntmps22
        go_upto_region 1 with (fail)
        try rw [HW.out]
        clear HW
        go_wp2_with (first | (go_at_call 47; (refine (impl_readGrouping.calls _ _ l0_0 _ _ l0_1 _ _ l1 _ (Kd.C_below HR0.out (by repeat (first | exact HBw.out | exact Below.refl _ _ | apply below_alloc | apply pw_below_drewN | apply below_drew1))) HC0.out (Kd.C_below HR1.out (by repeat (first | exact HBw.out | exact Below.refl _ _ | apply below_alloc | apply pw_below_drewN | apply below_drew1))) HC1.out (Kd.C_below HP1.out (by repeat (first | exact HBw.out | exact Below.refl _ _ | apply below_alloc | apply pw_below_drewN | apply below_drew1))) HPC.out HGB.out HSM.out).mono ?_); rintro e w1 ⟨p, rfl, N1, N2, A, c, HO⟩; rw [HCB.out]; have hb := HO.below; have HBw : Aside0 (Below w.heap.size w w1) := Aside0.mk (below_chain (w := w) (by repeat (first | exact HBw.out | exact Below.refl _ _ | apply below_alloc | apply pw_below_drewN | apply below_drew1)) hb); have hb0 := pw_cell_below hb hb0; clear hb HO) | (go_at_call 59; (refine (impl_within.calls _ 0 ((l1.length : Int) - 1) _ _ HWI.out).mono ?_); rintro e w2 ⟨rfl, hd⟩; have hb := hd.below; clear hd; have HBw : Aside0 (Below w.heap.size w w2) := Aside0.mk (below_chain (w := w) (by repeat (first | exact HBw.out | exact Below.refl _ _ | apply below_alloc | apply pw_below_drewN | apply below_drew1)) hb); have hb0 := pw_cell_below hb hb0; clear hb))
        go_ret2
        exact ⟨rfl, (by repeat (first | exact HBw.out | exact Below.refl _ _ | apply below_alloc | apply pw_below_drewN | apply below_drew1))⟩

end Go.Proofs.Ytenphfagdpkjaaa.Q
