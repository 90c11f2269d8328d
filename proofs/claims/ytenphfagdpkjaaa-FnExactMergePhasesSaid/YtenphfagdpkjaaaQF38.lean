-- Written by a program of this session (wip/xprint.py over the kit's printer).
import Derived.Test.YtenphfagdpkjaaaQ0
import Derived.Test.YtenphfagdpkjaaaQF16
import Derived.Test.YtenphfagdpkjaaaQF51
import Derived.Test.YtenphfagdpkjaaaQF72
import Derived.Test.YtenphfagdpkjaaaQF73
import Derived.Test.YtenphfagdpkjaaaQF74
import Derived.Test.YtenphfagdpkjaaaQF83
import Derived.Test.YtenphfagdpkjaaaQF99
import Derived.Test.YtenphfagdpkjaaaQP
import Derived.Test.YtenphfagdpkjaaaQV0
namespace Go.Proofs.Ytenphfagdpkjaaa.Q
open Go.RowKit Go.Proofs.YtenphfagdpkjaaaW.PrintWords Go.Proofs.YtenphfagdpkjaaaW.PrintLast
set_option linter.unusedVariables false
set_option linter.unusedSimpArgs false

/-! ### impl_MergePhases: function 38 -/
theorem mp_mem {cs : List S77} {l : List S64} (h : grpB cs l = true) {i : Nat} (hi : i < l.length) : 0 < (l.getD i z64).f1.length ∧ ∀ k, k < (l.getD i z64).f1.length → memOk cs (flatM (l.take i)) (l.getD i z64).f1 k = true := by
  unfold grpB at h
  rw [Bool.and_eq_true, List.all_eq_true] at h
  have h2 := h.1 i (List.mem_range.2 hi)
  unfold phOk at h2
  rw [Bool.and_eq_true, List.all_eq_true] at h2
  have h3 := h2.1
  rw [Bool.and_eq_true, Bool.and_eq_true, Bool.not_eq_true', decide_eq_false_iff_not] at h3
  exact ⟨by have := h3.1.2; omega, fun k hk => h2.2 k (List.mem_range.2 hk)⟩
theorem mp_find {cs : List S77} {U ms : List Int} {k : Nat} (h : memOk cs U ms k = true) : 0 ≤ find cs (ms.getD k 0) := by
  unfold memOk at h
  rw [Bool.and_eq_true, Bool.and_eq_true] at h
  exact of_decide_eq_true h.1.1
theorem mp_used {cs : List S77} {rs : List S91} (hg : goodB cs rs = true) {U ms : List Int} (h : ∀ k, k < ms.length → memOk cs U ms k = true) : ∀ k, k ≤ ms.length → UsedOk (ms.take k)
  | 0, _ => by rw [List.take_zero]; exact ⟨by simp, by simp⟩
  | k + 1, hk => by
    have ih := mp_used hg h k (by omega)
    have h1 := h k (by omega)
    rw [take_succD ms k (by omega)]
    refine ih.snoc (find_num hg (mp_find h1)) ?_
    unfold memOk at h1
    rw [Bool.and_eq_true, Bool.and_eq_true, Bool.not_eq_true'] at h1
    cases hc : (ms.take k).contains (ms.getD k 0) with
    | false => rfl
    | true =>
      have h2 : (U ++ ms.take k).contains (ms.getD k 0) = true := List.contains_iff_mem.2 (List.mem_append.2 (.inr (List.contains_iff_mem.1 hc)))
      rw [h2] at h1
      cases h1.1.2
theorem mp_len {cs : List S77} {rs : List S91} (hg : goodB cs rs = true) {l : List S64} (h : grpB cs l = true) (i : Nat) : (l.getD i z64).f1.length ≤ 999 := by
  by_cases hi : i < l.length
  · have := (mp_used hg (mp_mem h hi).2 _ (Nat.le_refl _)).len
    rwa [List.take_length] at this
  · rw [List.getD_eq_getElem?_getD, List.getElem?_eq_none (by omega)]
    exact Nat.zero_le _
theorem mp_all {cs : List S77} {rs : List S91} (hg : goodB cs rs = true) {l : List S64} (h : grpB cs l = true) : ∀ p ∈ l, p.f1.length ≤ 1000000 := by
  intro p hp
  obtain ⟨i, hi, rfl⟩ := List.getElem_of_mem hp
  have h1 := mp_len hg h i
  rw [List.getD_eq_getElem?_getD, List.getElem?_eq_getElem hi] at h1
  have h2 : l[i].f1.length ≤ 999 := h1
  omega
theorem mp_in {a n : Int} (h : 0 ≤ a ∧ a < n) : impl_within.f a 0 (n - 1) = some true := by
  unfold impl_within.f
  rw [if_pos (show a ≥ 0 from h.1), decide_eq_true (show a ≤ n - 1 by omega)]
theorem mp_out {a n : Int} (h : ¬ (0 ≤ a ∧ a < n)) : impl_within.f a 0 (n - 1) = some false := by
  unfold impl_within.f
  by_cases h0 : 0 ≤ a
  · rw [if_pos (show a ≥ 0 from h0), decide_eq_false (show ¬ a ≤ n - 1 by omega)]
  · rw [if_neg (show ¬ a ≥ 0 from h0)]
def mrg (l : List S64) (i k : Nat) : List S64 := (l.set i ⟨(l.getD i z64).f0, srt ((l.getD i z64).f1 ++ (l.getD k z64).f1)⟩).eraseIdx k
def impl_MergePhases.f (l0_0 : List S77) (l0_1 : List S91) (l1 : List S64) (a2 a3 : Int) : Option (List S64 × Bool) := if smallP l1 ∧ l1.length ≤ 9223372036854775807 then some (if validG l0_0 l0_1 l1 = true ∧ a2 ≠ a3 ∧ (0 ≤ a2 ∧ a2 < l1.length) ∧ (0 ≤ a3 ∧ a3 < l1.length) then (mrg l1 a2.toNat a3.toNat, true) else ([], false)) else none
def impl_MergePhases.T4 : Bool × List (List Nat × List Nat) := (true, [([], []), ([], []), ([], []), ([], []), ([2, 3], [2, 3]), ([4], [4]), ([5], [5]), ([], []), ([], []), ([7, 8], [7, 8]), ([9], [9]), ([10], [10]), ([6, 11], [6, 11]), ([0, 1, 0, 1, 2, 3, 4, 5, 6, 7, 8, 9, 10, 11, 12], [0, 1]), ([13, 0, 1, 2, 3, 4, 5, 6, 7, 8, 9, 10, 11, 12], [13]), ([14, 12, 12, 0, 1, 2, 3, 4, 5, 6, 7, 8, 9, 10, 11, 12], [12, 14])])
def impl_MergePhases.B4 : List Nat := [0, 0, 0, 0, 12, 28, 60, 0, 0, 384, 896, 1920, 4092, 8191, 16383, 32767]
theorem impl_MergePhases.tab4 : rtab .any (opsOf Try.f38 4) = impl_MergePhases.T4 := by kernel_rfl
theorem impl_MergePhases.bits4 : waitsOk impl_MergePhases.T4.2 impl_MergePhases.B4 = true := by kernel_rfl
set_option maxHeartbeats 8000000 in
set_option maxRecDepth 100000 in
theorem impl_MergePhases.calls (A0_0 : Option Addr) (c0_0 : Nat) (l0_0 : List S77) (A0_1 : Option Addr) (c0_1 : Nat) (l0_1 : List S91) (A1 : Option Addr) (c1 : Nat) (l1 : List S64) (a2 a3 : Int) (r1 : List S64) (r2 : Bool) (w : World) (hr0_0 : Kd.C k77 w A0_0 l0_0.length l0_0) (hc0_0 : l0_0.length ≤ c0_0) (hr0_1 : Kd.C k91 w A0_1 l0_1.length l0_1) (hc0_1 : l0_1.length ≤ c0_1) (hr1 : Kd.C k64 w A1 l1.length l1) (hc1 : l1.length ≤ c1) (h : impl_MergePhases.f l0_0 l0_1 l1 a2 a3 = some (r1, r2)) :
    Calls Try.prog 38 #[.agg #[.slice A0_0 l0_0.length c0_0, .slice A0_1 l0_1.length c0_1], .slice A1 l1.length c1, .int .i64 a2, .int .i64 a3] w fun e w' => ∃ v1_ : Value, e = .returned (.tuple #[v1_, .bool r2]) ∧ Kd.S k64 64 w' w.heap.size (fun _ => True) v1_ r1 ∧ Below w.heap.size w w' := by
  have hs : smallP l1 = true ∧ l1.length ≤ 9223372036854775807 := by
    unfold impl_MergePhases.f at h
    by_cases hs : smallP l1 = true ∧ l1.length ≤ 9223372036854775807
    · exact hs
    · rw [if_neg hs] at h; cases h
  unfold impl_MergePhases.f at h
  rw [if_pos hs] at h
  obtain ⟨hs, hll⟩ := hs
  have HSM := Aside0.mk hs
  have HP1 := Aside0.mk hr1
  have HPC := Aside0.mk hc1
  have H := Option.some.inj h
  clear hr1 hc1 h
  have HR0 := Aside0.mk hr0_0
  have HR1 := Aside0.mk hr0_1
  have HC0 := Aside0.mk hc0_0
  have HC1 := Aside0.mk hc0_1
  clear hr0_0 hr0_1 hc0_0 hc0_1
  obtain ⟨wb, hwb⟩ : ∃ wb, (w).alloc (.cells #[.slice A0_0 l0_0.length c0_0, .slice A0_1 l0_1.length c0_1] 33 (0, 0)) = wb := ⟨_, rfl⟩
  have HBw := Aside0.mk (show Below w.heap.size w wb from by rw [← hwb]; repeat (first | exact Below.refl _ _ | apply below_alloc))
  have HWB := HBw
  have hhr : wb.heap[w.heap.size]? = some (.cells #[.slice A0_0 l0_0.length c0_0, .slice A0_1 l0_1.length c0_1] 33 (0, 0)) := by rw [← hwb]; have h := blk_new (w) (.cells #[.slice A0_0 l0_0.length c0_0, .slice A0_1 l0_1.length c0_1] 33 (0, 0)); rw [show (w).heap.size = w.heap.size from by rfl] at h; exact h
  have hb0 : wb.cell? ⟨w.heap.size, 0, none⟩ = some (.slice A0_0 l0_0.length c0_0) := (blk_cell hhr 0).trans rfl
  have hb1 : wb.cell? ⟨w.heap.size, 1, none⟩ = some (.slice A0_1 l0_1.length c0_1) := (blk_cell hhr 1).trans rfl
  have hbs : w.heap.size < wb.heap.size := blk_lt hhr
  have HW := Aside0.mk hwb
  clear hwb hhr
  obtain ⟨b, hb⟩ : ∃ b, validG l0_0 l0_1 l1 = b := ⟨_, rfl⟩
  have HV := Aside0.mk (show impl_IsValidGrouping.f l0_0 l0_1 l1 = some b from by unfold impl_IsValidGrouping.f; rw [if_pos hs, hb])
  have hwl : wrap64 ((l1.length : Int) - 1) = (l1.length : Int) - 1 := by clear H; unfold wrap64; omega
  clear hs
  cases b with
  | false =>
    rw [if_neg (fun h => by have := h.1; rw [hb] at this; cases this)] at H
    clear hb
    injection H with H1 H2
    subst H1; subst H2
    go_enter Try.func38, Try.ntmps38
    go_upto_region 1 with (fail)
    try rw [HW.out]
    clear HW
    go_wp2_with (go_at_call 16; (refine (impl_IsValidGrouping.calls _ _ l0_0 _ _ l0_1 _ _ l1 _ _ (Kd.C_below HR0.out (by repeat (first | exact HBw.out | exact Below.refl _ _ | apply below_alloc | apply pw_below_drewN | apply below_drew1))) HC0.out (Kd.C_below HR1.out (by repeat (first | exact HBw.out | exact Below.refl _ _ | apply below_alloc | apply pw_below_drewN | apply below_drew1))) HC1.out (Kd.C_below HP1.out (by repeat (first | exact HBw.out | exact Below.refl _ _ | apply below_alloc | apply pw_below_drewN | apply below_drew1))) HPC.out HV.out).mono ?_); rintro e w1 ⟨rfl, hb⟩; have HBw : Aside0 (Below w.heap.size w w1) := Aside0.mk (below_chain (w := w) (by repeat (first | exact HBw.out | exact Below.refl _ _ | apply below_alloc | apply pw_below_drewN | apply below_drew1)) hb); have hb0 := pw_cell_below hb hb0; clear hb)
    go_ret2
    exact ⟨_, rfl, Kd.S_nil _ _ _ _ _, (by repeat (first | exact HBw.out | exact Below.refl _ _ | apply below_alloc | apply pw_below_drewN | apply below_drew1))⟩
  | true =>
    by_cases hne : a2 = a3
    · rw [if_neg (fun h => h.2.1 hne)] at H
      injection H with H1 H2
      subst H1; subst H2; subst hne
      clear hb
      go_enter Try.func38, Try.ntmps38
      go_upto_region 1 with (fail)
      try rw [HW.out]
      clear HW
      go_wp2_with (go_at_call 16; (refine (impl_IsValidGrouping.calls _ _ l0_0 _ _ l0_1 _ _ l1 _ _ (Kd.C_below HR0.out (by repeat (first | exact HBw.out | exact Below.refl _ _ | apply below_alloc | apply pw_below_drewN | apply below_drew1))) HC0.out (Kd.C_below HR1.out (by repeat (first | exact HBw.out | exact Below.refl _ _ | apply below_alloc | apply pw_below_drewN | apply below_drew1))) HC1.out (Kd.C_below HP1.out (by repeat (first | exact HBw.out | exact Below.refl _ _ | apply below_alloc | apply pw_below_drewN | apply below_drew1))) HPC.out HV.out).mono ?_); rintro e w1 ⟨rfl, hb⟩; have HBw : Aside0 (Below w.heap.size w w1) := Aside0.mk (below_chain (w := w) (by repeat (first | exact HBw.out | exact Below.refl _ _ | apply below_alloc | apply pw_below_drewN | apply below_drew1)) hb); have hb0 := pw_cell_below hb hb0; clear hb)
      go_ret2
      exact ⟨_, rfl, Kd.S_nil _ _ _ _ _, (by repeat (first | exact HBw.out | exact Below.refl _ _ | apply below_alloc | apply pw_below_drewN | apply below_drew1))⟩
    · by_cases h2 : 0 ≤ a2 ∧ a2 < (l1.length : Int)
      · by_cases h3 : 0 ≤ a3 ∧ a3 < (l1.length : Int)
        · rw [if_pos ⟨hb, hne, h2, h3⟩] at H
          have HW2 := Aside0.mk (mp_in h2)
          have HW3 := Aside0.mk (mp_in h3)
          obtain ⟨i, rfl⟩ : ∃ i : Nat, a2 = (i : Int) := ⟨a2.toNat, by omega⟩
          obtain ⟨k, rfl⟩ : ∃ k : Nat, a3 = (k : Int) := ⟨a3.toNat, by omega⟩
          injection H with H1 H2
          rw [Int.toNat_natCast, Int.toNat_natCast] at H1
          have HH1 := Aside0.mk H1
          subst H2
          have hv : goodB l0_0 l0_1 = true ∧ grpB l0_0 l1 = true := by
            unfold validG at hb
            rw [Bool.and_eq_true, Bool.and_eq_true] at hb
            exact ⟨hb.1, hb.2.2⟩
          have HMA := Aside0.mk (mp_all hv.1 hv.2)
          have hil : i < l1.length := by have := h2.2; clear hwl; omega
          have hkl : k < l1.length := by have := h3.2; clear hwl; omega
          have HMI := Aside0.mk (And.intro (mp_mem hv.2 hil).1 (And.intro (mp_len hv.1 hv.2 i) (mp_len hv.1 hv.2 k)))
          have hl6 : l1.length ≤ 6 := by
            have h1 := hv.2
            unfold grpB at h1
            rw [Bool.and_eq_true] at h1
            exact of_decide_eq_true h1.2
          have HL6 := Aside0.mk hl6
          have HIK := Aside0.mk (And.intro hil hkl)
          clear hb hv H1 hll hl6
          have h20 : (0 : Int) ≤ (i : Int) := h2.1
          have h30 : (0 : Int) ≤ (k : Int) := h3.1
          have h21 : (i : Int) < (l1.length : Int) := h2.2
          have h31 : (k : Int) < (l1.length : Int) := h3.2
          have hnb : ((i : Int) == (k : Int)) = false := beq_eq_false_iff_ne.2 hne
          have hnn : ¬ i = k := fun e => hne (by rw [e])
          clear h2 h3 hil hkl
          go_enter Try.func38, Try.ntmps38
          go_upto_region 1 with (fail)
          try rw [HW.out]
          clear HW
          go_upto_region 3 with (first | (go_at_call 16; (refine (impl_IsValidGrouping.calls _ _ l0_0 _ _ l0_1 _ _ l1 _ _ (Kd.C_below HR0.out (by repeat (first | exact HBw.out | exact Below.refl _ _ | apply below_alloc | apply pw_below_drewN | apply below_drew1))) HC0.out (Kd.C_below HR1.out (by repeat (first | exact HBw.out | exact Below.refl _ _ | apply below_alloc | apply pw_below_drewN | apply below_drew1))) HC1.out (Kd.C_below HP1.out (by repeat (first | exact HBw.out | exact Below.refl _ _ | apply below_alloc | apply pw_below_drewN | apply below_drew1))) HPC.out HV.out).mono ?_); rintro e w1 ⟨rfl, hb⟩; have HBw : Aside0 (Below w.heap.size w w1) := Aside0.mk (below_chain (w := w) (by repeat (first | exact HBw.out | exact Below.refl _ _ | apply below_alloc | apply pw_below_drewN | apply below_drew1)) hb); have hb0 := pw_cell_below hb hb0; clear hb) | (go_at_call 59; (first | (with_reducible refine (impl_within.calls (i : Int) 0 ((l1.length : Int) - 1) _ _ HW2.out).mono ?_) | (with_reducible refine (impl_within.calls (k : Int) 0 ((l1.length : Int) - 1) _ _ HW3.out).mono ?_)); rintro e w2 ⟨rfl, hd⟩; have hb := hd.below; clear hd; have HBw : Aside0 (Below w.heap.size w w2) := Aside0.mk (below_chain (w := w) (by repeat (first | exact HBw.out | exact Below.refl _ _ | apply below_alloc | apply pw_below_drewN | apply below_drew1)) hb); have hb0 := pw_cell_below hb hb0; clear hb))
          go_upto_region 4 with ((go_at_call 72; (refine (impl_copyPhases.calls _ _ l1 _ (Kd.C_below HP1.out (by repeat (first | exact HBw.out | exact Below.refl _ _ | apply below_alloc | apply pw_below_drewN | apply below_drew1))) HPC.out (by have := HL6.out; omega) HMA.out).mono ?_); rintro e w3 ⟨v3, rfl, ho, hb⟩; have HS := Aside0.mk (Kd.S_lower ho HBw.out.size); have HBw : Aside0 (Below w.heap.size w w3) := Aside0.mk (below_chain (w := w) (by repeat (first | exact HBw.out | exact Below.refl _ _ | apply below_alloc | apply pw_below_drewN | apply below_drew1)) hb); have hb0 := pw_cell_below hb hb0; obtain ⟨A3, c3, rfl⟩ := Kd.S_slice ho; clear hb ho))
          clear hb0 hb1 hwl HV HW2 HW3 HMA
          obtain ⟨g, cg, eg, hgb, hgl, _⟩ := Kd.S_form HS.out (by omega)
          injection eg with eg1 eg0 eg2
          subst eg1; subst eg2; clear eg0
          obtain ⟨N, hN⟩ : ∃ N, w3.heap.size = N := ⟨_, rfl⟩
          have HX := Aside0.mk (show Kd.S k64 64 w3 w.heap.size (fun q => (fun _ => True) q ∧ ¬ (fun q => N ≤ q) q) (.slice (some ⟨g, 0, none⟩) l1.length c3) l1 from Kd.S_mono (Kd.S_bound HS.out) (fun q hq => ⟨trivial, fun h => by have := hq.2.2.1; rw [hN] at this; exact absurd h (Nat.not_le.2 this)⟩))
          obtain ⟨oki, ci, _, hMi, hcci, hfri, hoki, hHi⟩ := Kd.S_elem HX.out z64 (i : Int) h20 h21
          obtain ⟨_, ck, _, hMk, hcck, _, _, _⟩ := Kd.S_elem HX.out z64 (k : Int) h30 h31
          rw [Int.toNat_natCast] at hMi hMk hcci hcck hfri
          obtain ⟨pi, hpi⟩ : ∃ p, l1.getD i z64 = p := ⟨_, rfl⟩
          obtain ⟨pk, hpk⟩ : ∃ p, l1.getD k z64 = p := ⟨_, rfl⟩
          rw [hpi] at hMi HMI
          rw [hpk] at hMk HMI
          have HPI := Aside0.mk (And.intro hpi hpk)
          clear hpi hpk
          obtain ⟨vi, rfl, hRi⟩ := k64_openM hMi
          obtain ⟨Ak, dk, rfl, hdk, hCk⟩ := k64_open ((k64).K_of_M hMk)
          obtain ⟨Ai, di, e⟩ := Kd.R_slice hRi
          subst e
          have hGI := hRi.1
          have HS0 := Aside0.mk (show (fun w' : World => w'.cell? ⟨g, i * 2 + 1, none⟩ = some (.slice Ai pi.f1.length di) ∧ w'.cell? ⟨g, k * 2 + 1, none⟩ = some (.slice Ak pk.f1.length dk) ∧ w'.frozen? ⟨g, i * 2 + 1, none⟩ = false ∧ Aside0 (Kd.R (Kd.int .i64) 3 w' w.heap.size oki (.slice Ai pi.f1.length di) pi.f1) ∧ Aside0 (Kd.C (Kd.int .i64) w' Ak pk.f1.length pk.f1) ∧ Aside0 (Kd.H k64 64 w' w.heap.size (fun q => (fun _ => True) q ∧ ¬ (fun q => N ≤ q) q) (.slice (some ⟨g, 0, none⟩) l1.length c3) l1 (i : Int) oki [.string pi.f0, .slice Ai pi.f1.length di]) ∧ Aside0 (Below w.heap.size w w') ∧ Aside0 (w'.heap.size = N)) w3.drew from ⟨hcci 1 _ rfl, hcck 1 _ rfl, hfri 1, ⟨Kd.R_below hRi (below_drew1 (Below.refl _ _))⟩, ⟨Kd.C_below hCk (below_drew1 (Below.refl _ _))⟩, ⟨Kd.H_below hHi (below_drew1 (Below.refl _ _))⟩, ⟨below_chain (w := w) HBw.out (below_drew1 (Below.refl _ _))⟩, ⟨hN⟩⟩)
          have HG := Aside0.mk (And.intro hgb (And.intro (show g < N from by rw [← hN]; exact hgl) (And.intro hGI (fun q hq => (hoki q hq).2))))
          clear hMi hMk hcci hcck hfri hRi hCk hHi hdk hgb hgl hGI HX HS HBw hoki hN
          obtain ⟨ms, hms⟩ : ∃ s, pi.f1 ++ pk.f1 = s := ⟨_, rfl⟩
          have HML := Aside0.mk (show 0 < ms.length ∧ ms.length ≤ 1998 from by rw [← hms, List.length_append]; have h8 := HMI.out; omega)
          have HMS := Aside0.mk hms
          clear hms
          all_goals refine start_ (n := 16) (S := (fun w' : World => w'.cell? ⟨g, i * 2 + 1, none⟩ = some (.slice Ai pi.f1.length di) ∧ w'.cell? ⟨g, k * 2 + 1, none⟩ = some (.slice Ak pk.f1.length dk) ∧ w'.frozen? ⟨g, i * 2 + 1, none⟩ = false ∧ Aside0 (Kd.R (Kd.int .i64) 3 w' w.heap.size oki (.slice Ai pi.f1.length di) pi.f1) ∧ Aside0 (Kd.C (Kd.int .i64) w' Ak pk.f1.length pk.f1) ∧ Aside0 (Kd.H k64 64 w' w.heap.size (fun q => (fun _ => True) q ∧ ¬ (fun q => N ≤ q) q) (.slice (some ⟨g, 0, none⟩) l1.length c3) l1 (i : Int) oki [.string pi.f0, .slice Ai pi.f1.length di]) ∧ Aside0 (Below w.heap.size w w') ∧ Aside0 (w'.heap.size = N))) (ds := [12, 15]) (bl 0 16) (by kernel_rfl) rfl rfl HS0.out (fun hHeld => ?_); refine with_tabW impl_MergePhases.tab4 impl_MergePhases.bits4 (fun HT_ HW_ => ?_)
          all_goals generalize w3.drew = wv at hHeld ⊢
          all_goals first | refine pA_ 0 (some 38) (bl 1 16) HT_.out (h := ?_) | refine pO_ 0 (some 38) (bl 1 16) HT_.out (h := ?_)
          all_goals first | refine pA_ 1 (some 39) (bl 2 16) HT_.out (h := ?_) | refine pO_ 1 (some 39) (bl 2 16) HT_.out (h := ?_)
          all_goals first | refine pA_ 2 (some 40) (bl 3 16) HT_.out (h := ?_) | refine pO_ 2 (some 40) (bl 3 16) HT_.out (h := ?_)
          all_goals first | refine pA_ 3 (some 41) (bl 4 16) HT_.out (h := ?_) | refine pO_ 3 (some 41) (bl 4 16) HT_.out (h := ?_)
          all_goals first | refine pA_ 4 (some 42) (bl 5 16) HT_.out (h := ?_) | refine pO_ 4 (some 42) (bl 5 16) HT_.out (h := ?_)
          all_goals first | refine pA_ 5 (some 43) (bl 6 16) HT_.out (h := ?_) | refine pO_ 5 (some 43) (bl 6 16) HT_.out (h := ?_)
          all_goals first | refine pA_ 7 (some 45) (bx 6 [7] 16) HT_.out (h := ?_) | refine pO_ 7 (some 45) (bx 6 [7] 16) HT_.out (h := ?_)
          all_goals first | refine pA_ 8 (some 46) (bx 6 [7, 8] 16) HT_.out (h := ?_) | refine pO_ 8 (some 46) (bx 6 [7, 8] 16) HT_.out (h := ?_)
          all_goals first | refine pA_ 9 (some 47) (bx 6 [7, 8, 9] 16) HT_.out (h := ?_) | refine pO_ 9 (some 47) (bx 6 [7, 8, 9] 16) HT_.out (h := ?_)
          all_goals first | refine pA_ 10 (some 48) (bx 6 [7, 8, 9, 10] 16) HT_.out (h := ?_) | refine pO_ 10 (some 48) (bx 6 [7, 8, 9, 10] 16) HT_.out (h := ?_)
          all_goals first | refine tA_ 6 (some 44) (bl 11 16) HT_.out HW_.out hHeld (h := ?_) | refine pO_ 6 (some 44) (bl 11 16) HT_.out (h := ?_)
          all_goals first | refine tA_ 11 (some 49) (bl 12 16) HT_.out HW_.out hHeld (h := ?_) | refine pO_ 11 (some 49) (bl 12 16) HT_.out (h := ?_)
          all_goals (refine last_ (i := 12) (N := some 50) (bl 13 16) rfl rfl (one_of HT_.out (by kernel_rfl)) (by decide) (fun K hK => ?_); have HPRE := hHeld; refine Kd.R_append_rows_step (Kd.int .i64) (w0 := w) w.heap.size (by rfl) (.tmp 44) (.tmp 49) 45 3 (.int .i64 0) 8 rfl Try.underlying45 info3 rfl (by decide) (by decide) (.slice Ai pi.f1.length di) pi.f1 pk.f1 _ _ _ (fun q => oki q ∨ N ≤ q) (fun _ => False) rfl rfl (Kd.R_mono HPRE.2.2.2.1.out (fun q hq => .inl hq)) HPRE.2.2.2.2.1.out (fun _ _ h => h) (fun _ h => h.elim) (fun q hq => .inr (by have h8 := HPRE.2.2.2.2.2.2.2.out; omega)) HPRE.2.2.2.2.2.2.1.out (below_size HPRE.2.2.2.2.2.2.1.out) (by have h8 := HMI.out.2; omega) ?_; intro v4 w4 ho hb hg hat; rw [HMS.out] at ho; obtain ⟨A4, d4, e4⟩ := Kd.R_slice ho; subst e4; have HRo := Aside0.mk ho; have HB4 := Aside0.mk hb; have HH4 := Aside0.mk (Kd.H_grown HPRE.2.2.2.2.2.1.out hg HG.out.2.2.1); have hbk := hg.block g (by have h8 := HPRE.2.2.2.2.2.2.2.out; have h9 := HG.out.2.1; omega) (fun e => HG.out.2.2.2 g (HG.out.2.2.1 g e.symm) rfl); have hx4 : w4.cell? ⟨g, i * 2 + 1, none⟩ = some (.slice Ai pi.f1.length di) := (by have h1 := HPRE.1; simp only [World.cell?, hbk] at h1 ⊢; exact h1); have hf4 : w4.frozen? ⟨g, i * 2 + 1, none⟩ = false := (by have h1 := HPRE.2.2.1; simp only [World.frozen?, hbk] at h1 ⊢; exact h1); clear ho hb hg hat hbk HPRE; refine hK.out _ _ ?_; clear hK K; refine norm_ (a' := ?_) ?_ ?_; rotate_left; focus (show Act.put _ (some 50) _ = _; simp only [Act.put, List.setIfInBounds_toArray, List.set_cons_zero, List.set_cons_succ, i64_w, i32_w]; rfl))
          all_goals first | refine pA_ 13 (some 51) (bl 14 16) HT_.out (h := ?_) | refine pO_ 13 (some 51) (bl 14 16) HT_.out (h := ?_)
          all_goals first | refine pA_ 14 (some 52) (bl 15 16) HT_.out (h := ?_) | refine pO_ 14 (some 52) (bl 15 16) HT_.out (h := ?_)
          all_goals (refine last_ (i := 15) (N := none) (bl 16 16) rfl rfl (one_of HT_.out (by kernel_rfl)) (by decide) (fun K hK => ?_); refine skip_ (by rfl) rfl (by go_simp; rfl) ?_; skip; refine hK.out _ _ ?_; clear hK K)
          all_goals refine done_ (done_of HT_.out (by kernel_rfl)) ?_
          have HP := Kd.S_seg HH4.out h20 h21 (seg := [.slice A4 ms.length d4]) (j := 1) (show 2 ≤ 2 from by decide) (x' := ⟨pi.f0, ms⟩) (okp := fun q => oki q ∨ N ≤ q) (k64_mkM w4 w.heap.size (fun q => oki q ∨ N ≤ q) (⟨pi.f0, ms⟩ : S64) HRo.out) (fun _ hk => hk) (fun q hq => ⟨trivial, fun e => by have h9 := HG.out.2.1; have h8 : N ≤ q := hq; omega⟩)
          rw [Int.toNat_natCast] at HP
          have HS5 := Aside0.mk (show Kd.S k64 64 (w4.setCell ⟨g, i * 2 + 1, none⟩ (.slice A4 ms.length d4)) w.heap.size (fun _ => True) (.slice (some ⟨g, 0, none⟩) l1.length c3) (l1.set i ⟨pi.f0, ms⟩) from HP.1)
          have HB5 := Aside0.mk (show Below w.heap.size w (w4.setCell ⟨g, i * 2 + 1, none⟩ (.slice A4 ms.length d4)) from below_set HB4.out HG.out.1)
          clear HP HH4 HRo HB4 hx4 hf4
          generalize w4.setCell ⟨g, i * 2 + 1, none⟩ (.slice A4 ms.length d4) = w5 at HS5 HB5 ⊢
          obtain ⟨ok5, c5, _, hM5, hcc5, _, _, hH5⟩ := Kd.S_elem HS5.out z64 (i : Int) h20 h21
          have hg5 : (l1.set i (⟨pi.f0, ms⟩ : S64)).getD i z64 = ⟨pi.f0, ms⟩ := by rw [List.getD_eq_getElem?_getD, List.getElem?_set_self HIK.out.1]; rfl
          rw [Int.toNat_natCast] at hM5 hcc5
          rw [hg5] at hM5
          obtain ⟨v5, rfl, hR5⟩ := k64_openM hM5
          obtain ⟨A5, d5, e⟩ := Kd.R_slice hR5
          subst e
          have hx5 : w5.cell? ⟨g, i * 2 + 1, none⟩ = some (.slice A5 ms.length d5) := hcc5 1 _ rfl
          have HR5 := Aside0.mk hR5
          have HH5 := Aside0.mk hH5
          clear hM5 hcc5 hH5 hR5 hg5 HS5
          go_upto_region 6 with (go_at_call 73; (refine (slices_Sort_int_int.calls 3 _ ms w.heap.size ok5 _ HR5.out HML.out.1 (by have := HML.out.2; omega)).mono ?_); rintro e w6 ⟨rfl, hR, hg⟩; have HS6 := Aside0.mk (Kd.H_back (Kd.H_grown HH5.out hg HR5.out.1) (k64_mkM w6 w.heap.size ok5 (⟨pi.f0, srt ms⟩ : S64) hR) (fun _ hk => hk)); have HB6 := Aside0.mk (below_of_grown HB5.out hg (fun q hq => Kd.R_base HR5.out q hq)); clear hR hg hx5)
          rw [Int.toNat_natCast, List.set_set] at HS6
          have hwk : wrap64 ((k : Int) + 1) = (k : Int) + 1 := wrap_succ k (by have := HL6.out; have := HIK.out.2; omega)
          go_wp2_with (go_at_call 74; (refine (impl_Phase_74.calls w.heap.size (fun _ => True) _ (l1.set i ⟨pi.f0, srt ms⟩) k _ _ (by rw [List.length_set]; exact HIK.out.2) (by first | rfl | exact hwk) HS6.out).mono ?_); rintro e w7 ⟨v7, rfl, ho, hg⟩; obtain ⟨A7, d7, e7⟩ := Kd.S_slice ho; subst e7; have HO7 := Aside0.mk ho; have HB7 := Aside0.mk (below_of_grown HB6.out hg (fun q hq => by rw [← Option.some.inj hq]; exact HG.out.1)); clear ho hg)
          go_ret2
          have hr : (l1.set i (⟨pi.f0, srt ms⟩ : S64)).eraseIdx k = r1 := by
            have h1 := HH1.out
            unfold mrg at h1
            rw [HPI.out.1, HPI.out.2, HMS.out] at h1
            exact h1
          rw [← hr]
          exact ⟨_, rfl, HO7.out, HB7.out⟩
        · rw [if_neg (fun h => h3 h.2.2.2)] at H
          have HW2 := Aside0.mk (mp_in h2)
          have HW3 := Aside0.mk (mp_out h3)
          injection H with H1 H2
          subst H1; subst H2
          have hnb : (a2 == a3) = false := beq_eq_false_iff_ne.2 hne
          clear hb hll
          go_enter Try.func38, Try.ntmps38
          go_upto_region 1 with (fail)
          try rw [HW.out]
          clear HW
          go_wp2_with (first | (go_at_call 16; (refine (impl_IsValidGrouping.calls _ _ l0_0 _ _ l0_1 _ _ l1 _ _ (Kd.C_below HR0.out (by repeat (first | exact HBw.out | exact Below.refl _ _ | apply below_alloc | apply pw_below_drewN | apply below_drew1))) HC0.out (Kd.C_below HR1.out (by repeat (first | exact HBw.out | exact Below.refl _ _ | apply below_alloc | apply pw_below_drewN | apply below_drew1))) HC1.out (Kd.C_below HP1.out (by repeat (first | exact HBw.out | exact Below.refl _ _ | apply below_alloc | apply pw_below_drewN | apply below_drew1))) HPC.out HV.out).mono ?_); rintro e w1 ⟨rfl, hb⟩; have HBw : Aside0 (Below w.heap.size w w1) := Aside0.mk (below_chain (w := w) (by repeat (first | exact HBw.out | exact Below.refl _ _ | apply below_alloc | apply pw_below_drewN | apply below_drew1)) hb); have hb0 := pw_cell_below hb hb0; clear hb) | (go_at_call 59; (first | (with_reducible refine (impl_within.calls a2 0 ((l1.length : Int) - 1) _ _ HW2.out).mono ?_) | (with_reducible refine (impl_within.calls a3 0 ((l1.length : Int) - 1) _ _ HW3.out).mono ?_)); rintro e w2 ⟨rfl, hd⟩; have hb := hd.below; clear hd; have HBw : Aside0 (Below w.heap.size w w2) := Aside0.mk (below_chain (w := w) (by repeat (first | exact HBw.out | exact Below.refl _ _ | apply below_alloc | apply pw_below_drewN | apply below_drew1)) hb); have hb0 := pw_cell_below hb hb0; clear hb))
          go_ret2
          exact ⟨_, rfl, Kd.S_nil _ _ _ _ _, (by repeat (first | exact HBw.out | exact Below.refl _ _ | apply below_alloc | apply pw_below_drewN | apply below_drew1))⟩
      · rw [if_neg (fun h => h2 h.2.2.1)] at H
        have HW2 := Aside0.mk (mp_out h2)
        injection H with H1 H2
        subst H1; subst H2
        have hnb : (a2 == a3) = false := beq_eq_false_iff_ne.2 hne
        clear hb hll
        go_enter Try.func38, Try.ntmps38
        go_upto_region 1 with (fail)
        try rw [HW.out]
        clear HW
        go_wp2_with (first | (go_at_call 16; (refine (impl_IsValidGrouping.calls _ _ l0_0 _ _ l0_1 _ _ l1 _ _ (Kd.C_below HR0.out (by repeat (first | exact HBw.out | exact Below.refl _ _ | apply below_alloc | apply pw_below_drewN | apply below_drew1))) HC0.out (Kd.C_below HR1.out (by repeat (first | exact HBw.out | exact Below.refl _ _ | apply below_alloc | apply pw_below_drewN | apply below_drew1))) HC1.out (Kd.C_below HP1.out (by repeat (first | exact HBw.out | exact Below.refl _ _ | apply below_alloc | apply pw_below_drewN | apply below_drew1))) HPC.out HV.out).mono ?_); rintro e w1 ⟨rfl, hb⟩; have HBw : Aside0 (Below w.heap.size w w1) := Aside0.mk (below_chain (w := w) (by repeat (first | exact HBw.out | exact Below.refl _ _ | apply below_alloc | apply pw_below_drewN | apply below_drew1)) hb); have hb0 := pw_cell_below hb hb0; clear hb) | (go_at_call 59; (with_reducible refine (impl_within.calls a2 0 ((l1.length : Int) - 1) _ _ HW2.out).mono ?_); rintro e w2 ⟨rfl, hd⟩; have hb := hd.below; clear hd; have HBw : Aside0 (Below w.heap.size w w2) := Aside0.mk (below_chain (w := w) (by repeat (first | exact HBw.out | exact Below.refl _ _ | apply below_alloc | apply pw_below_drewN | apply below_drew1)) hb); have hb0 := pw_cell_below hb hb0; clear hb))
        go_ret2
        exact ⟨_, rfl, Kd.S_nil _ _ _ _ _, (by repeat (first | exact HBw.out | exact Below.refl _ _ | apply below_alloc | apply pw_below_drewN | apply below_drew1))⟩

end Go.Proofs.Ytenphfagdpkjaaa.Q
