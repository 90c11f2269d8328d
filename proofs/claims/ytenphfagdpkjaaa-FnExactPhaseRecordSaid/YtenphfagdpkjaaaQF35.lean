-- Written by a program of this session (wip/xprint.py over the kit's printer).
import Derived.Test.YtenphfagdpkjaaaQ0
import Derived.Test.YtenphfagdpkjaaaQF100
import Derived.Test.YtenphfagdpkjaaaQF16
import Derived.Test.YtenphfagdpkjaaaQF47
import Derived.Test.YtenphfagdpkjaaaQF51
import Derived.Test.YtenphfagdpkjaaaQF67
import Derived.Test.YtenphfagdpkjaaaQF83
import Derived.Test.YtenphfagdpkjaaaQF91
import Derived.Test.YtenphfagdpkjaaaQF99
import Derived.Test.YtenphfagdpkjaaaQP
namespace Go.Proofs.Ytenphfagdpkjaaa.Q
open Go.RowKit Go.Proofs.YtenphfagdpkjaaaW.PrintWords Go.Proofs.YtenphfagdpkjaaaW.PrintLast
set_option linter.unusedVariables false
set_option linter.unusedSimpArgs false

/-! ### impl_PhaseRecord: function 35 -/
theorem size_set (w : World) (a : Addr) (u : Value) : (w.setCell a u).heap.size = w.heap.size := by simp [World.setCell]
theorem Mat.grown {w w' : World} {N n : Nat} {M : Nat → Nat → Bool} (h : Mat w N n M) {row : Option Nat} (hg : w.grownBy w' row) (hr : ∀ k, row = some k → N + n < k) : Mat w' N n M :=
  ⟨h.top.of_block (hg.block N h.top.lt (fun e => by have := hr N e.symm; omega)), fun j hj => (h.row j hj).of_block (hg.block (N + 1 + j) (h.row j hj).lt (fun e => by have := hr _ e.symm; omega))⟩
def phCtx (i : Nat) : List S77 := (List.range i).map fun (a : Nat) => ⟨(a : Int) + 1, 1⟩
theorem phCtx_succ (i : Nat) : phCtx (i + 1) = phCtx i ++ [⟨(i : Int) + 1, 1⟩] := by unfold phCtx; rw [List.range_succ, List.map_append]; rfl
theorem phCtx_len (i : Nat) : (phCtx i).length = i := by simp [phCtx]
def phRow (T : Nat → Nat → Bool) (a k : Nat) : List S91 := ((List.range k).filter (T a)).map fun (b : Nat) => ⟨(a : Int) + 1, (b : Int) + 1⟩
theorem phRow_succ (T : Nat → Nat → Bool) (a k : Nat) : phRow T a (k + 1) = if T a k = true then phRow T a k ++ [⟨(a : Int) + 1, (k : Int) + 1⟩] else phRow T a k := by
  unfold phRow
  rw [List.range_succ, List.filter_append, List.map_append]
  cases h : T a k <;> simp [h]
theorem phRow_le (T : Nat → Nat → Bool) (a k : Nat) : (phRow T a k).length ≤ k := by
  unfold phRow
  rw [List.length_map]
  exact Nat.le_trans (List.length_filter_le _ _) (by simp)
def phRel (T : Nat → Nat → Bool) (m i k : Nat) : List S91 := ((List.range i).flatMap fun a => phRow T a m) ++ phRow T i k
theorem phRel_succ (T : Nat → Nat → Bool) (m i k : Nat) : phRel T m i (k + 1) = if T i k = true then phRel T m i k ++ [⟨(i : Int) + 1, (k : Int) + 1⟩] else phRel T m i k := by
  unfold phRel
  rw [phRow_succ]
  split <;> simp [List.append_assoc]
theorem phRel_row (T : Nat → Nat → Bool) (m i : Nat) : phRel T m i m = phRel T m (i + 1) 0 := by
  unfold phRel
  rw [List.range_succ, List.flatMap_append]
  simp [phRow]
theorem phRel_le (T : Nat → Nat → Bool) (m i k : Nat) : (phRel T m i k).length ≤ i * m + k := by
  have h : ∀ i, (((List.range i).flatMap fun a => phRow T a m)).length ≤ i * m := by
    intro i
    induction i with
    | zero => simp
    | succ i ih =>
      rw [List.range_succ, List.flatMap_append, List.length_append]
      have := phRow_le T i m
      simp only [List.flatMap_cons, List.flatMap_nil, List.append_nil]
      rw [Nat.succ_mul]
      omega
  unfold phRel
  rw [List.length_append]
  have := h i
  have := phRow_le T i k
  omega
/-- No phase stands above an earlier one. -/
def phGood (T : Nat → Nat → Bool) (m : Nat) : Bool := (List.range m).all fun i => (List.range m).all fun k => !(T i k && decide (k < i))
theorem phGood_no {T : Nat → Nat → Bool} {m i k : Nat} (hi : i < m) (hk : k < m) (h : T i k = true) (hlt : k < i) : phGood T m = false := by
  unfold phGood
  rw [List.all_eq_false]
  refine ⟨i, List.mem_range.2 hi, ?_⟩
  rw [show ((List.range m).all fun k => !(T i k && decide (k < i))) = false from by
    rw [List.all_eq_false]
    exact ⟨k, List.mem_range.2 hk, by simp [h, hlt]⟩]
  simp
theorem phGood_yes {T : Nat → Nat → Bool} {m : Nat} (h : ∀ i, i < m → ∀ k, k < m → T i k = true → ¬ k < i) : phGood T m = true := by
  unfold phGood
  rw [List.all_eq_true]
  intro i hi
  rw [List.all_eq_true]
  intro k hk
  cases hT : T i k with
  | false => rfl
  | true => simpa using h i (List.mem_range.1 hi) k (List.mem_range.1 hk) hT
def phRes (T : Nat → Nat → Bool) (m : Nat) : List S77 × List S91 × Bool := if phGood T m then (phCtx m, phRel T m m 0, true) else ([], [], false)
def impl_PhaseRecord.f (l0_0 : List S77) (l0_1 : List S91) (l1 : List S64) : Option (List S77 × List S91 × Bool) := if smallP l1 then some (if validG l0_0 l0_1 l1 then phRes (lpM l0_0 l1 (lat l0_0 l0_1)) l1.length else ([], [], false)) else none
set_option maxHeartbeats 8000000 in
set_option maxRecDepth 100000 in
theorem impl_PhaseRecord.calls (A0_0 : Option Addr) (c0_0 : Nat) (l0_0 : List S77) (A0_1 : Option Addr) (c0_1 : Nat) (l0_1 : List S91) (A1 : Option Addr) (c1 : Nat) (l1 : List S64) (r1 : List S77) (r2 : List S91) (r3 : Bool) (w : World) (hr0_0 : Kd.C k77 w A0_0 l0_0.length l0_0) (hc0_0 : l0_0.length ≤ c0_0) (hr0_1 : Kd.C k91 w A0_1 l0_1.length l0_1) (hc0_1 : l0_1.length ≤ c0_1) (hr1 : Kd.C k64 w A1 l1.length l1) (hc1 : l1.length ≤ c1) (h : impl_PhaseRecord.f l0_0 l0_1 l1 = some (r1, r2, r3)) :
    Calls Try.prog 35 #[.agg #[.slice A0_0 l0_0.length c0_0, .slice A0_1 l0_1.length c0_1], .slice A1 l1.length c1] w fun e w' => ∃ v0_ v1_ : Value, e = .returned (.tuple #[.agg #[v0_, v1_], .bool r3]) ∧ Kd.R k77 77 w' w.heap.size (fun _ => True) v0_ r1 ∧ Kd.R k91 91 w' w.heap.size (fun _ => True) v1_ r2 ∧ Below w.heap.size w w' := by
  have hs : smallP l1 = true := by
    unfold impl_PhaseRecord.f at h
    by_cases hs : smallP l1 = true
    · exact hs
    · rw [if_neg hs] at h; cases h
  unfold impl_PhaseRecord.f at h
  rw [if_pos hs] at h
  have HSM := Aside0.mk hs
  have HP1 := Aside0.mk hr1
  have HPC := Aside0.mk hc1
  have H := Option.some.inj h
  clear hs hr1 hc1 h
  have HR0 := Aside0.mk hr0_0
  have HR1 := Aside0.mk hr0_1
  have HC0 := Aside0.mk hc0_0
  have HC1 := Aside0.mk hc0_1
  clear hr0_0 hr0_1 hc0_0 hc0_1
  obtain ⟨wb, hwb⟩ : ∃ wb, ((w).alloc (.cells #[.slice A0_0 l0_0.length c0_0, .slice A0_1 l0_1.length c0_1] 33 (0, 0))).alloc (.cells #[.slice none 0 0, .slice none 0 0] 33 (0, 0)) = wb := ⟨_, rfl⟩
  have HBw := Aside0.mk (show Below w.heap.size w wb from by rw [← hwb]; repeat (first | exact Below.refl _ _ | apply below_alloc))
  have HWB := HBw
  have hhr : wb.heap[w.heap.size]? = some (.cells #[.slice A0_0 l0_0.length c0_0, .slice A0_1 l0_1.length c0_1] 33 (0, 0)) := by rw [← hwb]; have h := blk_new (w) (.cells #[.slice A0_0 l0_0.length c0_0, .slice A0_1 l0_1.length c0_1] 33 (0, 0)); rw [show (w).heap.size = w.heap.size from by rfl] at h; exact blk_alloc (h) _
  have hb0 : wb.cell? ⟨w.heap.size, 0, none⟩ = some (.slice A0_0 l0_0.length c0_0) := (blk_cell hhr 0).trans rfl
  have hb1 : wb.cell? ⟨w.heap.size, 1, none⟩ = some (.slice A0_1 l0_1.length c0_1) := (blk_cell hhr 1).trans rfl
  have hh0 : wb.heap[w.heap.size + 1]? = some (.cells #[.slice none 0 0, .slice none 0 0] 33 (0, 0)) := by rw [← hwb]; have h := blk_new ((w).alloc (.cells #[.slice A0_0 l0_0.length c0_0, .slice A0_1 l0_1.length c0_1] 33 (0, 0))) (.cells #[.slice none 0 0, .slice none 0 0] 33 (0, 0)); rw [show ((w).alloc (.cells #[.slice A0_0 l0_0.length c0_0, .slice A0_1 l0_1.length c0_1] 33 (0, 0))).heap.size = w.heap.size + 1 from by simp] at h; exact h
  have hx0 : wb.cell? ⟨w.heap.size + 1, 0, none⟩ = some (.slice none 0 0) := (blk_cell hh0 0).trans rfl
  have hx0_1 : wb.cell? ⟨w.heap.size + 1, 1, none⟩ = some (.slice none 0 0) := (blk_cell hh0 1).trans rfl
  have hbs : w.heap.size + 1 < wb.heap.size := blk_lt hh0
  have HW := Aside0.mk hwb
  clear hwb
  clear hhr
  obtain ⟨b, hb⟩ : ∃ b, goodB l0_0 l0_1 = b := ⟨_, rfl⟩
  have HGB := Aside0.mk hb
  unfold validG at H
  rw [hb] at H
  have hf1 := blk_frozen hh0 0
  have hf2 := blk_frozen hh0 1
  cases b with
  | false =>
    clear hb
    injection H with H1 H2
    injection H2 with H2 H3
    subst H1; subst H2; subst H3
    go_enter Try.func35, Try.ntmps35
    go_upto_region 1 with (fail)
    try rw [HW.out]
    clear HW
    go_upto_region 2 with (go_at_call 47; (refine (impl_readGrouping.bad _ _ l0_0 _ _ l0_1 _ _ l1 _ (Kd.C_below HR0.out (by repeat (first | exact HBw.out | exact Below.refl _ _ | apply below_alloc | apply pw_below_drewN | apply below_drew1))) HC0.out (Kd.C_below HR1.out (by repeat (first | exact HBw.out | exact Below.refl _ _ | apply below_alloc | apply pw_below_drewN | apply below_drew1))) HC1.out (Kd.C_below HP1.out (by repeat (first | exact HBw.out | exact Below.refl _ _ | apply below_alloc | apply pw_below_drewN | apply below_drew1))) HPC.out HGB.out).mono ?_); rintro e w1 ⟨rfl, hb⟩; have HBw : Aside0 (Below w.heap.size w w1) := Aside0.mk (below_chain (w := w) (by repeat (first | exact HBw.out | exact Below.refl _ _ | apply below_alloc | apply pw_below_drewN | apply below_drew1)) hb); have hb0 := pw_cell_below hb hb0; have hb1 := pw_cell_below hb hb1; have hx0 := pw_cell_below hb hx0; have hx0_1 := pw_cell_below hb hx0_1; have hh0 := blk_below hh0 hb; clear hf1 hf2; have hf1 := blk_frozen hh0 0; have hf2 := blk_frozen hh0 1; clear hb)
    go_wp2
    refine bodyPost_ret (results_ct rfl _ _ (w.heap.size + 1) 33 #[.slice none 0 0, .slice none 0 0] (0, 0) _ rfl (blk_put (blk_put hh0 0 _ rfl) 1 _ rfl) Try.underlying33 rfl (by kernel_rfl)) rfl ?_
    exact ⟨_, _, rfl, Kd.R_nil _ _ _ _ _, Kd.R_nil _ _ _ _ _, by repeat (first | exact HBw.out | refine below_set ?_ (by show w.heap.size ≤ w.heap.size + 1; omega))⟩
  | true =>
    have HG := Aside0.mk (goodB_parts hb)
    clear hb
    obtain ⟨b2, hb2⟩ : ∃ b, (consB l0_0.length (lat l0_0 l0_1) && grpB l0_0 l1) = b := ⟨_, rfl⟩
    rw [hb2] at H
    have HCB := Aside0.mk hb2
    clear hb2
    cases b2 with
    | false =>
      injection H with H1 H2
      injection H2 with H2 H3
      subst H1; subst H2; subst H3
      go_enter Try.func35, Try.ntmps35
      go_upto_region 1 with (fail)
      try rw [HW.out]
      clear HW
      go_upto_region 2 with (go_at_call 47; (refine (impl_readGrouping.calls _ _ l0_0 _ _ l0_1 _ _ l1 _ (Kd.C_below HR0.out (by repeat (first | exact HBw.out | exact Below.refl _ _ | apply below_alloc | apply pw_below_drewN | apply below_drew1))) HC0.out (Kd.C_below HR1.out (by repeat (first | exact HBw.out | exact Below.refl _ _ | apply below_alloc | apply pw_below_drewN | apply below_drew1))) HC1.out (Kd.C_below HP1.out (by repeat (first | exact HBw.out | exact Below.refl _ _ | apply below_alloc | apply pw_below_drewN | apply below_drew1))) HPC.out HGB.out HSM.out).mono ?_); rintro e w1 ⟨p, rfl, N1, N2, A, c, HO⟩; rw [HCB.out]; have hb := HO.below; have HBw : Aside0 (Below w.heap.size w w1) := Aside0.mk (below_chain (w := w) (by repeat (first | exact HBw.out | exact Below.refl _ _ | apply below_alloc | apply pw_below_drewN | apply below_drew1)) hb); have hb0 := pw_cell_below hb hb0; have hb1 := pw_cell_below hb hb1; have hx0 := pw_cell_below hb hx0; have hx0_1 := pw_cell_below hb hx0_1; have hh0 := blk_below hh0 hb; clear hf1 hf2; have hf1 := blk_frozen hh0 0; have hf2 := blk_frozen hh0 1; clear hb HO)
      go_wp2
      refine bodyPost_ret (results_ct rfl _ _ (w.heap.size + 1) 33 #[.slice none 0 0, .slice none 0 0] (0, 0) _ rfl (blk_put (blk_put hh0 0 _ rfl) 1 _ rfl) Try.underlying33 rfl (by kernel_rfl)) rfl ?_
      exact ⟨_, _, rfl, Kd.R_nil _ _ _ _ _, Kd.R_nil _ _ _ _ _, by repeat (first | exact HBw.out | refine below_set ?_ (by show w.heap.size ≤ w.heap.size + 1; omega))⟩
    | true =>
      have HN := Aside0.mk HG.out.1
      have hl6 : l1.length ≤ 6 := by
        have h1 : grpB l0_0 l1 = true := (Bool.and_eq_true _ _ ▸ HCB.out : _ ∧ _).2
        unfold grpB at h1
        rw [Bool.and_eq_true] at h1
        exact of_decide_eq_true h1.2
      have HRES := Aside0.mk (show phRes (lpM l0_0 l1 (lat l0_0 l0_1)) l1.length = (r1, r2, r3) from H)
      have HZ := Aside0.mk hh0
      clear H hf1 hf2 hx0 hx0_1 hh0
      go_enter Try.func35, Try.ntmps35
      go_upto_region 1 with (fail)
      try rw [HW.out]
      clear HW
      go_upto_region 4 with (go_at_call 47; (refine (impl_readGrouping.calls _ _ l0_0 _ _ l0_1 _ _ l1 _ (Kd.C_below HR0.out (by repeat (first | exact HBw.out | exact Below.refl _ _ | apply below_alloc | apply pw_below_drewN | apply below_drew1))) HC0.out (Kd.C_below HR1.out (by repeat (first | exact HBw.out | exact Below.refl _ _ | apply below_alloc | apply pw_below_drewN | apply below_drew1))) HC1.out (Kd.C_below HP1.out (by repeat (first | exact HBw.out | exact Below.refl _ _ | apply below_alloc | apply pw_below_drewN | apply below_drew1))) HPC.out HGB.out HSM.out).mono ?_); rintro e w1 ⟨p, rfl, N1, N2, A, c, HO⟩; rw [HCB.out]; have hb := HO.below; have HBw : Aside0 (Below w.heap.size w w1) := Aside0.mk (below_chain (w := w) (by repeat (first | exact HBw.out | exact Below.refl _ _ | apply below_alloc | apply pw_below_drewN | apply below_drew1)) hb); have hb0 := pw_cell_below hb hb0; have HOA := Aside0.mk HO; have HZ := Aside0.mk (blk_below HZ.out hb); clear hb HO)
      clear hb0 hb1
      go_upto_region 5 with (fail)
      obtain ⟨bo, hbo⟩ : ∃ g, w1.heap.size = g := ⟨_, rfl⟩
      have HBO := Aside0.mk (below_alloc (Below.refl w1.heap.size w1) (.cells #[.slice none 0 0, .slice none 0 0] 33 (0, 0)))
      have BO := Aside0.mk (blk_new w1 (.cells #[.slice none 0 0, .slice none 0 0] 33 (0, 0)))
      have HNE := Aside0.mk (blk_lt HZ.out)
      have HBS := Aside0.mk HBw.out.size
      replace HBw := Aside0.mk (below_chain HBw.out HBO.out)
      replace HZ := Aside0.mk (blk_below HZ.out HBO.out)
      replace HOA := Aside0.mk (HOA.out.step HBO.out)
      generalize w1.alloc (.cells #[.slice none 0 0, .slice none 0 0] 33 (0, 0)) = w3 at HBO BO HBw HZ HOA ⊢
      rw [hbo] at BO HNE HBS
      try rw [hbo]
      clear hbo HBO
      have HL6 := Aside0.mk hl6
      go_upto_region 6 with (go_at_call 67; (refine (impl_laterPhases.calls _ p N1 N2 A c l0_0 _ _ _ _ l1 _ HOA.out HN.out (Kd.C_below HP1.out HBw.out) HPC.out HL6.out).mono ?_); rintro e w2 ⟨N, rfl, hNN, hMt, hb⟩; have BO0 := BO; have HMT := Aside0.mk hMt; have BO := Aside0.mk (blk_below BO.out hb); have HZ := Aside0.mk (blk_below HZ.out hb); have HBw := Aside0.mk (below_chain HBw.out hb); have HNN := Aside0.mk (Nat.lt_of_lt_of_le (blk_lt BO0.out) hNN); clear hMt hb hNN BO0)
      clear HOA
      obtain ⟨T, hT⟩ : ∃ T, lpM l0_0 l1 (lat l0_0 l0_1) = T := ⟨_, rfl⟩
      rw [hT] at HMT HRES
      obtain ⟨m, hm⟩ : ∃ m, l1.length = m := ⟨_, rfl⟩
      rw [hm] at HMT HRES HL6 hl6 ⊢
      clear hT hm HP1 HPC
      have HW2 := Aside0.mk HBw.out.size
      have HNL := Aside0.mk HMT.out.lt
      have HSS := Aside0.mk (Nat.le_refl w2.heap.size)
      have HB := HBw
      have HRc := Aside0.mk (show Kd.R k77 77 w2 w2.heap.size (fun _ => True) (.slice none 0 0) (phCtx 0) from Kd.R_nil _ _ _ _ _)
      have HRr := Aside0.mk (show Kd.R k91 91 w2 w2.heap.size (fun _ => True) (.slice none 0 0) (phRel T m 0 0) from Kd.R_nil _ _ _ _ _)
      clear HBw
      go_loopg [9, 10, 11, 12, 27] m (fun gg _ _ _ _ s27 wr => ∃ (i : Nat) (vc vr : Value), i ≤ m ∧ m - i ≤ gg ∧ s27 = .int .i64 i ∧ Aside0 (∀ a, a < i → ∀ b, b < m → T a b = true → ¬ b < a) ∧ Aside0 (Below w.heap.size w wr) ∧ Aside0 (w2.heap.size ≤ wr.heap.size) ∧ Aside0 (Mat wr N m T) ∧ Aside0 (wr.heap[w.heap.size + 1]? = some (.cells #[.slice none 0 0, .slice none 0 0] 33 (0, 0))) ∧ Aside0 (wr.heap[bo]? = some (.cells #[vc, vr] 33 (0, 0))) ∧ Aside0 (Kd.R k77 77 wr w2.heap.size (fun _ => True) vc (phCtx i)) ∧ Aside0 (Kd.R k91 91 wr w2.heap.size (fun _ => True) vr (phRel T m i 0)))
      case atStart => exact ⟨0, _, _, Nat.zero_le _, by omega, rfl, ⟨fun a ha => absurd ha (Nat.not_lt_zero _)⟩, HB, HSS, HMT, HZ, BO, HRc, HRr⟩
      case round =>
        clear HB HSS HMT HZ BO HRc HRr
        obtain ⟨i, vc, vr, hi, hgg, rfl, HAG, HB, HS2, HMT, HZ, BO, HRc, HRr⟩ := hrel
        by_cases hil : i < m
        · have hilz : (i : Int) < (m : Int) := by omega
          have g2 := HMT.out.topc hil
          have q0 : wr.cell? ⟨bo, 0, none⟩ = some vc := (blk_cell BO.out 0).trans rfl
          have HCL := Aside0.mk (show ((phCtx i).length + 1) * 16 ≤ 140737488355328 from by rw [phCtx_len]; have := HL6.out; omega)
          go_upto_region 8 with (fail)
          clear g2
          go_upto_region 9 with ((with_reducible refine gate_builtin (b := .append) (xs := #[.tmp 33, .tmp 37]) rfl ?_); at_builtin; refine Kd.R_append k77 (w0 := wr) w2.heap.size rfl (.tmp 33) (.tmp 37) 30 77 (.agg #[(.int .i64 0), (.int .i64 0)]) 16 rfl Try.underlying30 info77 rfl (by decide) (by decide) vc (phCtx i) (⟨(i : Int) + 1, 1⟩ : S77) [.int .i64 ((i : Int) + 1), .int .i64 1] (fun _ => True) (fun _ => False) rfl rfl (k77_mkM _ _ _ (⟨(i : Int) + 1, 1⟩ : S77)) (fun _ hk => hk.elim) (fun _ _ => trivial) ?aO ?aB ?aS ?aL ?_; (case aO => exact HRc.out); (case aB => exact Below.refl _ _); (case aS => exact HS2.out); (case aL => exact HCL.out); intro v1 w5 ho hb hg hat; obtain ⟨D1, d1, rfl, hd1, hC1⟩ := Kd.R_reads ho; clear hd1 hC1 hat; have HX4 := Aside0.mk (show Kd.R k77 77 w5 w2.heap.size (fun _ => True) (.slice D1 (phCtx i ++ [(⟨(i : Int) + 1, 1⟩ : S77)]).length d1) (phCtx (i + 1)) from by rw [phCtx_succ]; exact ho); rw [List.length_append, List.length_singleton] at HX4; have HY4 := Aside0.mk (Kd.R_grown2 HRr.out rfl hg (rows_ne HRc.out HRr.out (by decide))); have HB4 := Aside0.mk (HB.out.grown hg HB.out.size (fun k hk => Nat.le_trans HW2.out (Kd.R_base HRc.out k hk))); have HM4 := Aside0.mk (Mat.grown HMT.out hg (fun k hk => Nat.lt_of_lt_of_le HNL.out (Kd.R_base HRc.out k hk))); have BO4 := Aside0.mk (blk_grown BO.out hg (Kd.R_ne HRc.out BO.out (by decide))); have HZ4 := Aside0.mk (blk_grown HZ.out hg (Kd.R_ne HRc.out HZ.out (by decide))); have HS4 := Aside0.mk (Nat.le_trans HS2.out hg.size); have hq0 : w5.cell? ⟨bo, 0, none⟩ = some vc := (blk_cell BO4.out 0).trans rfl; have fq0 := blk_frozen BO4.out 0; clear ho hb hg)
          have HB6 := Aside0.mk (below_set (g := bo) (j := 0) (v := .slice D1 ((phCtx i).length + 1) d1) HB4.out HBS.out)
          have HS6 := Aside0.mk (show w2.heap.size ≤ (w5.setCell ⟨bo, 0, none⟩ (.slice D1 ((phCtx i).length + 1) d1)).heap.size from by rw [size_set]; exact HS4.out)
          have HM6 := Aside0.mk (HM4.out.setOther (a := ⟨bo, 0, none⟩) (.inl HNN.out) (.slice D1 ((phCtx i).length + 1) d1))
          have HZ6 := Aside0.mk (blk_far HZ4.out (p := ⟨bo, 0, none⟩) (Nat.ne_of_lt HNE.out) (.slice D1 ((phCtx i).length + 1) d1))
          have BO6 := Aside0.mk (blk_put BO4.out 0 (.slice D1 ((phCtx i).length + 1) d1) rfl)
          have HX6 := Aside0.mk (Kd.R_set HX4.out BO4.out (by decide) 0 (.slice D1 ((phCtx i).length + 1) d1))
          have HY6 := Aside0.mk (Kd.R_set HY4.out BO4.out (by decide) 0 (.slice D1 ((phCtx i).length + 1) d1))
          clear HX4 HY4 HB4 HM4 HZ4 HS4 BO4 hq0 fq0 HB HS2 HMT HZ BO HRc HRr HCL
          generalize w5.setCell ⟨bo, 0, none⟩ (.slice D1 ((phCtx i).length + 1) d1) = w6 at HB6 HS6 HM6 HZ6 BO6 HX6 HY6 ⊢
          obtain ⟨vc2, hvc2⟩ : ∃ x, (.slice D1 ((phCtx i).length + 1) d1 : Value) = x := ⟨_, rfl⟩
          rw [hvc2] at BO6 HX6
          clear hvc2
          go_upto_region 10 with (fail)
          obtain ⟨w7, rfl⟩ : ∃ y, y = wr := ⟨_, rfl⟩
          go_loopg [11, 12, 42] m (fun gg _ _ s42 wr => ∃ (k : Nat) (vr : Value), k ≤ m ∧ m - k ≤ gg ∧ s42 = .int .i64 k ∧ Aside0 (∀ b, b < k → T i b = true → ¬ b < i) ∧ Aside0 (Below w.heap.size w wr) ∧ Aside0 (w2.heap.size ≤ wr.heap.size) ∧ Aside0 (Mat wr N m T) ∧ Aside0 (wr.heap[w.heap.size + 1]? = some (.cells #[.slice none 0 0, .slice none 0 0] 33 (0, 0))) ∧ Aside0 (wr.heap[bo]? = some (.cells #[vc2, vr] 33 (0, 0))) ∧ Aside0 (Kd.R k77 77 wr w2.heap.size (fun _ => True) vc2 (phCtx (i + 1))) ∧ Aside0 (Kd.R k91 91 wr w2.heap.size (fun _ => True) vr (phRel T m i k)))
          case atStart => exact ⟨0, _, Nat.zero_le _, by omega, rfl, ⟨fun b hb => absurd hb (Nat.not_lt_zero _)⟩, HB6, HS6, HM6, HZ6, BO6, HX6, HY6⟩
          case round =>
            clear HB6 HS6 HM6 HZ6 BO6 HX6 HY6
            obtain ⟨k, vr, hk, hgg2, rfl, HAK, HB, HS2, HMT, HZ, BO, HRc, HRr⟩ := hrel
            by_cases hkl : k < m
            · have hklz : (k : Int) < (m : Int) := by omega
              have g3 := HMT.out.cell hil hkl
              have HSC := phRel_succ T m i k
              obtain ⟨mb, hmb⟩ : ∃ x, T i k = x := ⟨_, rfl⟩
              rw [hmb] at g3 HSC
              cases mb with
              | false =>
                rw [if_neg (by simp)] at HSC
                have HSB := Aside0.mk HSC
                have HKA := Aside0.mk (show ∀ b, b < k + 1 → T i b = true → ¬ b < i from fun b hb hT => by
                  by_cases e : b = k
                  · subst e; rw [hmb] at hT; cases hT
                  · exact HAK.out b (by omega) hT)
                clear HSC hmb
                go_wp2
                go_roundg (m - (k + 1))
                case measure => omega
                case rel => exact ⟨k + 1, vr, by omega, by omega, by first | go_num | exact congrArg (Value.int .i64) (wrap_succ k (by have := HL6.out; omega)), HKA, HB, HS2, HMT, HZ, BO, HRc, by rw [HSB.out]; exact HRr⟩
              | true =>
                rw [if_pos rfl] at HSC
                have HSC := Aside0.mk HSC
                by_cases hlt : k < i
                · have hltz : (k : Int) < (i : Int) := by omega
                  have H := HRES.out
                  unfold phRes at H
                  rw [phGood_no hil hkl hmb hlt, if_neg (by simp)] at H
                  injection H with H1 H2
                  injection H2 with H2 H3
                  subst H1; subst H2; subst H3
                  have hh0 := HZ.out
                  have hx0 : wr.cell? ⟨w.heap.size + 1, 0, none⟩ = some (.slice none 0 0) := (blk_cell hh0 0).trans rfl
                  have hx1 : wr.cell? ⟨w.heap.size + 1, 1, none⟩ = some (.slice none 0 0) := (blk_cell hh0 1).trans rfl
                  have hf1 := blk_frozen hh0 0
                  have hf2 := blk_frozen hh0 1
                  clear hmb
                  go_wp2
                  refine bodyPost_ret (results_ct rfl _ _ (w.heap.size + 1) 33 #[.slice none 0 0, .slice none 0 0] (0, 0) _ rfl (blk_put (blk_put hh0 0 _ rfl) 1 _ rfl) Try.underlying33 rfl (by kernel_rfl)) rfl ?_
                  exact ⟨_, _, rfl, Kd.R_nil _ _ _ _ _, Kd.R_nil _ _ _ _ _, below_set (below_set HB.out (by omega)) (by omega)⟩
                · have hltz : ¬ ((k : Int) < (i : Int)) := by omega
                  have HKA := Aside0.mk (show ∀ b, b < k + 1 → T i b = true → ¬ b < i from fun b hb hT => by
                    by_cases e : b = k
                    · subst e; exact hlt
                    · exact HAK.out b (by omega) hT)
                  have q1 : wr.cell? ⟨bo, 1, none⟩ = some vr := (blk_cell BO.out 1).trans rfl
                  have HCL := Aside0.mk (show ((phRel T m i k).length + 1) * 16 ≤ 140737488355328 from by
                    have h1 := phRel_le T m i k
                    have h2 : i * m ≤ 6 * 6 := Nat.mul_le_mul (by omega) hl6
                    omega)
                  clear hmb
                  go_upto_region 16 with ((with_reducible refine gate_builtin (b := .append) (xs := #[.tmp 56, .tmp 62]) rfl ?_); at_builtin; refine Kd.R_append k91 (w0 := wr) w2.heap.size rfl (.tmp 56) (.tmp 62) 31 91 (.agg #[(.int .i64 0), (.int .i64 0)]) 16 rfl Try.underlying31 info91 rfl (by decide) (by decide) vr (phRel T m i k) (⟨(i : Int) + 1, (k : Int) + 1⟩ : S91) [.int .i64 ((i : Int) + 1), .int .i64 ((k : Int) + 1)] (fun _ => True) (fun _ => False) rfl rfl (k91_mkM _ _ _ (⟨(i : Int) + 1, (k : Int) + 1⟩ : S91)) (fun _ hk => hk.elim) (fun _ _ => trivial) ?aO ?aB ?aS ?aL ?_; (case aO => exact HRr.out); (case aB => exact Below.refl _ _); (case aS => exact HS2.out); (case aL => exact HCL.out); intro v1 w5 ho hb hg hat; obtain ⟨D1, d1, rfl, hd1, hC1⟩ := Kd.R_reads ho; clear hd1 hC1 hat; have HY4 := Aside0.mk (show Kd.R k91 91 w5 w2.heap.size (fun _ => True) (.slice D1 (phRel T m i k ++ [(⟨(i : Int) + 1, (k : Int) + 1⟩ : S91)]).length d1) (phRel T m i (k + 1)) from by rw [HSC.out]; exact ho); rw [List.length_append, List.length_singleton] at HY4; have HX4 := Aside0.mk (Kd.R_grown2 HRc.out rfl hg (rows_ne HRr.out HRc.out (by decide))); have HB4 := Aside0.mk (HB.out.grown hg HB.out.size (fun k hk => Nat.le_trans HW2.out (Kd.R_base HRr.out k hk))); have HM4 := Aside0.mk (Mat.grown HMT.out hg (fun k hk => Nat.lt_of_lt_of_le HNL.out (Kd.R_base HRr.out k hk))); have BO4 := Aside0.mk (blk_grown BO.out hg (Kd.R_ne HRr.out BO.out (by decide))); have HZ4 := Aside0.mk (blk_grown HZ.out hg (Kd.R_ne HRr.out HZ.out (by decide))); have HS4 := Aside0.mk (Nat.le_trans HS2.out hg.size); have hq0 : w5.cell? ⟨bo, 1, none⟩ = some vr := (blk_cell BO4.out 1).trans rfl; have fq0 := blk_frozen BO4.out 1; clear ho hb hg)
                  have HB6 := Aside0.mk (below_set (g := bo) (j := 1) (v := .slice D1 ((phRel T m i k).length + 1) d1) HB4.out HBS.out)
                  have HS6 := Aside0.mk (show w2.heap.size ≤ (w5.setCell ⟨bo, 1, none⟩ (.slice D1 ((phRel T m i k).length + 1) d1)).heap.size from by rw [size_set]; exact HS4.out)
                  have HM6 := Aside0.mk (HM4.out.setOther (a := ⟨bo, 1, none⟩) (.inl HNN.out) (.slice D1 ((phRel T m i k).length + 1) d1))
                  have HZ6 := Aside0.mk (blk_far HZ4.out (p := ⟨bo, 1, none⟩) (Nat.ne_of_lt HNE.out) (.slice D1 ((phRel T m i k).length + 1) d1))
                  have BO6 := Aside0.mk (blk_put BO4.out 1 (.slice D1 ((phRel T m i k).length + 1) d1) rfl)
                  have HX6 := Aside0.mk (Kd.R_set HX4.out BO4.out (by decide) 1 (.slice D1 ((phRel T m i k).length + 1) d1))
                  have HY6 := Aside0.mk (Kd.R_set HY4.out BO4.out (by decide) 1 (.slice D1 ((phRel T m i k).length + 1) d1))
                  clear HX4 HY4 HB4 HM4 HZ4 HS4 BO4 hq0 fq0 HB HS2 HMT HZ BO HRc HRr HCL q1 g3
                  generalize w5.setCell ⟨bo, 1, none⟩ (.slice D1 ((phRel T m i k).length + 1) d1) = w8 at HB6 HS6 HM6 HZ6 BO6 HX6 HY6 ⊢
                  obtain ⟨vr2, hvr2⟩ : ∃ x, (.slice D1 ((phRel T m i k).length + 1) d1 : Value) = x := ⟨_, rfl⟩
                  rw [hvr2] at BO6 HY6
                  clear hvr2
                  go_wp2
                  go_roundg (m - (k + 1))
                  case measure => omega
                  case rel => exact ⟨k + 1, _, by omega, by omega, by first | go_num | exact congrArg (Value.int .i64) (wrap_succ k (by have := HL6.out; omega)), HKA, HB6, HS6, HM6, HZ6, BO6, HX6, HY6⟩
            · obtain rfl : k = m := by omega
              have hkz : ¬ ((k : Int) < (k : Int)) := by omega
              have HRW := Aside0.mk (phRel_row T k i)
              have HAI := Aside0.mk (show ∀ a, a < i + 1 → ∀ b, b < k → T a b = true → ¬ b < a from fun a ha b hb hT => by
                by_cases e : a = i
                · subst e; exact HAK.out b hb hT
                · exact HAG.out a (by omega) b hb hT)
              go_wp2
              go_roundg (k - (i + 1))
              case measure => omega
              case rel => exact ⟨i + 1, _, _, by omega, by omega, by first | go_num | exact congrArg (Value.int .i64) (wrap_succ i (by have := HL6.out; omega)), HAI, HB, HS2, HMT, HZ, BO, HRc, by rw [← HRW.out]; exact HRr⟩
        · obtain rfl : i = m := by omega
          have hkz : ¬ ((i : Int) < (i : Int)) := by omega
          have H := HRES.out
          unfold phRes at H
          rw [phGood_yes HAG.out, if_pos rfl] at H
          injection H with H1 H2
          injection H2 with H2 H3
          subst H1; subst H2; subst H3
          have q0 := (blk_cell BO.out 0).trans rfl
          have q1 := (blk_cell BO.out 1).trans rfl
          have hh0 := HZ.out
          have hx0 : wr.cell? ⟨w.heap.size + 1, 0, none⟩ = some (.slice none 0 0) := (blk_cell hh0 0).trans rfl
          have hx1 : wr.cell? ⟨w.heap.size + 1, 1, none⟩ = some (.slice none 0 0) := (blk_cell hh0 1).trans rfl
          have hf1 := blk_frozen hh0 0
          have hf2 := blk_frozen hh0 1
          obtain ⟨C0, d0, rfl, _, _⟩ := Kd.R_reads HRc.out
          obtain ⟨C1, e0, rfl, _, _⟩ := Kd.R_reads HRr.out
          obtain ⟨nc, hnc⟩ : ∃ n, (phCtx i).length = n := ⟨_, rfl⟩
          obtain ⟨nr, hnr⟩ : ∃ n, (phRel T i i 0).length = n := ⟨_, rfl⟩
          rw [hnc] at q0 BO HRc
          rw [hnr] at q1 BO HRr
          clear hnc hnr
          go_wp2
          refine bodyPost_ret (results_ct rfl _ _ (w.heap.size + 1) 33 #[.slice C0 nc d0, .slice C1 nr e0] (0, 0) _ rfl (blk_put (blk_put hh0 0 _ rfl) 1 _ rfl) Try.underlying33 rfl (by kernel_rfl)) rfl ?_
          exact ⟨_, _, rfl, Kd.R_lower (Kd.R_set (Kd.R_set HRc.out hh0 (by decide) 0 _) (blk_put hh0 0 _ rfl) (by decide) 1 _) HW2.out, Kd.R_lower (Kd.R_set (Kd.R_set HRr.out hh0 (by decide) 0 _) (blk_put hh0 0 _ rfl) (by decide) 1 _) HW2.out, below_set (below_set HB.out (by omega)) (by omega)⟩

end Go.Proofs.Ytenphfagdpkjaaa.Q
