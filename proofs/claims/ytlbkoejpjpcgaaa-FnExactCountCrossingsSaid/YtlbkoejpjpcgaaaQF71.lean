-- Written by a program of this session (wip/xprint.py over the kit's printer).
import Derived.Test.YtlbkoejpjpcgaaaQ0
import Derived.Test.YtlbkoejpjpcgaaaQF100
import Derived.Test.YtlbkoejpjpcgaaaQF90
import Derived.Test.YtlbkoejpjpcgaaaQP
import Derived.Test.YtlbkoejpjpcgaaaQV0
namespace Go.Proofs.Ytlbkoejpjpcgaaa.Q
open Go.RowKit Go.Proofs.YtlbkoejpjpcgaaaW.PrintWords Go.Proofs.YtlbkoejpjpcgaaaW.PrintLast
set_option linter.unusedVariables false
set_option linter.unusedSimpArgs false

/-! ### impl_IsValidRecord: function 71 -/
theorem within_eq (a lo hi : Int) : impl_within.f a lo hi = some (decide (lo ≤ a) && decide (a ≤ hi)) := by
  unfold impl_within.f
  by_cases h : a ≥ lo
  · have h' : lo ≤ a := h
    simp [h']
  · have h' : ¬ lo ≤ a := h
    simp [h']
theorem isNumber_eq (a : Int) : impl_isNumber.f a = some (decide (1 ≤ a) && decide (a ≤ 999)) := by simp [impl_isNumber.f, within_eq]
theorem isKind_eq (a : Int) : impl_isKind.f a = some (decide (1 ≤ a) && decide (a ≤ 4)) := by simp [impl_isKind.f, within_eq]
theorem compare_eq (a b : Int) : cmp_Compare_int.f a b = some (if a < b then -1 else if a > b then 1 else 0) := by
  unfold cmp_Compare_int.f cmp_isNaN_int.f
  simp only [Option.bind_some, bne_self_eq_false, Bool.false_eq_true, if_false]
  by_cases h : a < b
  · simp [h]
  · by_cases h2 : a > b
    · simp [h, h2]
    · simp [h, h2]
theorem or_ev (x y : Int) : Ev (fun k => cmp_Or_int.f k [x, y]) (if x = 0 then y else x) := by
  unfold cmp_Or_int.f
  have e1 : wrap64 (0 + 1) = 1 := by unfold wrap64; omega
  refine Ev.step (fun k => by rw [cmp_Or_int.l0]) ?_
  simp only [List.length_cons, List.length_nil, rd, e1]
  by_cases h : x = 0
  · subst h
    simp
    refine Ev.step (fun k => by rw [cmp_Or_int.l0]) ?_
    simp [rd, show wrap64 2 = 2 from by unfold wrap64; omega]
    by_cases h2 : y = 0
    · subst h2
      simp
      refine Ev.step (fun k => by rw [cmp_Or_int.l0]) ?_
      simp
      exact Ev.now _
    · simp [h2]
      exact Ev.now _
  · simp [h]
    exact Ev.now _
/-- -1, 0 or 1, as the relations stand. -/
def cmpR (a b : S100) : Int := if before a b then -1 else if before b a then 1 else 0
theorem compareR_ev (a b : S100) : Ev (fun k => impl_compareRelations.f k a.f0 a.f1 b.f0 b.f1) (cmpR a b) := by
  unfold impl_compareRelations.f
  simp only [compare_eq, Option.bind_some]
  refine Ev.bind (or_ev _ _) ?_
  have e : (if (if a.f0 < b.f0 then (-1 : Int) else if a.f0 > b.f0 then 1 else 0) = 0 then (if a.f1 < b.f1 then (-1 : Int) else if a.f1 > b.f1 then 1 else 0) else (if a.f0 < b.f0 then (-1 : Int) else if a.f0 > b.f0 then 1 else 0)) = cmpR a b := by
    unfold cmpR before
    by_cases h : a.f0 < b.f0
    · simp [h]
    · by_cases h2 : b.f0 < a.f0
      · have h3 : ¬ a.f0 = b.f0 := by omega
        simp [h, h2, h3]
      · have h3 : a.f0 = b.f0 := by omega
        by_cases h4 : a.f1 < b.f1
        · simp [h3, h4]
        · by_cases h5 : b.f1 < a.f1
          · simp [h3, h4, h5]
          · simp [h3, h4, h5]
  rw [e]
  exact Ev.now _
theorem cmpR_ge (a b : S100) : (cmpR a b ≥ 0) = ¬ (before a b = true) := by
  unfold cmpR
  by_cases h : before a b = true
  · simp [h]
  · by_cases h2 : before b a = true
    · simp [h, h2]
    · simp [h, h2]
theorem find_g (l0_0 : List S108) (l0_1 : List S100) (a1 : Int) : impl_indexOf.f l0_0 l0_1 a1 = some (find l0_0 a1) := rfl
def impl_IsValidRecord.T14 : Bool × List (List Nat × List Nat) := (true, [([], []), ([0], [0]), ([1], [1]), ([2], [2]), ([3, 2], [2, 3]), ([2], [2]), ([5, 2], [2, 5]), ([4, 6, 2], [2, 4, 6]), ([7, 2], [2, 7]), ([2], [2]), ([8, 9, 2, 2], [2, 8, 9]), ([10, 2], [2, 10]), ([2, 11], [2, 11])])
def impl_IsValidRecord.B14 : List Nat := [0, 1, 3, 7, 15, 7, 39, 127, 255, 7, 1023, 2047, 4095]
theorem impl_IsValidRecord.tab14 : rtab .any (opsOf Try.f71 14) = impl_IsValidRecord.T14 := by kernel_rfl
theorem impl_IsValidRecord.bits14 : waitsOk impl_IsValidRecord.T14.2 impl_IsValidRecord.B14 = true := by kernel_rfl
def impl_IsValidRecord.f (l0_0 : List S108) (l0_1 : List S100) : Option Bool := some (goodB l0_0 l0_1)
set_option maxHeartbeats 8000000 in
set_option maxRecDepth 100000 in
theorem impl_IsValidRecord.calls (A0_0 : Option Addr) (c0_0 : Nat) (l0_0 : List S108) (A0_1 : Option Addr) (c0_1 : Nat) (l0_1 : List S100) (r : Bool) (w : World) (hr0_0 : Kd.C k108 w A0_0 l0_0.length l0_0) (hc0_0 : l0_0.length ≤ c0_0) (hr0_1 : Kd.C k100 w A0_1 l0_1.length l0_1) (hc0_1 : l0_1.length ≤ c0_1) (h : impl_IsValidRecord.f l0_0 l0_1 = some r) :
    Calls Try.prog 71 #[.agg #[.slice A0_0 l0_0.length c0_0, .slice A0_1 l0_1.length c0_1]] w fun e w' => e = .returned (.bool r) ∧ Below w.heap.size w w' := by
  obtain rfl := Option.some.inj h
  clear h
  have HR0 := Aside0.mk hr0_0
  have HR1 := Aside0.mk hr0_1
  have HC0 := Aside0.mk hc0_0
  have hr0l := Aside0.mk hr0_0.2.1
  have hr1l := Aside0.mk hr0_1.2.1
  have HC1 := Aside0.mk hc0_1
  clear hr0_0 hr0_1 hc0_0 hc0_1
  by_cases h1 : l0_0.length ≤ 10
  · by_cases h2 : l0_1.length ≤ 24
    · have HG := Aside0.mk (show goodB l0_0 l0_1 = (ctxOk (prevC l0_0 0) (l0_0.drop 0) && relOk l0_0 (prevR l0_1 0) (l0_1.drop 0)) from by simp [goodB, h1, h2, prevC, prevR])
      have e1 : decide ((10 : Int) < (l0_0.length : Int)) = false := decide_eq_false (by omega)
      have e2 : decide ((24 : Int) < (l0_1.length : Int)) = false := decide_eq_false (by omega)
      have e3 : decide (10 < l0_0.length) = false := decide_eq_false (by omega)
      have e4 : decide (24 < l0_1.length) = false := decide_eq_false (by omega)
      go_enter Try.func71, Try.ntmps71
      go_wp2
      go_loopg [20] l0_0.length (fun gg s3 wr => ∃ i : Nat, i ≤ l0_0.length ∧ l0_0.length - i ≤ gg ∧ s3 = .int .i64 i ∧ Aside0 (Below w.heap.size w wr) ∧ Aside0 (wr.heap[w.heap.size]? = some (.cells #[.slice A0_0 l0_0.length c0_0, .slice A0_1 l0_1.length c0_1] 33 (0, 0))) ∧ Aside0 (goodB l0_0 l0_1 = (ctxOk (prevC l0_0 i) (l0_0.drop i) && relOk l0_0 (prevR l0_1 0) (l0_1.drop 0))))
      case atStart => exact ⟨0, Nat.zero_le _, by omega, rfl, ⟨below_alloc (Below.refl _ _) _⟩, ⟨by simpa using heap_alloc_new w _⟩, HG⟩
      case round =>
        obtain ⟨i, hi, hg, rfl, HB, BK, HA⟩ := hrel
        have hgb : w.heap.size < wr.heap.size := blk_lt BK.out
        have hz0 : wr.cell? ⟨w.heap.size, 0, none⟩ = some (.slice A0_0 l0_0.length c0_0) := (blk_cell BK.out 0).trans rfl
        have hz1 : wr.cell? ⟨w.heap.size, 1, none⟩ = some (.slice A0_1 l0_1.length c0_1) := (blk_cell BK.out 1).trans rfl
        by_cases hlt : i < l0_0.length
        · have hltz : (i : Int) < (l0_0.length : Int) := by omega
          obtain ⟨ad, e5, hx0, hx1⟩ := at_T108 HR0.out (i : Int) (by omega) hltz
          cases e5
          replace hx0 := (HB.out.cell (World.block_lt_of_cell? w _ hx0)).trans hx0
          replace hx1 := (HB.out.cell (World.block_lt_of_cell? w _ hx1)).trans hx1
          have e6 : rd_T108 l0_0 (i : Int) = l0_0.getD i z108 := by simp [rd_T108]
          rw [e6] at hx0 hx1
          simp only [Int.toNat_natCast] at hx0 hx1
          have hxb := World.block_lt_of_cell? wr _ hx0
          generalize hy : l0_0.getD i z108 = y at hx0 hx1
          have HY := Aside0.mk hy
          clear hy e6
          have HAT := ctxOk_at l0_0 i hlt
          rw [HY.out] at HAT
          go_upto_region 6 with (fail)
          have BK2 := Aside0.mk (blk_alloc BK.out (.cells #[.int .i64 y.f0, .int .i64 y.f1] 108 (0, 0)))
          have HB2 := Aside0.mk (below_alloc HB.out (.cells #[.int .i64 y.f0, .int .i64 y.f1] 108 (0, 0)))
          have BK3 := Aside0.mk (heap_alloc_new wr (.cells #[.int .i64 y.f0, .int .i64 y.f1] 108 (0, 0)))
          clear hx0 hx1 hz0 hz1 HB BK hgb hxb
          generalize wr.alloc (.cells #[.int .i64 y.f0, .int .i64 y.f1] 108 (0, 0)) = wq at BK2 BK3 HB2 ⊢
          generalize wr.heap.size = gy at BK3 ⊢
          have hz0 : wq.cell? ⟨w.heap.size, 0, none⟩ = some (.slice (some ad) l0_0.length c0_0) := (blk_cell BK2.out 0).trans rfl
          have hd0 : wq.cell? ⟨gy, 0, none⟩ = some (.int .i64 y.f0) := (blk_cell BK3.out 0).trans rfl
          have hd1 : wq.cell? ⟨gy, 1, none⟩ = some (.int .i64 y.f1) := (blk_cell BK3.out 1).trans rfl
          obtain ⟨b1, hb1⟩ : ∃ b, (decide (1 ≤ y.f0) && decide (y.f0 ≤ 999)) = b := ⟨_, rfl⟩
          obtain ⟨b2, hb2⟩ : ∃ b, (decide (1 ≤ y.f1) && decide (y.f1 ≤ 4)) = b := ⟨_, rfl⟩
          have A1 := Aside0.mk ((isNumber_eq y.f0).trans (congrArg some hb1))
          have A2 := Aside0.mk ((isKind_eq y.f1).trans (congrArg some hb2))
          rw [hb1, hb2] at HAT
          replace HAT := Aside0.mk HAT
          clear hb1 hb2
          cases i with
          | zero =>
            have h0 : decide (0 < ((0 : Nat) : Int)) = false := by decide
            cases b1 <;> cases b2
            all_goals first
              | repeat (go_quiet (first | (go_at_call 114; (with_reducible refine (impl_isNumber.calls y.f0 _ _ A1.out).mono ?_); rintro e w' ⟨rfl, ⟨nd, rfl⟩⟩; (try first | exact ⟨rfl, _, World.drewN_drewN _ _ _⟩ | exact ⟨rfl, _, Eq.trans (World.drewN_drewN _ _ _) (congrArg (World.drewN _) (Nat.add_assoc _ _ _))⟩)) | (go_at_call 115; (with_reducible refine (impl_isKind.calls y.f1 _ _ A2.out).mono ?_); rintro e w' ⟨rfl, ⟨nd, rfl⟩⟩; (try first | exact ⟨rfl, _, World.drewN_drewN _ _ _⟩ | exact ⟨rfl, _, Eq.trans (World.drewN_drewN _ _ _) (congrArg (World.drewN _) (Nat.add_assoc _ _ _))⟩))); try go_wp2)
            all_goals first
              | (go_ret; exact ⟨by rw [HA.out, HAT.out]; rfl, by (with_reducible repeat first | exact HB2.out | apply pw_below_drewN | apply below_drew1)⟩)
              | (go_roundg (l0_0.length - 1); (case measure => omega); (case rel => exact ⟨1, by omega, by omega, by go_num, ⟨by (with_reducible repeat first | exact HB2.out | apply pw_below_drewN | apply below_drew1)⟩, ⟨by (with_reducible repeat first | exact BK2.out | refine blk_drewN ?_ _ | refine blk_drew ?_)⟩, ⟨by rw [HA.out, HAT.out]; rfl⟩⟩))
          | succ j =>
            have h0 : decide (0 < ((j + 1 : Nat) : Int)) = true := decide_eq_true (by omega)
            have hjw : IntKind.i64.wrap (((j + 1 : Nat) : Int) - 1) = (j : Int) := by
              have := hr0l.out
              rw [i64_w]; unfold wrap64; omega
            have hlj : j < l0_0.length := by omega
            have hljz : (j : Int) < (l0_0.length : Int) := by omega
            obtain ⟨ad2, e7, hx0, hx1⟩ := at_T108 HR0.out (j : Int) (by omega) hljz
            obtain rfl : ad = ad2 := by injection e7
            replace hx0 := (HB2.out.cell (World.block_lt_of_cell? w _ hx0)).trans hx0
            have e6 : rd_T108 l0_0 (j : Int) = l0_0.getD j z108 := by simp [rd_T108]
            rw [e6] at hx0
            clear hx1 e7
            simp only [Int.toNat_natCast] at hx0
            obtain ⟨p, hp⟩ : ∃ p, l0_0.getD j z108 = p := ⟨_, rfl⟩
            have HPV : prevC l0_0 (j + 1) = some p.f0 := by rw [← hp]; rfl
            have HAT2 := HAT.out
            have HA2 := HA.out
            rw [hp] at hx0
            rw [HPV] at HAT2 HA2
            dsimp only at HAT2
            replace HA := Aside0.mk HA2
            clear HA2
            obtain ⟨b3, hb3⟩ : ∃ b, decide (y.f0 ≤ p.f0) = b := ⟨_, rfl⟩
            have hb4 : decide (p.f0 < y.f0) = !b3 := by rw [← hb3, ← decide_not]; exact decide_eq_decide.mpr Int.not_le.symm
            rw [hb4] at HAT2
            replace HAT := Aside0.mk HAT2
            clear HAT2 hb4 hp e6 HPV
            cases b1 <;> cases b2 <;> cases b3
            all_goals first
              | repeat (go_quiet (first | (go_at_call 114; (with_reducible refine (impl_isNumber.calls y.f0 _ _ A1.out).mono ?_); rintro e w' ⟨rfl, ⟨nd, rfl⟩⟩; (try first | exact ⟨rfl, _, World.drewN_drewN _ _ _⟩ | exact ⟨rfl, _, Eq.trans (World.drewN_drewN _ _ _) (congrArg (World.drewN _) (Nat.add_assoc _ _ _))⟩)) | (go_at_call 115; (with_reducible refine (impl_isKind.calls y.f1 _ _ A2.out).mono ?_); rintro e w' ⟨rfl, ⟨nd, rfl⟩⟩; (try first | exact ⟨rfl, _, World.drewN_drewN _ _ _⟩ | exact ⟨rfl, _, Eq.trans (World.drewN_drewN _ _ _) (congrArg (World.drewN _) (Nat.add_assoc _ _ _))⟩))); try go_wp2)
            all_goals first
              | (go_ret; exact ⟨by rw [HA.out, HAT.out]; rfl, by (with_reducible repeat first | exact HB2.out | apply pw_below_drewN | apply below_drew1)⟩)
              | (go_roundg (l0_0.length - (j + 2)); (case measure => omega); (case rel => exact ⟨j + 2, by omega, by omega, by go_num, ⟨by (with_reducible repeat first | exact HB2.out | apply pw_below_drewN | apply below_drew1)⟩, ⟨by (with_reducible repeat first | exact BK2.out | refine blk_drewN ?_ _ | refine blk_drew ?_)⟩, ⟨by rw [HA.out, HAT.out]; rfl⟩⟩))
        · obtain rfl : i = l0_0.length := by omega
          have HA2 := HA.out
          rw [List.drop_length] at HA2
          replace HA := Aside0.mk (HA2.trans (by simp only [ctxOk, Bool.true_and] : _ = relOk l0_0 (prevR l0_1 0) (l0_1.drop 0)))
          clear HA2
          go_wp2
          go_loopg [55] l0_1.length (fun gg s5 wr => ∃ i : Nat, i ≤ l0_1.length ∧ l0_1.length - i ≤ gg ∧ s5 = .int .i64 i ∧ Aside0 (Below w.heap.size w wr) ∧ Aside0 (wr.heap[w.heap.size]? = some (.cells #[.slice A0_0 l0_0.length c0_0, .slice A0_1 l0_1.length c0_1] 33 (0, 0))) ∧ Aside0 (goodB l0_0 l0_1 = relOk l0_0 (prevR l0_1 i) (l0_1.drop i)))
          case atStart => exact ⟨0, Nat.zero_le _, by omega, rfl, HB, BK, HA⟩
          case round =>
            clear HB BK HA
            obtain ⟨i, hi, hg, rfl, HB, BK, HA⟩ := hrel
            have hgb : w.heap.size < wr.heap.size := blk_lt BK.out
            have hz0 : wr.cell? ⟨w.heap.size, 0, none⟩ = some (.slice A0_0 l0_0.length c0_0) := (blk_cell BK.out 0).trans rfl
            have hz1 : wr.cell? ⟨w.heap.size, 1, none⟩ = some (.slice A0_1 l0_1.length c0_1) := (blk_cell BK.out 1).trans rfl
            by_cases hlt : i < l0_1.length
            · have hltz : (i : Int) < (l0_1.length : Int) := by omega
              obtain ⟨ad, e5, hx0, hx1⟩ := at_T100 HR1.out (i : Int) (by omega) hltz
              cases e5
              replace hx0 := (HB.out.cell (World.block_lt_of_cell? w _ hx0)).trans hx0
              replace hx1 := (HB.out.cell (World.block_lt_of_cell? w _ hx1)).trans hx1
              have e6 : rd_T100 l0_1 (i : Int) = l0_1.getD i z100 := by simp [rd_T100]
              rw [e6] at hx0 hx1
              simp only [Int.toNat_natCast] at hx0 hx1
              have hxb := World.block_lt_of_cell? wr _ hx0
              generalize hy : l0_1.getD i z100 = y at hx0 hx1
              have HY := Aside0.mk hy
              clear hy e6
              have HAT := relOk_at l0_0 l0_1 i hlt
              rw [HY.out] at HAT
              go_upto_region 12 with (fail)
              have BK2 := Aside0.mk (blk_alloc BK.out (.cells #[.int .i64 y.f0, .int .i64 y.f1] 100 (0, 0)))
              have HB2 := Aside0.mk (below_alloc HB.out (.cells #[.int .i64 y.f0, .int .i64 y.f1] 100 (0, 0)))
              have BK3 := Aside0.mk (heap_alloc_new wr (.cells #[.int .i64 y.f0, .int .i64 y.f1] 100 (0, 0)))
              clear hx0 hx1 hz0 hz1 HB BK hgb hxb
              generalize wr.alloc (.cells #[.int .i64 y.f0, .int .i64 y.f1] 100 (0, 0)) = wq at BK2 BK3 HB2 ⊢
              generalize wr.heap.size = gy at BK3 ⊢
              obtain ⟨b0, hb0⟩ : ∃ b, (y.f0 == y.f1) = b := ⟨_, rfl⟩
              obtain ⟨b1, hb1⟩ : ∃ b, decide (0 ≤ find l0_0 y.f0) = b := ⟨_, rfl⟩
              obtain ⟨b2, hb2⟩ : ∃ b, decide (0 ≤ find l0_0 y.f1) = b := ⟨_, rfl⟩
              have hc0 : decide (y.f0 = y.f1) = b0 := hb0
              have hc1 : decide (find l0_0 y.f0 < 0) = !b1 := by rw [← hb1, ← decide_not]; exact decide_eq_decide.mpr Int.not_le.symm
              have hc2 : decide (find l0_0 y.f1 < 0) = !b2 := by rw [← hb2, ← decide_not]; exact decide_eq_decide.mpr Int.not_le.symm
              rw [hb0, hb1, hb2] at HAT
              clear hb1 hb2
              have hd0 : wq.cell? ⟨gy, 0, none⟩ = some (.int .i64 y.f0) := (blk_cell BK3.out 0).trans rfl
              have hd1 : wq.cell? ⟨gy, 1, none⟩ = some (.int .i64 y.f1) := (blk_cell BK3.out 1).trans rfl
              have hz0 : wq.cell? ⟨w.heap.size, 0, none⟩ = some (.slice A0_0 l0_0.length c0_0) := (blk_cell BK2.out 0).trans rfl
              have hz1 : wq.cell? ⟨w.heap.size, 1, none⟩ = some (.slice (some ad) l0_1.length c0_1) := (blk_cell BK2.out 1).trans rfl
              clear hc0
              replace HAT := Aside0.mk HAT
              rcases (by cases b0 <;> cases b1 <;> cases b2 <;> simp : b0 = true ∨ (b0 = false ∧ b1 = false) ∨ (b0 = false ∧ b1 = true ∧ b2 = false) ∨ (b0 = false ∧ b1 = true ∧ b2 = true)) with rfl | ⟨rfl, rfl⟩ | ⟨rfl, rfl, rfl⟩ | ⟨rfl, rfl, rfl⟩
              all_goals first
                | (go_wp2_with ((go_at_call 100; (with_reducible refine (impl_indexOf.calls _ _ l0_0 _ _ l0_1 _ _ _ (Kd.C_below HR0.out HB2.out) HC0.out (Kd.C_below HR1.out HB2.out) HC1.out (find_g _ _ _)).mono ?_); rintro e w1 ⟨rfl, hb⟩; have hd0 := pw_cell_below hb hd0; have hd1 := pw_cell_below hb hd1; have hz0 := pw_cell_below hb hz0; have hz1 := pw_cell_below hb hz1; have BK2 := Aside0.mk (blk_below BK2.out hb); have BK3 := Aside0.mk (blk_below BK3.out hb); have HB2 := Aside0.mk (below_step HB2.out hb); clear hb)); go_ret; exact ⟨by rw [HA.out, HAT.out]; rfl, HB2.out⟩)
                | go_upto_region 14 with ((go_at_call 100; (with_reducible refine (impl_indexOf.calls _ _ l0_0 _ _ l0_1 _ _ _ (Kd.C_below HR0.out HB2.out) HC0.out (Kd.C_below HR1.out HB2.out) HC1.out (find_g _ _ _)).mono ?_); rintro e w1 ⟨rfl, hb⟩; have hd0 := pw_cell_below hb hd0; have hd1 := pw_cell_below hb hd1; have hz0 := pw_cell_below hb hz0; have hz1 := pw_cell_below hb hz1; have BK2 := Aside0.mk (blk_below BK2.out hb); have BK3 := Aside0.mk (blk_below BK3.out hb); have HB2 := Aside0.mk (below_step HB2.out hb); clear hb))
              clear hd0 hd1 hz0 hz1
              cases i with
              | zero =>
                have h0 : decide (0 < ((0 : Nat) : Int)) = false := by decide
                go_quiet (fail)
                go_wp2
                go_roundg (l0_1.length - 1)
                case measure => omega
                case rel => exact ⟨1, by omega, by omega, by go_num, ⟨by (with_reducible repeat first | exact HB2.out | apply pw_below_drewN | apply below_drew1)⟩, ⟨by (with_reducible repeat (first | exact BK2.out | refine blk_drewN ?_ _ | refine blk_drew ?_))⟩, ⟨by rw [HA.out, HAT.out]; rfl⟩⟩
              | succ j =>
                have h0 : decide (0 < ((j + 1 : Nat) : Int)) = true := decide_eq_true (by omega)
                have hlj : j < l0_1.length := by omega
                have hljz : (j : Int) < (l0_1.length : Int) := by omega
                obtain ⟨ad2, e7, hx0, hx1⟩ := at_T100 HR1.out (j : Int) (by omega) hljz
                obtain rfl : ad = ad2 := by injection e7
                have e6 : rd_T100 l0_1 (j : Int) = l0_1.getD j z100 := by simp [rd_T100]
                rw [e6] at hx0 hx1
                simp only [Int.toNat_natCast] at hx0 hx1
                obtain ⟨p, hp⟩ : ∃ p, l0_1.getD j z100 = p := ⟨_, rfl⟩
                have HPV : prevR l0_1 (j + 1) = some p := by rw [← hp]; rfl
                have HA2 := HA.out
                rw [hp] at hx0 hx1
                have HAT2 := HAT.out
                rw [HPV] at HAT2 HA2
                dsimp only at HAT2
                replace HA := Aside0.mk HA2
                obtain ⟨b3, hb3⟩ : ∃ b, before p y = b := ⟨_, rfl⟩
                obtain ⟨kc, hkc⟩ := compareR_ev p y
                have A3 := Aside0.mk (hkc kc (Nat.le_refl _))
                clear hkc
                have hc3 : decide (0 ≤ cmpR p y) = !b3 := by rw [← hb3]; have := cmpR_ge p y; cases hq : before p y <;> simp_all
                rw [hb3] at HAT2
                replace HAT := Aside0.mk HAT2
                clear HAT2 HA2 hb3 hp e6 HPV e7
                have HS0 := Aside0.mk (show (fun w' : World => w'.cell? ⟨gy, 0, none⟩ = some (.int .i64 y.f0) ∧ w'.cell? ⟨gy, 1, none⟩ = some (.int .i64 y.f1) ∧ w'.cell? ⟨w.heap.size, 0, none⟩ = some (.slice A0_0 l0_0.length c0_0) ∧ w'.cell? ⟨w.heap.size, 1, none⟩ = some (.slice (some ad) l0_1.length c0_1) ∧ w'.cell? (ad.add (j * 2)) = some (.int .i64 p.f0) ∧ w'.cell? ⟨(ad.add (j * 2)).block, (ad.add (j * 2)).off + 1, none⟩ = some (.int .i64 p.f1) ∧ w'.heap[w.heap.size]? = some (.cells #[.slice A0_0 l0_0.length c0_0, .slice (some ad) l0_1.length c0_1] 33 (0, 0)) ∧ Below w.heap.size w w') w1.drew from ⟨(blk_cell (blk_drew BK3.out) 0).trans rfl, (blk_cell (blk_drew BK3.out) 1).trans rfl, (blk_cell (blk_drew BK2.out) 0).trans rfl, (blk_cell (blk_drew BK2.out) 1).trans rfl, (HB2.out.cell (World.block_lt_of_cell? w _ hx0)).trans hx0, (HB2.out.cell (World.block_lt_of_cell? w _ hx1)).trans hx1, blk_drew BK2.out, below_drew1 HB2.out⟩)
                have hjw : IntKind.i64.wrap (((j + 1 : Nat) : Int) - 1) = (j : Int) := by
                  have := hr1l.out
                  rw [i64_w]; unfold wrap64; omega
                have hjw2 : Go.RowKit.wrap64 (j : Int) = (j : Int) := by
                  have e : ((j + 1 : Nat) : Int) - 1 = (j : Int) := by omega
                  rw [e, i64_w] at hjw
                  exact hjw
                cases b3
                all_goals simp only [Bool.not_true, Bool.not_false] at hc3
                all_goals refine start_ (n := 13) (S := (fun w' => w'.cell? ⟨gy, 0, none⟩ = some (.int .i64 y.f0) ∧ w'.cell? ⟨gy, 1, none⟩ = some (.int .i64 y.f1) ∧ w'.cell? ⟨w.heap.size, 0, none⟩ = some (.slice A0_0 l0_0.length c0_0) ∧ w'.cell? ⟨w.heap.size, 1, none⟩ = some (.slice (some ad) l0_1.length c0_1) ∧ w'.cell? (ad.add (j * 2)) = some (.int .i64 p.f0) ∧ w'.cell? ⟨(ad.add (j * 2)).block, (ad.add (j * 2)).off + 1, none⟩ = some (.int .i64 p.f1) ∧ w'.heap[w.heap.size]? = some (.cells #[.slice A0_0 l0_0.length c0_0, .slice (some ad) l0_1.length c0_1] 33 (0, 0)) ∧ Below w.heap.size w w')) (ds := []) (bl 0 13) (by kernel_rfl) rfl rfl HS0.out (fun hHeld => ?_); refine with_tabW impl_IsValidRecord.tab14 impl_IsValidRecord.bits14 (fun HT_ HW_ => ?_)
                all_goals generalize w1.drew = wv at hHeld ⊢
                all_goals first | refine pA_ 0 (some 79) (bl 1 13) HT_.out (h := ?_) | refine pO_ 0 (some 79) (bl 1 13) HT_.out (h := ?_)
                all_goals first | refine pA_ 1 (some 80) (bl 2 13) HT_.out (h := ?_) | refine pO_ 1 (some 80) (bl 2 13) HT_.out (h := ?_)
                all_goals first | refine pA_ 2 (some 81) (bl 3 13) HT_.out (h := ?_) | refine pO_ 2 (some 81) (bl 3 13) HT_.out (h := ?_)
                all_goals first | refine pA_ 3 (some 82) (bl 4 13) HT_.out (h := ?_) | refine pO_ 3 (some 82) (bl 4 13) HT_.out (h := ?_)
                all_goals first | refine pA_ 5 (some 84) (bx 4 [5] 13) HT_.out (h := ?_) | refine pO_ 5 (some 84) (bx 4 [5] 13) HT_.out (h := ?_)
                all_goals first | refine pA_ 6 (some 85) (bx 4 [5, 6] 13) HT_.out (h := ?_) | refine pO_ 6 (some 85) (bx 4 [5, 6] 13) HT_.out (h := ?_)
                all_goals first | refine tA_ 4 (some 83) (bl 7 13) HT_.out HW_.out hHeld (h := ?_) | refine pO_ 4 (some 83) (bl 7 13) HT_.out (h := ?_)
                all_goals first | refine pA_ 7 (some 86) (bl 8 13) HT_.out (h := ?_) | refine pO_ 7 (some 86) (bl 8 13) HT_.out (h := ?_)
                all_goals first | refine tA_ 8 (some 87) (bl 9 13) HT_.out HW_.out hHeld (h := ?_) | refine pO_ 8 (some 87) (bl 9 13) HT_.out (h := ?_)
                all_goals first | refine tA_ 9 (some 88) (bl 10 13) HT_.out HW_.out hHeld (h := ?_) | refine pO_ 9 (some 88) (bl 10 13) HT_.out (h := ?_)
                all_goals first | refine pO_ 10 (some 89) (bl 11 13) HT_.out (h := ?_) | (refine one_ (i := 10) (N := some 89) (bl 11 13) rfl rfl (one_of HT_.out (by kernel_rfl)) (by decide) (fun K hK => ?_); refine goes_ Try.func116 (by kernel_rfl) rfl #[.agg #[.int .i64 p.f0, .int .i64 p.f1], .agg #[.int .i64 y.f0, .int .i64 y.f1]] (by rfl) rfl rfl (by (try simp only [List.map_toArray, List.map_cons, List.map_nil]); first | done | rfl) ?_; with_reducible refine (impl_compareRelations.calls _ _ _ _ _ _ _ A3.out).mono ?_; rintro e w1 ⟨rfl, hb⟩; refine ⟨_, rfl, ?_⟩; refine hK.out _ _ ⟨pw_cell_below hb hHeld.1, pw_cell_below hb hHeld.2.1, pw_cell_below hb hHeld.2.2.1, pw_cell_below hb hHeld.2.2.2.1, pw_cell_below hb hHeld.2.2.2.2.1, pw_cell_below hb hHeld.2.2.2.2.2.1, blk_below hHeld.2.2.2.2.2.2.1 hb, below_step hHeld.2.2.2.2.2.2.2 hb⟩ (fun hHeld => ?_); clear hK K; refine norm_ (a' := ?_) ?_ ?_; rotate_left; (show Act.put _ (some 89) _ = _; simp only [Act.put, List.setIfInBounds_toArray, List.set_cons_zero, List.set_cons_succ, i64_w, i32_w]; rfl))
                all_goals first | refine pA_ 11 (some 90) (bl 12 13) HT_.out (h := ?_) | refine pO_ 11 (some 90) (bl 12 13) HT_.out (h := ?_)
                all_goals first | refine pA_ 12 (some 91) (bl 13 13) HT_.out (h := ?_) | refine pO_ 12 (some 91) (bl 13 13) HT_.out (h := ?_)
                all_goals refine done_ (done_of HT_.out (by kernel_rfl)) ?_
                all_goals clear hjw hjw2
                all_goals try go_wp2
                all_goals first
                  | (go_ret; exact ⟨by rw [HA.out, HAT.out]; rfl, by (go_split_ands; assumption)⟩)
                  | (go_roundg (l0_1.length - (j + 2)); (case measure => omega); (case rel => exact ⟨j + 2, by omega, by omega, by go_num, ⟨(by (go_split_ands; assumption))⟩, ⟨(by (go_split_ands; assumption))⟩, ⟨by rw [HA.out, HAT.out]; rfl⟩⟩))
            · obtain rfl : i = l0_1.length := by omega
              have HA2 := HA.out
              rw [List.drop_length] at HA2
              replace HA := Aside0.mk (HA2.trans (by simp only [relOk] : _ = true))
              clear HA2
              go_wp2
              go_ret
              exact ⟨by rw [HA.out]; rfl, HB.out⟩
    · have HG := Aside0.mk (show goodB l0_0 l0_1 = false from by simp [goodB, h2])
      have e1 : decide ((10 : Int) < (l0_0.length : Int)) = false := decide_eq_false (by omega)
      have e3 : decide (10 < l0_0.length) = false := decide_eq_false (by omega)
      have e2 : decide ((24 : Int) < (l0_1.length : Int)) = true := decide_eq_true (by omega)
      have e4 : decide (24 < l0_1.length) = true := decide_eq_true (by omega)
      go_enter Try.func71, Try.ntmps71
      go_wp2
      go_ret
      exact ⟨by rw [HG.out]; rfl, below_alloc (Below.refl _ _) _⟩
  · have HG := Aside0.mk (show goodB l0_0 l0_1 = false from by simp [goodB, h1])
    have e1 : decide ((10 : Int) < (l0_0.length : Int)) = true := decide_eq_true (by omega)
    have e3 : decide (10 < l0_0.length) = true := decide_eq_true (by omega)
    go_enter Try.func71, Try.ntmps71
    go_wp2
    go_ret
    exact ⟨by rw [HG.out]; rfl, below_alloc (Below.refl _ _) _⟩

end Go.Proofs.Ytlbkoejpjpcgaaa.Q
