-- Written by a program of this session (wip/xprint.py over the kit's printer).
import Derived.Test.YtlbkoejpjpcgaaaQ0
import Derived.Test.YtlbkoejpjpcgaaaQF90
import Derived.Test.YtlbkoejpjpcgaaaQP
import Derived.Test.YtlbkoejpjpcgaaaQV1
namespace Go.Proofs.Ytlbkoejpjpcgaaa.Q
open Go.RowKit Go.Proofs.YtlbkoejpjpcgaaaW.PrintWords Go.Proofs.YtlbkoejpjpcgaaaW.PrintLast
set_option linter.unusedVariables false
set_option linter.unusedSimpArgs false

/-! ### spec_l2Good: function 67 -/
theorem l1In_eq (a lo hi : Int) : spec_l1In.f a lo hi = some (decide (lo ≤ a) && decide (a ≤ hi)) := by
  unfold spec_l1In.f
  by_cases h : a ≥ lo
  · have h' : lo ≤ a := h
    simp [h']
  · have h' : ¬ lo ≤ a := h
    simp [h']
theorem l2Before_eq (a b : S100) : spec_l2Before.f a.f0 a.f1 b.f0 b.f1 = some (before a b) := by
  unfold spec_l2Before.f before
  by_cases h : a.f0 < b.f0
  · simp [h]
  · by_cases h2 : a.f0 = b.f0
    · simp [h2]
    · simp [h, h2]
def spec_l2Good.T13 : Bool × List (List Nat × List Nat) := (true, [([], []), ([0], [0]), ([], []), ([2], [2]), ([1, 3], [1, 3]), ([4], [4]), ([5], [5]), ([5], [5]), ([7, 5], [5, 7]), ([6, 8, 5, 5], [5, 6, 8]), ([9, 5], [5, 9]), ([5, 10], [5, 10]), ([11, 9], [11]), ([12], [12]), ([12], [12]), ([14, 12], [12, 14]), ([13, 15, 12, 12], [12, 13, 15]), ([16, 12], [12, 16]), ([12, 17], [12, 17]), ([18, 16], [18]), ([19], [19]), ([20, 19], [19, 20]), ([21, 19, 19], [19, 21]), ([22], [22]), ([23, 22], [22, 23]), ([22], [22]), ([25, 22], [22, 25]), ([24, 26, 22], [22, 24, 26]), ([27, 22], [22, 27]), ([22], [22]), ([28, 29, 22, 22], [22, 28, 29]), ([30, 22], [22, 30]), ([22, 31, 19], [19, 22, 31]), ([19, 32], [19, 32])])
def spec_l2Good.B13 : List Nat := [0, 1, 0, 4, 15, 31, 63, 63, 191, 511, 1023, 2047, 4095, 8191, 8191, 24575, 65535, 131071, 262143, 524287, 1048575, 2097151, 4194303, 8388607, 16777215, 8388607, 41943039, 134217727, 268435455, 8388607, 1073741823, 2147483647, 4294967295, 8589934591]
theorem spec_l2Good.tab13 : rtab .any (opsOf Try.f67 13) = spec_l2Good.T13 := by kernel_rfl
theorem spec_l2Good.bits13 : waitsOk spec_l2Good.T13.2 spec_l2Good.B13 = true := by kernel_rfl
def spec_l2Good.f (l0_0 : List S108) (l0_1 : List S100) : Option Bool := some (goodB l0_0 l0_1)
set_option maxHeartbeats 8000000 in
set_option maxRecDepth 100000 in
theorem spec_l2Good.calls (A0_0 : Option Addr) (c0_0 : Nat) (l0_0 : List S108) (A0_1 : Option Addr) (c0_1 : Nat) (l0_1 : List S100) (r : Bool) (w : World) (hr0_0 : Kd.C k108 w A0_0 l0_0.length l0_0) (hc0_0 : l0_0.length ≤ c0_0) (hr0_1 : Kd.C k100 w A0_1 l0_1.length l0_1) (hc0_1 : l0_1.length ≤ c0_1) (h : spec_l2Good.f l0_0 l0_1 = some r) :
    Calls Try.prog 67 #[.agg #[.slice A0_0 l0_0.length c0_0, .slice A0_1 l0_1.length c0_1]] w fun e w' => e = .returned (.bool r) ∧ Below w.heap.size w w' := by
  obtain rfl := Option.some.inj h
  clear h
  have HR0 := Aside0.mk hr0_0
  have HR1 := Aside0.mk hr0_1
  have HC0 := Aside0.mk hc0_0
  have hr0l := Aside0.mk hr0_0.2.1
  have hr1l := Aside0.mk hr0_1.2.1
  have HC1 := Aside0.mk hc0_1
  clear hr0_0 hr0_1 hc0_0 hc0_1
  by_cases h1 : l0_0.length ≤ 10
  · by_cases h2 : l0_1.length ≤ 24
    · have HG := Aside0.mk (show goodB l0_0 l0_1 = (ctxOk (prevC l0_0 0) (l0_0.drop 0) && relOk l0_0 (prevR l0_1 0) (l0_1.drop 0)) from by simp [goodB, h1, h2, prevC, prevR])
      have e1 : decide ((10 : Int) < (l0_0.length : Int)) = false := decide_eq_false (by omega)
      have e2 : decide ((24 : Int) < (l0_1.length : Int)) = false := decide_eq_false (by omega)
      have e3 : decide (10 < l0_0.length) = false := decide_eq_false (by omega)
      have e4 : decide (24 < l0_1.length) = false := decide_eq_false (by omega)
      go_enter Try.func67, Try.ntmps67
      go_wp2
      go_loopg [3, 4] l0_0.length (fun gg s3 _ wr => ∃ i : Nat, i ≤ l0_0.length ∧ l0_0.length - i ≤ gg ∧ s3 = .int .i64 i ∧ Aside0 (Below w.heap.size w wr) ∧ Aside0 (wr.heap[w.heap.size]? = some (.cells #[.slice A0_0 l0_0.length c0_0, .slice A0_1 l0_1.length c0_1] 33 (0, 0))) ∧ Aside0 (goodB l0_0 l0_1 = (ctxOk (prevC l0_0 i) (l0_0.drop i) && relOk l0_0 (prevR l0_1 0) (l0_1.drop 0))))
      case atStart => exact ⟨0, Nat.zero_le _, by omega, rfl, ⟨below_alloc (Below.refl _ _) _⟩, ⟨by simpa using heap_alloc_new w _⟩, HG⟩
      case round =>
        obtain ⟨i, hi, hg, rfl, HB, BK, HA⟩ := hrel
        have hgb : w.heap.size < wr.heap.size := blk_lt BK.out
        have hz0 : wr.cell? ⟨w.heap.size, 0, none⟩ = some (.slice A0_0 l0_0.length c0_0) := (blk_cell BK.out 0).trans rfl
        have hz1 : wr.cell? ⟨w.heap.size, 1, none⟩ = some (.slice A0_1 l0_1.length c0_1) := (blk_cell BK.out 1).trans rfl
        by_cases hlt : i < l0_0.length
        · have hltz : (i : Int) < (l0_0.length : Int) := by omega
          obtain ⟨ad, e5, hx0, hx1⟩ := at_T108 HR0.out (i : Int) (by omega) hltz
          cases e5
          replace hx0 := (HB.out.cell (World.block_lt_of_cell? w _ hx0)).trans hx0
          replace hx1 := (HB.out.cell (World.block_lt_of_cell? w _ hx1)).trans hx1
          have e6 : rd_T108 l0_0 (i : Int) = l0_0.getD i z108 := by simp [rd_T108]
          rw [e6] at hx0 hx1
          simp only [Int.toNat_natCast] at hx0 hx1
          have hxb := World.block_lt_of_cell? wr _ hx0
          generalize hy : l0_0.getD i z108 = y at hx0 hx1
          have HY := Aside0.mk hy
          clear hy e6
          have HAT := ctxOk_at l0_0 i hlt
          rw [HY.out] at HAT
          go_upto_region 7 with (fail)
          have BK2 := Aside0.mk (blk_alloc BK.out (.cells #[.int .i64 y.f0, .int .i64 y.f1] 108 (0, 0)))
          have HB2 := Aside0.mk (below_alloc HB.out (.cells #[.int .i64 y.f0, .int .i64 y.f1] 108 (0, 0)))
          have BK3 := Aside0.mk (heap_alloc_new wr (.cells #[.int .i64 y.f0, .int .i64 y.f1] 108 (0, 0)))
          clear hx0 hx1 hz0 hz1 HB BK hgb hxb
          generalize wr.alloc (.cells #[.int .i64 y.f0, .int .i64 y.f1] 108 (0, 0)) = wq at BK2 BK3 HB2 ⊢
          generalize wr.heap.size = gy at BK3 ⊢
          have hz0 : wq.cell? ⟨w.heap.size, 0, none⟩ = some (.slice (some ad) l0_0.length c0_0) := (blk_cell BK2.out 0).trans rfl
          have hd0 : wq.cell? ⟨gy, 0, none⟩ = some (.int .i64 y.f0) := (blk_cell BK3.out 0).trans rfl
          have hd1 : wq.cell? ⟨gy, 1, none⟩ = some (.int .i64 y.f1) := (blk_cell BK3.out 1).trans rfl
          obtain ⟨b1, hb1⟩ : ∃ b, (decide (1 ≤ y.f0) && decide (y.f0 ≤ 999)) = b := ⟨_, rfl⟩
          obtain ⟨b2, hb2⟩ : ∃ b, (decide (1 ≤ y.f1) && decide (y.f1 ≤ 4)) = b := ⟨_, rfl⟩
          have A1 := Aside0.mk ((l1In_eq y.f0 1 999).trans (congrArg some hb1))
          have A2 := Aside0.mk ((l1In_eq y.f1 1 4).trans (congrArg some hb2))
          rw [hb1, hb2] at HAT
          replace HAT := Aside0.mk HAT
          clear hb1 hb2
          cases i with
          | zero =>
            have h0 : decide (0 < ((0 : Nat) : Int)) = false := by decide
            cases b1 <;> cases b2
            all_goals first
              | repeat (go_quiet (first | (go_at_call 75; (with_reducible refine (spec_l1In.calls y.f0 1 999 _ _ A1.out).mono ?_); rintro e w' ⟨rfl, ⟨nd, rfl⟩⟩; (try first | exact ⟨rfl, _, World.drewN_drewN _ _ _⟩ | exact ⟨rfl, _, Eq.trans (World.drewN_drewN _ _ _) (congrArg (World.drewN _) (Nat.add_assoc _ _ _))⟩)) | (go_at_call 75; (with_reducible refine (spec_l1In.calls y.f1 1 4 _ _ A2.out).mono ?_); rintro e w' ⟨rfl, ⟨nd, rfl⟩⟩; (try first | exact ⟨rfl, _, World.drewN_drewN _ _ _⟩ | exact ⟨rfl, _, Eq.trans (World.drewN_drewN _ _ _) (congrArg (World.drewN _) (Nat.add_assoc _ _ _))⟩))); try go_wp2)
            all_goals first
              | (go_ret; exact ⟨by rw [HA.out, HAT.out]; rfl, by (with_reducible repeat first | exact HB2.out | apply pw_below_drewN | apply below_drew1)⟩)
              | (go_roundg (l0_0.length - 1); (case measure => omega); (case rel => exact ⟨1, by omega, by omega, by go_num, ⟨by (with_reducible repeat first | exact HB2.out | apply pw_below_drewN | apply below_drew1)⟩, ⟨by (with_reducible repeat first | exact BK2.out | refine blk_drewN ?_ _ | refine blk_drew ?_)⟩, ⟨by rw [HA.out, HAT.out]; rfl⟩⟩))
          | succ j =>
            have h0 : decide (0 < ((j + 1 : Nat) : Int)) = true := decide_eq_true (by omega)
            have hjw : IntKind.i64.wrap (((j + 1 : Nat) : Int) - 1) = (j : Int) := by
              have := hr0l.out
              rw [i64_w]; unfold wrap64; omega
            have hlj : j < l0_0.length := by omega
            have hljz : (j : Int) < (l0_0.length : Int) := by omega
            obtain ⟨ad2, e7, hx0, hx1⟩ := at_T108 HR0.out (j : Int) (by omega) hljz
            obtain rfl : ad = ad2 := by injection e7
            replace hx0 := (HB2.out.cell (World.block_lt_of_cell? w _ hx0)).trans hx0
            have e6 : rd_T108 l0_0 (j : Int) = l0_0.getD j z108 := by simp [rd_T108]
            rw [e6] at hx0
            clear hx1 e7
            simp only [Int.toNat_natCast] at hx0
            obtain ⟨p, hp⟩ : ∃ p, l0_0.getD j z108 = p := ⟨_, rfl⟩
            have HPV : prevC l0_0 (j + 1) = some p.f0 := by rw [← hp]; rfl
            have HAT2 := HAT.out
            have HA2 := HA.out
            rw [hp] at hx0
            rw [HPV] at HAT2 HA2
            dsimp only at HAT2
            replace HA := Aside0.mk HA2
            clear HA2
            obtain ⟨b3, hb3⟩ : ∃ b, decide (y.f0 ≤ p.f0) = b := ⟨_, rfl⟩
            have hb4 : decide (p.f0 < y.f0) = !b3 := by rw [← hb3, ← decide_not]; exact decide_eq_decide.mpr Int.not_le.symm
            rw [hb4] at HAT2
            replace HAT := Aside0.mk HAT2
            clear HAT2 hb4 hp e6 HPV
            cases b1 <;> cases b2 <;> cases b3
            all_goals first
              | repeat (go_quiet (first | (go_at_call 75; (with_reducible refine (spec_l1In.calls y.f0 1 999 _ _ A1.out).mono ?_); rintro e w' ⟨rfl, ⟨nd, rfl⟩⟩; (try first | exact ⟨rfl, _, World.drewN_drewN _ _ _⟩ | exact ⟨rfl, _, Eq.trans (World.drewN_drewN _ _ _) (congrArg (World.drewN _) (Nat.add_assoc _ _ _))⟩)) | (go_at_call 75; (with_reducible refine (spec_l1In.calls y.f1 1 4 _ _ A2.out).mono ?_); rintro e w' ⟨rfl, ⟨nd, rfl⟩⟩; (try first | exact ⟨rfl, _, World.drewN_drewN _ _ _⟩ | exact ⟨rfl, _, Eq.trans (World.drewN_drewN _ _ _) (congrArg (World.drewN _) (Nat.add_assoc _ _ _))⟩))); try go_wp2)
            all_goals first
              | (go_ret; exact ⟨by rw [HA.out, HAT.out]; rfl, by (with_reducible repeat first | exact HB2.out | apply pw_below_drewN | apply below_drew1)⟩)
              | (go_roundg (l0_0.length - (j + 2)); (case measure => omega); (case rel => exact ⟨j + 2, by omega, by omega, by go_num, ⟨by (with_reducible repeat first | exact HB2.out | apply pw_below_drewN | apply below_drew1)⟩, ⟨by (with_reducible repeat first | exact BK2.out | refine blk_drewN ?_ _ | refine blk_drew ?_)⟩, ⟨by rw [HA.out, HAT.out]; rfl⟩⟩))
        · obtain rfl : i = l0_0.length := by omega
          have HA2 := HA.out
          rw [List.drop_length] at HA2
          replace HA := Aside0.mk (HA2.trans (by simp only [ctxOk, Bool.true_and] : _ = relOk l0_0 (prevR l0_1 0) (l0_1.drop 0)))
          clear HA2
          go_wp2
          go_loopg [5] l0_1.length (fun gg s5 wr => ∃ i : Nat, i ≤ l0_1.length ∧ l0_1.length - i ≤ gg ∧ s5 = .int .i64 i ∧ Aside0 (Below w.heap.size w wr) ∧ Aside0 (wr.heap[w.heap.size]? = some (.cells #[.slice A0_0 l0_0.length c0_0, .slice A0_1 l0_1.length c0_1] 33 (0, 0))) ∧ Aside0 (goodB l0_0 l0_1 = relOk l0_0 (prevR l0_1 i) (l0_1.drop i)))
          case atStart => exact ⟨0, Nat.zero_le _, by omega, rfl, HB, BK, HA⟩
          case round =>
            clear HB BK HA
            obtain ⟨i, hi, hg, rfl, HB, BK, HA⟩ := hrel
            have hgb : w.heap.size < wr.heap.size := blk_lt BK.out
            have hz0 : wr.cell? ⟨w.heap.size, 0, none⟩ = some (.slice A0_0 l0_0.length c0_0) := (blk_cell BK.out 0).trans rfl
            have hz1 : wr.cell? ⟨w.heap.size, 1, none⟩ = some (.slice A0_1 l0_1.length c0_1) := (blk_cell BK.out 1).trans rfl
            by_cases hlt : i < l0_1.length
            · have hltz : (i : Int) < (l0_1.length : Int) := by omega
              obtain ⟨ad, e5, hx0, hx1⟩ := at_T100 HR1.out (i : Int) (by omega) hltz
              cases e5
              replace hx0 := (HB.out.cell (World.block_lt_of_cell? w _ hx0)).trans hx0
              replace hx1 := (HB.out.cell (World.block_lt_of_cell? w _ hx1)).trans hx1
              have e6 : rd_T100 l0_1 (i : Int) = l0_1.getD i z100 := by simp [rd_T100]
              rw [e6] at hx0 hx1
              simp only [Int.toNat_natCast] at hx0 hx1
              have hxb := World.block_lt_of_cell? wr _ hx0
              generalize hy : l0_1.getD i z100 = y at hx0 hx1
              have HY := Aside0.mk hy
              clear hy e6
              have HAT := relOk_at l0_0 l0_1 i hlt
              rw [HY.out] at HAT
              go_upto_region 13 with (fail)
              have BK2 := Aside0.mk (blk_alloc BK.out (.cells #[.int .i64 y.f0, .int .i64 y.f1] 100 (0, 0)))
              have HB2 := Aside0.mk (below_alloc HB.out (.cells #[.int .i64 y.f0, .int .i64 y.f1] 100 (0, 0)))
              have BK3 := Aside0.mk (heap_alloc_new wr (.cells #[.int .i64 y.f0, .int .i64 y.f1] 100 (0, 0)))
              clear hx0 hx1 hz0 hz1 HB BK hgb hxb
              generalize wr.alloc (.cells #[.int .i64 y.f0, .int .i64 y.f1] 100 (0, 0)) = wq at BK2 BK3 HB2 ⊢
              generalize wr.heap.size = gy at BK3 ⊢
              obtain ⟨b0, hb0⟩ : ∃ b, (y.f0 == y.f1) = b := ⟨_, rfl⟩
              obtain ⟨b1, hb1⟩ : ∃ b, decide (0 ≤ find l0_0 y.f0) = b := ⟨_, rfl⟩
              obtain ⟨b2, hb2⟩ : ∃ b, decide (0 ≤ find l0_0 y.f1) = b := ⟨_, rfl⟩
              have hc0 : decide (y.f0 = y.f1) = b0 := hb0
              have hc1 : decide (find l0_0 y.f0 < 0) = !b1 := by rw [← hb1, ← decide_not]; exact decide_eq_decide.mpr Int.not_le.symm
              have hc2 : decide (find l0_0 y.f1 < 0) = !b2 := by rw [← hb2, ← decide_not]; exact decide_eq_decide.mpr Int.not_le.symm
              rw [hb0, hb1, hb2] at HAT
              clear hb1 hb2
              cases i with
              | zero =>
                have h0 : decide (0 < ((0 : Nat) : Int)) = false := by decide
                have HS0 := Aside0.mk (show (fun w' : World => w'.cell? ⟨gy, 0, none⟩ = some (.int .i64 y.f0) ∧ w'.cell? ⟨gy, 1, none⟩ = some (.int .i64 y.f1) ∧ w'.cell? ⟨w.heap.size, 0, none⟩ = some (.slice A0_0 l0_0.length c0_0) ∧ w'.cell? ⟨w.heap.size, 1, none⟩ = some (.slice (some ad) l0_1.length c0_1) ∧ w'.heap[w.heap.size]? = some (.cells #[.slice A0_0 l0_0.length c0_0, .slice (some ad) l0_1.length c0_1] 33 (0, 0)) ∧ Below w.heap.size w w') wq.drew from ⟨(blk_cell (blk_drew BK3.out) 0).trans rfl, (blk_cell (blk_drew BK3.out) 1).trans rfl, (blk_cell (blk_drew BK2.out) 0).trans rfl, (blk_cell (blk_drew BK2.out) 1).trans rfl, blk_drew BK2.out, below_drew1 HB2.out⟩)
                replace HAT := Aside0.mk HAT
                clear hc0
                rcases (by cases b0 <;> cases b1 <;> cases b2 <;> simp : b0 = true ∨ (b0 = false ∧ b1 = false) ∨ (b0 = false ∧ b1 = true ∧ b2 = false) ∨ (b0 = false ∧ b1 = true ∧ b2 = true)) with rfl | ⟨rfl, rfl⟩ | ⟨rfl, rfl, rfl⟩ | ⟨rfl, rfl, rfl⟩
                all_goals refine start_ (n := 34) (S := (fun w' => w'.cell? ⟨gy, 0, none⟩ = some (.int .i64 y.f0) ∧ w'.cell? ⟨gy, 1, none⟩ = some (.int .i64 y.f1) ∧ w'.cell? ⟨w.heap.size, 0, none⟩ = some (.slice A0_0 l0_0.length c0_0) ∧ w'.cell? ⟨w.heap.size, 1, none⟩ = some (.slice (some ad) l0_1.length c0_1) ∧ w'.heap[w.heap.size]? = some (.cells #[.slice A0_0 l0_0.length c0_0, .slice (some ad) l0_1.length c0_1] 33 (0, 0)) ∧ Below w.heap.size w w')) (ds := []) (bl 0 34) (by kernel_rfl) rfl rfl HS0.out (fun hHeld => ?_); refine with_tabW spec_l2Good.tab13 spec_l2Good.bits13 (fun HT_ HW_ => ?_)
                all_goals generalize wq.drew = wv at hHeld ⊢
                all_goals first | refine pA_ 0 (some 67) (bl 1 34) HT_.out (h := ?_) | refine pO_ 0 (some 67) (bl 1 34) HT_.out (h := ?_)
                all_goals first | refine pA_ 2 (some 69) (bx 1 [2] 34) HT_.out (h := ?_) | refine pO_ 2 (some 69) (bx 1 [2] 34) HT_.out (h := ?_)
                all_goals first | refine tA_ 1 (some 68) (bl 3 34) HT_.out HW_.out hHeld (h := ?_) | refine pO_ 1 (some 68) (bl 3 34) HT_.out (h := ?_)
                all_goals first | refine tA_ 3 (some 70) (bl 4 34) HT_.out HW_.out hHeld (h := ?_) | refine pO_ 3 (some 70) (bl 4 34) HT_.out (h := ?_)
                all_goals first | refine pA_ 4 (some 71) (bl 5 34) HT_.out (h := ?_) | refine pO_ 4 (some 71) (bl 5 34) HT_.out (h := ?_)
                all_goals first | refine pA_ 5 (some 72) (bl 6 34) HT_.out (h := ?_) | refine pO_ 5 (some 72) (bl 6 34) HT_.out (h := ?_)
                all_goals first | refine pA_ 7 (some 74) (bx 6 [7] 34) HT_.out (h := ?_) | refine pO_ 7 (some 74) (bx 6 [7] 34) HT_.out (h := ?_)
                all_goals first | refine tA_ 6 (some 73) (bl 8 34) HT_.out HW_.out hHeld (h := ?_) | refine pO_ 6 (some 73) (bl 8 34) HT_.out (h := ?_)
                all_goals first | refine tA_ 8 (some 75) (bl 9 34) HT_.out HW_.out hHeld (h := ?_) | refine pO_ 8 (some 75) (bl 9 34) HT_.out (h := ?_)
                all_goals first | refine pO_ 9 (some 76) (bl 10 34) HT_.out (h := ?_) | (refine one_ (i := 9) (N := some 76) (bl 10 34) rfl rfl (one_of HT_.out (by kernel_rfl)) (by decide) (fun K hK => ?_); refine goes_ Try.func90 (by kernel_rfl) rfl #[.agg #[.slice A0_0 l0_0.length c0_0, .slice (some ad) l0_1.length c0_1], .int .i64 y.f0] (by rfl) rfl rfl (by (try simp only [List.map_toArray, List.map_cons, List.map_nil]); first | done | rfl) ?_; with_reducible refine (spec_l2Find.calls _ _ l0_0 _ _ l0_1 y.f0 _ _ (Kd.C_below HR0.out hHeld.2.2.2.2.2) HC0.out (Kd.C_below HR1.out hHeld.2.2.2.2.2) HC1.out (find_f _ _ _)).mono ?_; rintro e w1 ⟨rfl, hb⟩; refine ⟨_, rfl, ?_⟩; refine hK.out _ _ ⟨pw_cell_below hb hHeld.1, pw_cell_below hb hHeld.2.1, pw_cell_below hb hHeld.2.2.1, pw_cell_below hb hHeld.2.2.2.1, blk_below hHeld.2.2.2.2.1 hb, below_step hHeld.2.2.2.2.2 hb⟩ (fun hHeld => ?_); clear hK K; refine norm_ (a' := ?_) ?_ ?_; rotate_left; (show Act.put _ (some 76) _ = _; simp only [Act.put, List.setIfInBounds_toArray, List.set_cons_zero, List.set_cons_succ, i64_w, i32_w]; rfl))
                all_goals first | refine pA_ 10 (some 77) (bl 11 34) HT_.out (h := ?_) | refine pO_ 10 (some 77) (bl 11 34) HT_.out (h := ?_)
                all_goals first | refine pA_ 11 (some 78) (bl 12 34) HT_.out (h := ?_) | refine pO_ 11 (some 78) (bl 12 34) HT_.out (h := ?_)
                all_goals first | refine pA_ 12 (some 79) (bl 13 34) HT_.out (h := ?_) | refine pO_ 12 (some 79) (bl 13 34) HT_.out (h := ?_)
                all_goals first | refine pA_ 14 (some 81) (bx 13 [14] 34) HT_.out (h := ?_) | refine pO_ 14 (some 81) (bx 13 [14] 34) HT_.out (h := ?_)
                all_goals first | refine tA_ 13 (some 80) (bl 15 34) HT_.out HW_.out hHeld (h := ?_) | refine pO_ 13 (some 80) (bl 15 34) HT_.out (h := ?_)
                all_goals first | refine tA_ 15 (some 82) (bl 16 34) HT_.out HW_.out hHeld (h := ?_) | refine pO_ 15 (some 82) (bl 16 34) HT_.out (h := ?_)
                all_goals first | refine pO_ 16 (some 83) (bl 17 34) HT_.out (h := ?_) | (refine one_ (i := 16) (N := some 83) (bl 17 34) rfl rfl (one_of HT_.out (by kernel_rfl)) (by decide) (fun K hK => ?_); refine goes_ Try.func90 (by kernel_rfl) rfl #[.agg #[.slice A0_0 l0_0.length c0_0, .slice (some ad) l0_1.length c0_1], .int .i64 y.f1] (by rfl) rfl rfl (by (try simp only [List.map_toArray, List.map_cons, List.map_nil]); first | done | rfl) ?_; with_reducible refine (spec_l2Find.calls _ _ l0_0 _ _ l0_1 y.f1 _ _ (Kd.C_below HR0.out hHeld.2.2.2.2.2) HC0.out (Kd.C_below HR1.out hHeld.2.2.2.2.2) HC1.out (find_f _ _ _)).mono ?_; rintro e w1 ⟨rfl, hb⟩; refine ⟨_, rfl, ?_⟩; refine hK.out _ _ ⟨pw_cell_below hb hHeld.1, pw_cell_below hb hHeld.2.1, pw_cell_below hb hHeld.2.2.1, pw_cell_below hb hHeld.2.2.2.1, blk_below hHeld.2.2.2.2.1 hb, below_step hHeld.2.2.2.2.2 hb⟩ (fun hHeld => ?_); clear hK K; refine norm_ (a' := ?_) ?_ ?_; rotate_left; (show Act.put _ (some 83) _ = _; simp only [Act.put, List.setIfInBounds_toArray, List.set_cons_zero, List.set_cons_succ, i64_w, i32_w]; rfl))
                all_goals first | refine pA_ 17 (some 84) (bl 18 34) HT_.out (h := ?_) | refine pO_ 17 (some 84) (bl 18 34) HT_.out (h := ?_)
                all_goals first | refine pA_ 18 (some 85) (bl 19 34) HT_.out (h := ?_) | refine pO_ 18 (some 85) (bl 19 34) HT_.out (h := ?_)
                all_goals first | refine pA_ 19 (some 86) (bl 20 34) HT_.out (h := ?_) | refine pO_ 19 (some 86) (bl 20 34) HT_.out (h := ?_)
                all_goals first | refine pA_ 20 (some 87) (bl 21 34) HT_.out (h := ?_) | refine pO_ 20 (some 87) (bl 21 34) HT_.out (h := ?_)
                all_goals first | refine pA_ 21 (some 88) (bl 22 34) HT_.out (h := ?_) | refine pO_ 21 (some 88) (bl 22 34) HT_.out (h := ?_)
                all_goals first | refine pA_ 22 (some 89) (bl 23 34) HT_.out (h := ?_) | refine pO_ 22 (some 89) (bl 23 34) HT_.out (h := ?_)
                all_goals first | refine pA_ 23 (some 90) (bl 24 34) HT_.out (h := ?_) | refine pO_ 23 (some 90) (bl 24 34) HT_.out (h := ?_)
                all_goals first | refine pA_ 25 (some 92) (bx 24 [25] 34) HT_.out (h := ?_) | refine pO_ 25 (some 92) (bx 24 [25] 34) HT_.out (h := ?_)
                all_goals first | refine pA_ 26 (some 93) (bx 24 [25, 26] 34) HT_.out (h := ?_) | refine pO_ 26 (some 93) (bx 24 [25, 26] 34) HT_.out (h := ?_)
                all_goals first | refine tA_ 24 (some 91) (bl 27 34) HT_.out HW_.out hHeld (h := ?_) | refine pO_ 24 (some 91) (bl 27 34) HT_.out (h := ?_)
                all_goals first | refine pA_ 27 (some 94) (bl 28 34) HT_.out (h := ?_) | refine pO_ 27 (some 94) (bl 28 34) HT_.out (h := ?_)
                all_goals first | refine tA_ 28 (some 95) (bl 29 34) HT_.out HW_.out hHeld (h := ?_) | refine pO_ 28 (some 95) (bl 29 34) HT_.out (h := ?_)
                all_goals first | refine tA_ 29 (some 96) (bl 30 34) HT_.out HW_.out hHeld (h := ?_) | refine pO_ 29 (some 96) (bl 30 34) HT_.out (h := ?_)
                all_goals first | refine pO_ 30 (some 97) (bl 31 34) HT_.out (h := ?_) | (refine one_ (i := 30) (N := some 97) (bl 31 34) rfl rfl (one_of HT_.out (by kernel_rfl)) (by decide) (fun K hK => ?_); refine goes_ Try.func110 (by kernel_rfl) rfl #[.agg #[.int .i64 y.f0, .int .i64 y.f1], .agg #[.int .i64 y.f0, .int .i64 y.f1]] (by rfl) rfl rfl (by (try simp only [List.map_toArray, List.map_cons, List.map_nil]); first | done | rfl) ?_; with_reducible refine (spec_l2Before.calls _ _ _ _ _ _ rfl).mono ?_; rintro e w1 ⟨rfl, hb⟩; refine ⟨_, rfl, ?_⟩; refine hK.out _ _ ⟨pw_cell_below hb hHeld.1, pw_cell_below hb hHeld.2.1, pw_cell_below hb hHeld.2.2.1, pw_cell_below hb hHeld.2.2.2.1, blk_below hHeld.2.2.2.2.1 hb, below_step hHeld.2.2.2.2.2 hb⟩ (fun hHeld => ?_); clear hK K; refine norm_ (a' := ?_) ?_ ?_; rotate_left; (show Act.put _ (some 97) _ = _; simp only [Act.put, List.setIfInBounds_toArray, List.set_cons_zero, List.set_cons_succ, i64_w, i32_w]; rfl))
                all_goals first | refine pA_ 31 (some 98) (bl 32 34) HT_.out (h := ?_) | refine pO_ 31 (some 98) (bl 32 34) HT_.out (h := ?_)
                all_goals first | refine pA_ 32 (some 99) (bl 33 34) HT_.out (h := ?_) | refine pO_ 32 (some 99) (bl 33 34) HT_.out (h := ?_)
                all_goals first | refine pA_ 33 (some 100) (bl 34 34) HT_.out (h := ?_) | refine pO_ 33 (some 100) (bl 34 34) HT_.out (h := ?_)
                all_goals refine done_ (done_of HT_.out (by kernel_rfl)) ?_
                all_goals try go_wp2
                all_goals first
                  | (go_ret; exact ⟨by rw [HA.out, HAT.out]; rfl, by (go_split_ands; assumption)⟩)
                  | (go_roundg (l0_1.length - 1); (case measure => omega); (case rel => exact ⟨1, by omega, by omega, by go_num, ⟨(by (go_split_ands; assumption))⟩, ⟨(by (go_split_ands; assumption))⟩, ⟨by rw [HA.out, HAT.out]; rfl⟩⟩))
              | succ j =>
                have h0 : decide (0 < ((j + 1 : Nat) : Int)) = true := decide_eq_true (by omega)
                have hlj : j < l0_1.length := by omega
                have hljz : (j : Int) < (l0_1.length : Int) := by omega
                obtain ⟨ad2, e7, hx0, hx1⟩ := at_T100 HR1.out (j : Int) (by omega) hljz
                obtain rfl : ad = ad2 := by injection e7
                have e6 : rd_T100 l0_1 (j : Int) = l0_1.getD j z100 := by simp [rd_T100]
                rw [e6] at hx0 hx1
                simp only [Int.toNat_natCast] at hx0 hx1
                obtain ⟨p, hp⟩ : ∃ p, l0_1.getD j z100 = p := ⟨_, rfl⟩
                have HPV : prevR l0_1 (j + 1) = some p := by rw [← hp]; rfl
                have HA2 := HA.out
                rw [hp] at hx0 hx1
                rw [HPV] at HAT HA2
                dsimp only at HAT
                replace HA := Aside0.mk HA2
                obtain ⟨b3, hb3⟩ : ∃ b, before p y = b := ⟨_, rfl⟩
                have A3 := Aside0.mk ((l2Before_eq p y).trans (congrArg some hb3))
                rw [hb3] at HAT
                have HS0 := Aside0.mk (show (fun w' : World => w'.cell? ⟨gy, 0, none⟩ = some (.int .i64 y.f0) ∧ w'.cell? ⟨gy, 1, none⟩ = some (.int .i64 y.f1) ∧ w'.cell? ⟨w.heap.size, 0, none⟩ = some (.slice A0_0 l0_0.length c0_0) ∧ w'.cell? ⟨w.heap.size, 1, none⟩ = some (.slice (some ad) l0_1.length c0_1) ∧ w'.cell? (ad.add (j * 2)) = some (.int .i64 p.f0) ∧ w'.cell? ⟨(ad.add (j * 2)).block, (ad.add (j * 2)).off + 1, none⟩ = some (.int .i64 p.f1) ∧ w'.heap[w.heap.size]? = some (.cells #[.slice A0_0 l0_0.length c0_0, .slice (some ad) l0_1.length c0_1] 33 (0, 0)) ∧ Below w.heap.size w w') wq.drew from ⟨(blk_cell (blk_drew BK3.out) 0).trans rfl, (blk_cell (blk_drew BK3.out) 1).trans rfl, (blk_cell (blk_drew BK2.out) 0).trans rfl, (blk_cell (blk_drew BK2.out) 1).trans rfl, (HB2.out.cell (World.block_lt_of_cell? w _ hx0)).trans hx0, (HB2.out.cell (World.block_lt_of_cell? w _ hx1)).trans hx1, blk_drew BK2.out, below_drew1 HB2.out⟩)
                replace HAT := Aside0.mk HAT
                clear hc0 HA2 hb3 hp e6 HPV e7
                have hjw : IntKind.i64.wrap (((j + 1 : Nat) : Int) - 1) = (j : Int) := by
                  have := hr1l.out
                  rw [i64_w]; unfold wrap64; omega
                have hjw2 : Go.RowKit.wrap64 (j : Int) = (j : Int) := by
                  have e : ((j + 1 : Nat) : Int) - 1 = (j : Int) := by omega
                  rw [e, i64_w] at hjw
                  exact hjw
                rcases (by cases b0 <;> cases b1 <;> cases b2 <;> cases b3 <;> simp : b0 = true ∨ (b0 = false ∧ b1 = false) ∨ (b0 = false ∧ b1 = true ∧ b2 = false) ∨ (b0 = false ∧ b1 = true ∧ b2 = true ∧ b3 = false) ∨ (b0 = false ∧ b1 = true ∧ b2 = true ∧ b3 = true)) with rfl | ⟨rfl, rfl⟩ | ⟨rfl, rfl, rfl⟩ | ⟨rfl, rfl, rfl, rfl⟩ | ⟨rfl, rfl, rfl, rfl⟩
                all_goals refine start_ (n := 34) (S := (fun w' => w'.cell? ⟨gy, 0, none⟩ = some (.int .i64 y.f0) ∧ w'.cell? ⟨gy, 1, none⟩ = some (.int .i64 y.f1) ∧ w'.cell? ⟨w.heap.size, 0, none⟩ = some (.slice A0_0 l0_0.length c0_0) ∧ w'.cell? ⟨w.heap.size, 1, none⟩ = some (.slice (some ad) l0_1.length c0_1) ∧ w'.cell? (ad.add (j * 2)) = some (.int .i64 p.f0) ∧ w'.cell? ⟨(ad.add (j * 2)).block, (ad.add (j * 2)).off + 1, none⟩ = some (.int .i64 p.f1) ∧ w'.heap[w.heap.size]? = some (.cells #[.slice A0_0 l0_0.length c0_0, .slice (some ad) l0_1.length c0_1] 33 (0, 0)) ∧ Below w.heap.size w w')) (ds := []) (bl 0 34) (by kernel_rfl) rfl rfl HS0.out (fun hHeld => ?_); refine with_tabW spec_l2Good.tab13 spec_l2Good.bits13 (fun HT_ HW_ => ?_)
                all_goals generalize wq.drew = wv at hHeld ⊢
                all_goals first | refine pA_ 0 (some 67) (bl 1 34) HT_.out (h := ?_) | refine pO_ 0 (some 67) (bl 1 34) HT_.out (h := ?_)
                all_goals first | refine pA_ 2 (some 69) (bx 1 [2] 34) HT_.out (h := ?_) | refine pO_ 2 (some 69) (bx 1 [2] 34) HT_.out (h := ?_)
                all_goals first | refine tA_ 1 (some 68) (bl 3 34) HT_.out HW_.out hHeld (h := ?_) | refine pO_ 1 (some 68) (bl 3 34) HT_.out (h := ?_)
                all_goals first | refine tA_ 3 (some 70) (bl 4 34) HT_.out HW_.out hHeld (h := ?_) | refine pO_ 3 (some 70) (bl 4 34) HT_.out (h := ?_)
                all_goals first | refine pA_ 4 (some 71) (bl 5 34) HT_.out (h := ?_) | refine pO_ 4 (some 71) (bl 5 34) HT_.out (h := ?_)
                all_goals first | refine pA_ 5 (some 72) (bl 6 34) HT_.out (h := ?_) | refine pO_ 5 (some 72) (bl 6 34) HT_.out (h := ?_)
                all_goals first | refine pA_ 7 (some 74) (bx 6 [7] 34) HT_.out (h := ?_) | refine pO_ 7 (some 74) (bx 6 [7] 34) HT_.out (h := ?_)
                all_goals first | refine tA_ 6 (some 73) (bl 8 34) HT_.out HW_.out hHeld (h := ?_) | refine pO_ 6 (some 73) (bl 8 34) HT_.out (h := ?_)
                all_goals first | refine tA_ 8 (some 75) (bl 9 34) HT_.out HW_.out hHeld (h := ?_) | refine pO_ 8 (some 75) (bl 9 34) HT_.out (h := ?_)
                all_goals first | refine pO_ 9 (some 76) (bl 10 34) HT_.out (h := ?_) | (refine one_ (i := 9) (N := some 76) (bl 10 34) rfl rfl (one_of HT_.out (by kernel_rfl)) (by decide) (fun K hK => ?_); refine goes_ Try.func90 (by kernel_rfl) rfl #[.agg #[.slice A0_0 l0_0.length c0_0, .slice (some ad) l0_1.length c0_1], .int .i64 y.f0] (by rfl) rfl rfl (by (try simp only [List.map_toArray, List.map_cons, List.map_nil]); first | done | rfl) ?_; with_reducible refine (spec_l2Find.calls _ _ l0_0 _ _ l0_1 y.f0 _ _ (Kd.C_below HR0.out hHeld.2.2.2.2.2.2.2) HC0.out (Kd.C_below HR1.out hHeld.2.2.2.2.2.2.2) HC1.out (find_f _ _ _)).mono ?_; rintro e w1 ⟨rfl, hb⟩; refine ⟨_, rfl, ?_⟩; refine hK.out _ _ ⟨pw_cell_below hb hHeld.1, pw_cell_below hb hHeld.2.1, pw_cell_below hb hHeld.2.2.1, pw_cell_below hb hHeld.2.2.2.1, pw_cell_below hb hHeld.2.2.2.2.1, pw_cell_below hb hHeld.2.2.2.2.2.1, blk_below hHeld.2.2.2.2.2.2.1 hb, below_step hHeld.2.2.2.2.2.2.2 hb⟩ (fun hHeld => ?_); clear hK K; refine norm_ (a' := ?_) ?_ ?_; rotate_left; (show Act.put _ (some 76) _ = _; simp only [Act.put, List.setIfInBounds_toArray, List.set_cons_zero, List.set_cons_succ, i64_w, i32_w]; rfl))
                all_goals first | refine pA_ 10 (some 77) (bl 11 34) HT_.out (h := ?_) | refine pO_ 10 (some 77) (bl 11 34) HT_.out (h := ?_)
                all_goals first | refine pA_ 11 (some 78) (bl 12 34) HT_.out (h := ?_) | refine pO_ 11 (some 78) (bl 12 34) HT_.out (h := ?_)
                all_goals first | refine pA_ 12 (some 79) (bl 13 34) HT_.out (h := ?_) | refine pO_ 12 (some 79) (bl 13 34) HT_.out (h := ?_)
                all_goals first | refine pA_ 14 (some 81) (bx 13 [14] 34) HT_.out (h := ?_) | refine pO_ 14 (some 81) (bx 13 [14] 34) HT_.out (h := ?_)
                all_goals first | refine tA_ 13 (some 80) (bl 15 34) HT_.out HW_.out hHeld (h := ?_) | refine pO_ 13 (some 80) (bl 15 34) HT_.out (h := ?_)
                all_goals first | refine tA_ 15 (some 82) (bl 16 34) HT_.out HW_.out hHeld (h := ?_) | refine pO_ 15 (some 82) (bl 16 34) HT_.out (h := ?_)
                all_goals first | refine pO_ 16 (some 83) (bl 17 34) HT_.out (h := ?_) | (refine one_ (i := 16) (N := some 83) (bl 17 34) rfl rfl (one_of HT_.out (by kernel_rfl)) (by decide) (fun K hK => ?_); refine goes_ Try.func90 (by kernel_rfl) rfl #[.agg #[.slice A0_0 l0_0.length c0_0, .slice (some ad) l0_1.length c0_1], .int .i64 y.f1] (by rfl) rfl rfl (by (try simp only [List.map_toArray, List.map_cons, List.map_nil]); first | done | rfl) ?_; with_reducible refine (spec_l2Find.calls _ _ l0_0 _ _ l0_1 y.f1 _ _ (Kd.C_below HR0.out hHeld.2.2.2.2.2.2.2) HC0.out (Kd.C_below HR1.out hHeld.2.2.2.2.2.2.2) HC1.out (find_f _ _ _)).mono ?_; rintro e w1 ⟨rfl, hb⟩; refine ⟨_, rfl, ?_⟩; refine hK.out _ _ ⟨pw_cell_below hb hHeld.1, pw_cell_below hb hHeld.2.1, pw_cell_below hb hHeld.2.2.1, pw_cell_below hb hHeld.2.2.2.1, pw_cell_below hb hHeld.2.2.2.2.1, pw_cell_below hb hHeld.2.2.2.2.2.1, blk_below hHeld.2.2.2.2.2.2.1 hb, below_step hHeld.2.2.2.2.2.2.2 hb⟩ (fun hHeld => ?_); clear hK K; refine norm_ (a' := ?_) ?_ ?_; rotate_left; (show Act.put _ (some 83) _ = _; simp only [Act.put, List.setIfInBounds_toArray, List.set_cons_zero, List.set_cons_succ, i64_w, i32_w]; rfl))
                all_goals first | refine pA_ 17 (some 84) (bl 18 34) HT_.out (h := ?_) | refine pO_ 17 (some 84) (bl 18 34) HT_.out (h := ?_)
                all_goals first | refine pA_ 18 (some 85) (bl 19 34) HT_.out (h := ?_) | refine pO_ 18 (some 85) (bl 19 34) HT_.out (h := ?_)
                all_goals first | refine pA_ 19 (some 86) (bl 20 34) HT_.out (h := ?_) | refine pO_ 19 (some 86) (bl 20 34) HT_.out (h := ?_)
                all_goals first | refine pA_ 20 (some 87) (bl 21 34) HT_.out (h := ?_) | refine pO_ 20 (some 87) (bl 21 34) HT_.out (h := ?_)
                all_goals first | refine pA_ 21 (some 88) (bl 22 34) HT_.out (h := ?_) | refine pO_ 21 (some 88) (bl 22 34) HT_.out (h := ?_)
                all_goals first | refine pA_ 22 (some 89) (bl 23 34) HT_.out (h := ?_) | refine pO_ 22 (some 89) (bl 23 34) HT_.out (h := ?_)
                all_goals first | refine pA_ 23 (some 90) (bl 24 34) HT_.out (h := ?_) | refine pO_ 23 (some 90) (bl 24 34) HT_.out (h := ?_)
                all_goals first | refine pA_ 25 (some 92) (bx 24 [25] 34) HT_.out (h := ?_) | refine pO_ 25 (some 92) (bx 24 [25] 34) HT_.out (h := ?_)
                all_goals first | refine pA_ 26 (some 93) (bx 24 [25, 26] 34) HT_.out (h := ?_) | refine pO_ 26 (some 93) (bx 24 [25, 26] 34) HT_.out (h := ?_)
                all_goals first | refine tA_ 24 (some 91) (bl 27 34) HT_.out HW_.out hHeld (h := ?_) | refine pO_ 24 (some 91) (bl 27 34) HT_.out (h := ?_)
                all_goals first | refine pA_ 27 (some 94) (bl 28 34) HT_.out (h := ?_) | refine pO_ 27 (some 94) (bl 28 34) HT_.out (h := ?_)
                all_goals first | refine tA_ 28 (some 95) (bl 29 34) HT_.out HW_.out hHeld (h := ?_) | refine pO_ 28 (some 95) (bl 29 34) HT_.out (h := ?_)
                all_goals first | refine tA_ 29 (some 96) (bl 30 34) HT_.out HW_.out hHeld (h := ?_) | refine pO_ 29 (some 96) (bl 30 34) HT_.out (h := ?_)
                all_goals first | refine pO_ 30 (some 97) (bl 31 34) HT_.out (h := ?_) | (refine one_ (i := 30) (N := some 97) (bl 31 34) rfl rfl (one_of HT_.out (by kernel_rfl)) (by decide) (fun K hK => ?_); refine goes_ Try.func110 (by kernel_rfl) rfl #[.agg #[.int .i64 p.f0, .int .i64 p.f1], .agg #[.int .i64 y.f0, .int .i64 y.f1]] (by rfl) rfl rfl (by (try simp only [List.map_toArray, List.map_cons, List.map_nil]); first | done | rfl) ?_; with_reducible refine (spec_l2Before.calls _ _ _ _ _ _ A3.out).mono ?_; rintro e w1 ⟨rfl, hb⟩; refine ⟨_, rfl, ?_⟩; refine hK.out _ _ ⟨pw_cell_below hb hHeld.1, pw_cell_below hb hHeld.2.1, pw_cell_below hb hHeld.2.2.1, pw_cell_below hb hHeld.2.2.2.1, pw_cell_below hb hHeld.2.2.2.2.1, pw_cell_below hb hHeld.2.2.2.2.2.1, blk_below hHeld.2.2.2.2.2.2.1 hb, below_step hHeld.2.2.2.2.2.2.2 hb⟩ (fun hHeld => ?_); clear hK K; refine norm_ (a' := ?_) ?_ ?_; rotate_left; (show Act.put _ (some 97) _ = _; simp only [Act.put, List.setIfInBounds_toArray, List.set_cons_zero, List.set_cons_succ, i64_w, i32_w]; rfl))
                all_goals first | refine pA_ 31 (some 98) (bl 32 34) HT_.out (h := ?_) | refine pO_ 31 (some 98) (bl 32 34) HT_.out (h := ?_)
                all_goals first | refine pA_ 32 (some 99) (bl 33 34) HT_.out (h := ?_) | refine pO_ 32 (some 99) (bl 33 34) HT_.out (h := ?_)
                all_goals first | refine pA_ 33 (some 100) (bl 34 34) HT_.out (h := ?_) | refine pO_ 33 (some 100) (bl 34 34) HT_.out (h := ?_)
                all_goals refine done_ (done_of HT_.out (by kernel_rfl)) ?_
                all_goals clear hjw hjw2
                all_goals try go_wp2
                all_goals first
                  | (go_ret; exact ⟨by rw [HA.out, HAT.out]; rfl, by (go_split_ands; assumption)⟩)
                  | (go_roundg (l0_1.length - (j + 2)); (case measure => omega); (case rel => exact ⟨j + 2, by omega, by omega, by go_num, ⟨(by (go_split_ands; assumption))⟩, ⟨(by (go_split_ands; assumption))⟩, ⟨by rw [HA.out, HAT.out]; rfl⟩⟩))
            · obtain rfl : i = l0_1.length := by omega
              have HA2 := HA.out
              rw [List.drop_length] at HA2
              replace HA := Aside0.mk (HA2.trans (by simp only [relOk] : _ = true))
              clear HA2
              go_wp2
              go_ret
              exact ⟨by rw [HA.out]; rfl, HB.out⟩
    · have HG := Aside0.mk (show goodB l0_0 l0_1 = false from by simp [goodB, h2])
      have e1 : decide ((10 : Int) < (l0_0.length : Int)) = false := decide_eq_false (by omega)
      have e3 : decide (10 < l0_0.length) = false := decide_eq_false (by omega)
      have e2 : decide ((24 : Int) < (l0_1.length : Int)) = true := decide_eq_true (by omega)
      have e4 : decide (24 < l0_1.length) = true := decide_eq_true (by omega)
      go_enter Try.func67, Try.ntmps67
      go_wp2
      go_ret
      exact ⟨by rw [HG.out]; rfl, below_alloc (Below.refl _ _) _⟩
  · have HG := Aside0.mk (show goodB l0_0 l0_1 = false from by simp [goodB, h1])
    have e1 : decide ((10 : Int) < (l0_0.length : Int)) = true := decide_eq_true (by omega)
    have e3 : decide (10 < l0_0.length) = true := decide_eq_true (by omega)
    go_enter Try.func67, Try.ntmps67
    go_wp2
    go_ret
    exact ⟨by rw [HG.out]; rfl, below_alloc (Below.refl _ _) _⟩

end Go.Proofs.Ytlbkoejpjpcgaaa.Q
