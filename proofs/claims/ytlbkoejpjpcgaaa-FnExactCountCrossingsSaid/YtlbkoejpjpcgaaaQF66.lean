-- Written by a program of this session (wip/xprint.py over the kit's printer).
import Derived.Test.YtlbkoejpjpcgaaaQ0
import Derived.Test.YtlbkoejpjpcgaaaQF106
import Derived.Test.YtlbkoejpjpcgaaaQF58
import Derived.Test.YtlbkoejpjpcgaaaQP
namespace Go.Proofs.Ytlbkoejpjpcgaaa.Q
open Go.RowKit Go.Proofs.YtlbkoejpjpcgaaaW.PrintWords Go.Proofs.YtlbkoejpjpcgaaaW.PrintLast
set_option linter.unusedVariables false
set_option linter.unusedSimpArgs false

/-! ### impl_crossings: function 66 -/
/-- The place of a number in a row, or -1. -/
def cIx (l : List Int) (n : Int) : Int := idxI (fun y => n == y) l
theorem cIx_range (l : List Int) (n : Int) : -1 ≤ cIx l n ∧ cIx l n < l.length := idxI_range _ _
/-- Two links cross. -/
def crossB (up lo : List Int) (x y : S100) : Bool := decide (0 ≤ cIx up x.f0) && (decide (0 ≤ cIx lo x.f1) && (decide (0 ≤ cIx up y.f0) && (decide (0 ≤ cIx lo y.f1) && decide ((cIx up x.f0 - cIx up y.f0) * (cIx lo x.f1 - cIx lo y.f1) < 0))))
def crsIn (ls : List S100) (up lo : List Int) (x : S100) (k : Nat) : Nat := ((ls.take k).filter (crossB up lo x)).length
theorem crsIn_succ (ls : List S100) (up lo : List Int) (x : S100) (k : Nat) (h : k < ls.length) : crsIn ls up lo x (k + 1) = crsIn ls up lo x k + (if crossB up lo x (ls.getD k z100) = true then 1 else 0) := by
  unfold crsIn
  rw [List.take_add_one, List.getElem?_eq_getElem h, List.filter_append, List.length_append, List.getD_eq_getElem?_getD, List.getElem?_eq_getElem h]
  show _ + (List.filter _ [ls[k]]).length = _
  cases hc : crossB up lo x ls[k] <;> simp [hc]
theorem crsIn_le (ls : List S100) (up lo : List Int) (x : S100) (k : Nat) : crsIn ls up lo x k ≤ k := by
  unfold crsIn
  refine Nat.le_trans (List.length_filter_le _ _) ?_
  rw [List.length_take]
  exact Nat.min_le_left _ _
theorem crsIn_none (ls : List S100) (up lo : List Int) (x : S100) (k : Nat) (h : cIx up x.f0 < 0 ∨ cIx lo x.f1 < 0) : crsIn ls up lo x k = 0 := by
  unfold crsIn
  rw [List.length_eq_zero_iff, List.filter_eq_nil_iff]
  intro y _
  unfold crossB
  rcases h with h | h
  · rw [decide_eq_false (show ¬ 0 ≤ cIx up x.f0 by omega)]; simp
  · rw [decide_eq_false (show ¬ 0 ≤ cIx lo x.f1 by omega)]; simp
def crsTo (ls : List S100) (up lo : List Int) : Nat → Nat
  | 0 => 0
  | i + 1 => crsTo ls up lo i + crsIn ls up lo (ls.getD i z100) i
theorem crsTo_le (ls : List S100) (up lo : List Int) : ∀ i, crsTo ls up lo i ≤ i * i
  | 0 => Nat.le_refl _
  | i + 1 => by
    have h1 := crsTo_le ls up lo i
    have h2 := crsIn_le ls up lo (ls.getD i z100) i
    have h3 : (i + 1) * (i + 1) = i * i + 2 * i + 1 := by rw [Nat.add_mul, Nat.mul_add]; omega
    show crsTo ls up lo i + _ ≤ _
    omega
theorem mul_small {x y : Int} (h1 : -1048577 ≤ x) (h2 : x ≤ 1048577) (h3 : -1048577 ≤ y) (h4 : y ≤ 1048577) : wrap64 (x * y) = x * y := by
  have h5 : (x * y).natAbs ≤ 1048577 * 1048577 := by rw [Int.natAbs_mul]; exact Nat.mul_le_mul (by omega) (by omega)
  generalize x * y = p at h5
  unfold wrap64
  omega
def impl_crossings.f (ls : List S100) (up lo : List Int) : Option Int := if ls.length ≤ 1000 ∧ up.length ≤ 1048576 ∧ lo.length ≤ 1048576 then some (crsTo ls up lo ls.length : Int) else none
def impl_crossings.T5 : Bool × List (List Nat × List Nat) := (true, [([], []), ([], []), ([1], [1]), ([0, 2], [0, 2]), ([], []), ([], []), ([5], [5]), ([4, 6, 3], [4, 6]), ([3, 7, 0, 1, 2, 3], [3]), ([7, 8, 0, 1, 2, 3, 4, 5, 6, 7, 8], [7])])
def impl_crossings.B5 : List Nat := [0, 0, 2, 7, 0, 0, 32, 127, 255, 511]
theorem impl_crossings.tab5 : rtab .any (opsOf Try.f66 5) = impl_crossings.T5 := by kernel_rfl
theorem impl_crossings.bits5 : waitsOk impl_crossings.T5.2 impl_crossings.B5 = true := by kernel_rfl
def impl_crossings.T10 : Bool × List (List Nat × List Nat) := (true, [([], []), ([], []), ([1], [1]), ([0, 2], [0, 2]), ([], []), ([], []), ([5], [5]), ([4, 6, 3], [4, 6]), ([3, 7, 0, 1, 2, 3], [3]), ([7, 8, 0, 1, 2, 3, 4, 5, 6, 7, 8], [7])])
def impl_crossings.B10 : List Nat := [0, 0, 2, 7, 0, 0, 32, 127, 255, 511]
theorem impl_crossings.tab10 : rtab .any (opsOf Try.f66 10) = impl_crossings.T10 := by kernel_rfl
theorem impl_crossings.bits10 : waitsOk impl_crossings.T10.2 impl_crossings.B10 = true := by kernel_rfl
set_option maxHeartbeats 8000000 in
set_option maxRecDepth 100000 in
theorem impl_crossings.calls (A0 : Option Addr) (c0 : Nat) (ls : List S100) (AU : Option Addr) (cu : Nat) (up : List Int) (AL : Option Addr) (cl : Nat) (lo : List Int) (r : Int) (w : World) (hr0 : Kd.C k100 w A0 ls.length ls) (hc0 : ls.length ≤ c0) (hr1 : Kd.C (Kd.int .i64) w AU up.length up) (hc1 : up.length ≤ cu) (hr2 : Kd.C (Kd.int .i64) w AL lo.length lo) (hc2 : lo.length ≤ cl) (h : impl_crossings.f ls up lo = some r) :
    Calls Try.prog 66 #[.slice A0 ls.length c0, .slice AU up.length cu, .slice AL lo.length cl] w fun e w' => e = .returned (.int .i64 r) ∧ Below w.heap.size w w' := by
  unfold impl_crossings.f at h
  have hb : ls.length ≤ 1000 ∧ up.length ≤ 1048576 ∧ lo.length ≤ 1048576 := by
    by_cases hx : ls.length ≤ 1000 ∧ up.length ≤ 1048576 ∧ lo.length ≤ 1048576
    · exact hx
    · rw [if_neg hx] at h; cases h
  rw [if_pos hb] at h
  have HR_ := Aside0.mk (Option.some.inj h)
  have HBD := Aside0.mk hb
  have HR0 := Aside0.mk hr0
  have HU := Aside0.mk hr1
  have HLO := Aside0.mk hr2
  have HCU := Aside0.mk hc1
  have HCL := Aside0.mk hc2
  have HC0 := Aside0.mk hc0
  have HB := Aside0.mk (Below.refl w.heap.size w)
  clear hr0 hr1 hr2 hc0 hc1 hc2 h hb
  go_enter Try.func66, Try.ntmps66
  go_wp2
  go_loopg [7, 8, 9, 10, 11, 13, 14, 15, 18] ls.length (fun gg s7 _ _ _ _ _ _ _ s18 wr => ∃ i : Nat, i ≤ ls.length ∧ ls.length - i ≤ gg ∧ s7 = .int .i64 (crsTo ls up lo i : Nat) ∧ s18 = .int .i64 i ∧ Aside0 (Below w.heap.size w wr))
  case atStart => exact ⟨0, Nat.zero_le _, by omega, rfl, rfl, HB⟩
  case round =>
    clear HB
    obtain ⟨i, hi, hgg, rfl, rfl, HB⟩ := hrel
    by_cases hil : i < ls.length
    · have hilz : (i : Int) < (ls.length : Int) := by omega
      have hi0 : (0 : Int) ≤ (i : Int) := by omega
      obtain ⟨ad, e1, hx0, hx1⟩ := at_T100 HR0.out (i : Int) hi0 hilz
      subst e1
      have e3 : rd_T100 ls (i : Int) = ls.getD i z100 := by simp [rd_T100]
      rw [e3] at hx0 hx1
      simp only [Int.toNat_natCast] at hx0 hx1
      replace hx0 := (HB.out.cell (World.block_lt_of_cell? w _ hx0)).trans hx0
      replace hx1 := (HB.out.cell (World.block_lt_of_cell? w _ hx1)).trans hx1
      have HSUC := Aside0.mk (show crsTo ls up lo (i + 1) = crsTo ls up lo i + crsIn ls up lo (ls.getD i z100) i from rfl)
      obtain ⟨x, hx⟩ : ∃ x, ls.getD i z100 = x := ⟨_, rfl⟩
      rw [hx] at hx0 hx1 HSUC
      obtain ⟨x0, hxa⟩ : ∃ q, x.f0 = q := ⟨_, rfl⟩
      obtain ⟨x1, hxb⟩ : ∃ q, x.f1 = q := ⟨_, rfl⟩
      rw [hxa] at hx0
      rw [hxb] at hx1
      have HX := Aside0.mk (And.intro hxa hxb)
      clear hx e3 hxa hxb
      have Ix0 := Aside0.mk (show slices_Index_int_int.f up x0 = some (cIx up x0) from if_pos HBD.out.2.1)
      have Ix1 := Aside0.mk (show slices_Index_int_int.f lo x1 = some (cIx lo x1) from if_pos HBD.out.2.2)
      have HRA := Aside0.mk (And.intro (cIx_range up x0) (cIx_range lo x1))
      obtain ⟨ia, hia⟩ : ∃ q, cIx up x0 = q := ⟨_, rfl⟩
      obtain ⟨ib, hib⟩ : ∃ q, cIx lo x1 = q := ⟨_, rfl⟩
      rw [hia] at Ix0 HRA
      rw [hib] at Ix1 HRA
      have HIA := Aside0.mk (And.intro hia hib)
      clear hia hib
      obtain ⟨i0, hi0_, _⟩ := Option.map_eq_some_iff.1 info100
      have HCUT := Aside0.mk (show _ from cut_to (P := Try.prog) 31 100 .i64 Try.underlying31 hi0_ (some ad) ls.length c0 (i : Int) (by omega) (by omega) HC0.out)
      rw [Int.toNat_natCast] at HCUT
      clear hi0_
      go_upto_region 5 with (fail)
      clear hx0 hx1
      have hal := below_alloc (Below.refl wr.heap.size wr) (.cells #[.int .i64 x0, .int .i64 x1] 100 (0, 0))
      have BX := blk_new wr (.cells #[.int .i64 x0, .int .i64 x1] 100 (0, 0))
      obtain ⟨gq, hgq⟩ : ∃ b, wr.heap.size = b := ⟨_, rfl⟩
      have HB2 := Aside0.mk (below_chain (w := w) HB.out hal)
      generalize wr.alloc (.cells #[.int .i64 x0, .int .i64 x1] 100 (0, 0)) = wq at hal BX HB2 ⊢
      rw [hgq] at BX
      try rw [hgq]
      have hq0 : wq.cell? ⟨gq, 0, none⟩ = some (.int .i64 x0) := (blk_cell BX 0).trans rfl
      have hq1 : wq.cell? ⟨gq, 1, none⟩ = some (.int .i64 x1) := (blk_cell BX 1).trans rfl
      have HS0 := Aside0.mk (show (fun w' : World => w'.cell? ⟨gq, 0, none⟩ = some (.int .i64 x0) ∧ w'.cell? ⟨gq, 1, none⟩ = some (.int .i64 x1) ∧ Aside0 (Below w.heap.size w w')) wq.drew from ⟨hq0, hq1, ⟨below_drew1 HB2.out⟩⟩)
      clear hq0 hq1 BX hal hgq HB2 HB
      all_goals refine start_ (n := 10) (S := (fun w' : World => w'.cell? ⟨gq, 0, none⟩ = some (.int .i64 x0) ∧ w'.cell? ⟨gq, 1, none⟩ = some (.int .i64 x1) ∧ Aside0 (Below w.heap.size w w'))) (ds := []) (bl 0 10) (by kernel_rfl) rfl rfl HS0.out (fun hHeld => ?_); refine with_tabW impl_crossings.tab5 impl_crossings.bits5 (fun HT_ HW_ => ?_)
      all_goals generalize wq.drew = wv at hHeld ⊢
      all_goals first | refine pA_ 0 (some 23) (bl 1 10) HT_.out (h := ?_) | refine pO_ 0 (some 23) (bl 1 10) HT_.out (h := ?_)
      all_goals first | refine pA_ 1 (some 24) (bl 2 10) HT_.out (h := ?_) | refine pO_ 1 (some 24) (bl 2 10) HT_.out (h := ?_)
      all_goals first | refine pA_ 4 (some 27) (bx 2 [4] 10) HT_.out (h := ?_) | refine pO_ 4 (some 27) (bx 2 [4] 10) HT_.out (h := ?_)
      all_goals first | refine pA_ 5 (some 28) (bx 2 [4, 5] 10) HT_.out (h := ?_) | refine pO_ 5 (some 28) (bx 2 [4, 5] 10) HT_.out (h := ?_)
      all_goals first | refine tA_ 2 (some 25) (bx 3 [4, 5] 10) HT_.out HW_.out hHeld (h := ?_) | refine pO_ 2 (some 25) (bx 3 [4, 5] 10) HT_.out (h := ?_)
      all_goals first | refine tA_ 6 (some 29) (bx 3 [4, 5, 6] 10) HT_.out HW_.out hHeld (h := ?_) | refine pO_ 6 (some 29) (bx 3 [4, 5, 6] 10) HT_.out (h := ?_)
      all_goals first | refine pO_ 3 (some 26) (bl 7 10) HT_.out (h := ?_) | (refine one_ (i := 3) (N := some 26) (bl 7 10) rfl rfl (one_of HT_.out (by kernel_rfl)) (by decide) (fun K hK => ?_); refine goes_ Try.func58 (by kernel_rfl) rfl #[.slice AU up.length cu, .int .i64 x0] (by rfl) rfl rfl (by (try simp only [List.map_toArray, List.map_cons, List.map_nil]); first | done | rfl) ?_; with_reducible refine (slices_Index_int_int.calls _ _ up x0 _ _ (Kd.C_below HU.out hHeld.2.2.out) HCU.out Ix0.out).mono ?_; rintro e w3 ⟨rfl, hb⟩; refine ⟨_, rfl, ?_⟩; refine hK.out _ _ ⟨pw_cell_below hb hHeld.1, pw_cell_below hb hHeld.2.1, ⟨below_chain hHeld.2.2.out hb⟩⟩ (fun hHeld => ?_); clear hK K; refine norm_ (a' := ?_) ?_ ?_; rotate_left; (show Act.put _ (some 26) _ = _; simp only [Act.put, List.setIfInBounds_toArray, List.set_cons_zero, List.set_cons_succ, i64_w, i32_w]; rfl))
      all_goals first | refine pO_ 7 (some 30) (bl 8 10) HT_.out (h := ?_) | (refine one_ (i := 7) (N := some 30) (bl 8 10) rfl rfl (one_of HT_.out (by kernel_rfl)) (by decide) (fun K hK => ?_); refine goes_ Try.func58 (by kernel_rfl) rfl #[.slice AL lo.length cl, .int .i64 x1] (by rfl) rfl rfl (by (try simp only [List.map_toArray, List.map_cons, List.map_nil]); first | done | rfl) ?_; with_reducible refine (slices_Index_int_int.calls _ _ lo x1 _ _ (Kd.C_below HLO.out hHeld.2.2.out) HCL.out Ix1.out).mono ?_; rintro e w4 ⟨rfl, hb⟩; refine ⟨_, rfl, ?_⟩; refine hK.out _ _ ⟨pw_cell_below hb hHeld.1, pw_cell_below hb hHeld.2.1, ⟨below_chain hHeld.2.2.out hb⟩⟩ (fun hHeld => ?_); clear hK K; refine norm_ (a' := ?_) ?_ ?_; rotate_left; (show Act.put _ (some 30) _ = _; simp only [Act.put, List.setIfInBounds_toArray, List.set_cons_zero, List.set_cons_succ, i64_w, i32_w]; rfl))
      all_goals first | refine pA_ 8 (some 10) (bl 9 10) HT_.out (h := ?_) | refine pO_ 8 (some 10) (bl 9 10) HT_.out (h := ?_)
      all_goals first | refine pA_ 9 (some 11) (bl 10 10) HT_.out (h := ?_) | refine pO_ 9 (some 11) (bl 10 10) HT_.out (h := ?_)
      all_goals refine done_ (done_of HT_.out (by kernel_rfl)) ?_
      have HB4 := Aside0.mk hHeld.2.2.out
      clear hHeld HS0
      by_cases hneg : ia < 0 ∨ ib < 0
      · have HZ := Aside0.mk (show crsTo ls up lo (i + 1) = crsTo ls up lo i from by
          rw [HSUC.out, crsIn_none]
          · rfl
          · rw [HX.out.1, HX.out.2, HIA.out.1, HIA.out.2]; exact hneg)
        have hway : ia < 0 ∨ (¬ ia < 0 ∧ ib < 0) := by omega
        clear hneg
        rcases hway with h1 | ⟨h1, h2⟩
        · go_wp2
          go_roundg (ls.length - (i + 1))
          case measure => omega
          case rel => exact ⟨i + 1, by omega, by omega, by rw [HZ.out], by first | go_num | exact congrArg (Value.int .i64) (wrap_succ2 i (by have := HBD.out.1; omega)), HB4⟩
        · go_wp2
          go_roundg (ls.length - (i + 1))
          case measure => omega
          case rel => exact ⟨i + 1, by omega, by omega, by rw [HZ.out], by first | go_num | exact congrArg (Value.int .i64) (wrap_succ2 i (by have := HBD.out.1; omega)), HB4⟩
      · have h1 : ¬ ia < 0 := fun h => hneg (.inl h)
        have h2 : ¬ ib < 0 := fun h => hneg (.inr h)
        clear hneg
        have hcut := HCUT.out
        go_upto_region 8 with (fail)
        clear hcut
        have HPA := Aside0.mk (And.intro h1 h2)
        clear h1 h2
        obtain ⟨w6, rfl⟩ : ∃ x, x = w4 := ⟨_, rfl⟩
        go_loopg [7, 13, 14, 15, 41] i (fun gg s7 _ _ _ s41 wr => ∃ k : Nat, k ≤ i ∧ i - k ≤ gg ∧ s7 = .int .i64 (crsTo ls up lo i + crsIn ls up lo x k : Nat) ∧ s41 = .int .i64 k ∧ Aside0 (Below w.heap.size w wr))
        case atStart => exact ⟨0, Nat.zero_le _, by omega, by first | rfl | simp [crsIn], rfl, HB4⟩
        case round =>
          clear HB4
          obtain ⟨k, hk, hgg2, rfl, rfl, HB⟩ := hrel
          by_cases hki : k < i
          · have hkiz : (k : Int) < (i : Int) := by omega
            have hk0 : (0 : Int) ≤ (k : Int) := by omega
            have hklz : (k : Int) < (ls.length : Int) := by omega
            obtain ⟨ad', e1, hy0, hy1⟩ := at_T100 HR0.out (k : Int) hk0 hklz
            obtain rfl := Option.some.inj e1
            have e3 : rd_T100 ls (k : Int) = ls.getD k z100 := by simp [rd_T100]
            rw [e3] at hy0 hy1
            simp only [Int.toNat_natCast] at hy0 hy1
            replace hy0 := (HB.out.cell (World.block_lt_of_cell? w _ hy0)).trans hy0
            replace hy1 := (HB.out.cell (World.block_lt_of_cell? w _ hy1)).trans hy1
            have HSK := Aside0.mk (crsIn_succ ls up lo x k (by omega))
            have HLE := Aside0.mk (And.intro (crsTo_le ls up lo i) (crsIn_le ls up lo x k))
            obtain ⟨y, hy⟩ : ∃ y, ls.getD k z100 = y := ⟨_, rfl⟩
            rw [hy] at hy0 hy1 HSK
            obtain ⟨y0, hya⟩ : ∃ q, y.f0 = q := ⟨_, rfl⟩
            obtain ⟨y1, hyb⟩ : ∃ q, y.f1 = q := ⟨_, rfl⟩
            rw [hya] at hy0
            rw [hyb] at hy1
            have HY := Aside0.mk (And.intro hya hyb)
            clear hy e3 e1 hya hyb
            have Iy0 := Aside0.mk (show slices_Index_int_int.f up y0 = some (cIx up y0) from if_pos HBD.out.2.1)
            have Iy1 := Aside0.mk (show slices_Index_int_int.f lo y1 = some (cIx lo y1) from if_pos HBD.out.2.2)
            have HRB := Aside0.mk (And.intro (cIx_range up y0) (cIx_range lo y1))
            obtain ⟨ic, hic⟩ : ∃ q, cIx up y0 = q := ⟨_, rfl⟩
            obtain ⟨id, hid⟩ : ∃ q, cIx lo y1 = q := ⟨_, rfl⟩
            rw [hic] at Iy0 HRB
            rw [hid] at Iy1 HRB
            have HCB := Aside0.mk (show crossB up lo x y = (decide (0 ≤ ic) && (decide (0 ≤ id) && decide ((ia - ic) * (ib - id) < 0))) from by
              unfold crossB
              rw [HX.out.1, HX.out.2, HY.out.1, HY.out.2, HIA.out.1, HIA.out.2, hic, hid, decide_eq_true (show 0 ≤ ia by have := HPA.out; omega), decide_eq_true (show 0 ≤ ib by have := HPA.out; omega), Bool.true_and, Bool.true_and])
            clear hic hid
            go_upto_region 10 with (fail)
            clear hy0 hy1
            have hal := below_alloc (Below.refl wr.heap.size wr) (.cells #[.int .i64 y0, .int .i64 y1] 100 (0, 0))
            have BX := blk_new wr (.cells #[.int .i64 y0, .int .i64 y1] 100 (0, 0))
            obtain ⟨gy, hgy⟩ : ∃ b, wr.heap.size = b := ⟨_, rfl⟩
            have HB2 := Aside0.mk (below_chain (w := w) HB.out hal)
            generalize wr.alloc (.cells #[.int .i64 y0, .int .i64 y1] 100 (0, 0)) = wq at hal BX HB2 ⊢
            rw [hgy] at BX
            try rw [hgy]
            have hq0 : wq.cell? ⟨gy, 0, none⟩ = some (.int .i64 y0) := (blk_cell BX 0).trans rfl
            have hq1 : wq.cell? ⟨gy, 1, none⟩ = some (.int .i64 y1) := (blk_cell BX 1).trans rfl
            have HS0 := Aside0.mk (show (fun w' : World => w'.cell? ⟨gy, 0, none⟩ = some (.int .i64 y0) ∧ w'.cell? ⟨gy, 1, none⟩ = some (.int .i64 y1) ∧ Aside0 (Below w.heap.size w w')) wq.drew from ⟨hq0, hq1, ⟨below_drew1 HB2.out⟩⟩)
            clear hq0 hq1 BX hal hgy HB2 HB
            all_goals refine start_ (n := 10) (S := (fun w' : World => w'.cell? ⟨gy, 0, none⟩ = some (.int .i64 y0) ∧ w'.cell? ⟨gy, 1, none⟩ = some (.int .i64 y1) ∧ Aside0 (Below w.heap.size w w'))) (ds := []) (bl 0 10) (by kernel_rfl) rfl rfl HS0.out (fun hHeld => ?_); refine with_tabW impl_crossings.tab10 impl_crossings.bits10 (fun HT_ HW_ => ?_)
            all_goals generalize wq.drew = wv at hHeld ⊢
            all_goals first | refine pA_ 0 (some 45) (bl 1 10) HT_.out (h := ?_) | refine pO_ 0 (some 45) (bl 1 10) HT_.out (h := ?_)
            all_goals first | refine pA_ 1 (some 46) (bl 2 10) HT_.out (h := ?_) | refine pO_ 1 (some 46) (bl 2 10) HT_.out (h := ?_)
            all_goals first | refine pA_ 4 (some 49) (bx 2 [4] 10) HT_.out (h := ?_) | refine pO_ 4 (some 49) (bx 2 [4] 10) HT_.out (h := ?_)
            all_goals first | refine pA_ 5 (some 50) (bx 2 [4, 5] 10) HT_.out (h := ?_) | refine pO_ 5 (some 50) (bx 2 [4, 5] 10) HT_.out (h := ?_)
            all_goals first | refine tA_ 2 (some 47) (bx 3 [4, 5] 10) HT_.out HW_.out hHeld (h := ?_) | refine pO_ 2 (some 47) (bx 3 [4, 5] 10) HT_.out (h := ?_)
            all_goals first | refine tA_ 6 (some 51) (bx 3 [4, 5, 6] 10) HT_.out HW_.out hHeld (h := ?_) | refine pO_ 6 (some 51) (bx 3 [4, 5, 6] 10) HT_.out (h := ?_)
            all_goals first | refine pO_ 3 (some 48) (bl 7 10) HT_.out (h := ?_) | (refine one_ (i := 3) (N := some 48) (bl 7 10) rfl rfl (one_of HT_.out (by kernel_rfl)) (by decide) (fun K hK => ?_); refine goes_ Try.func58 (by kernel_rfl) rfl #[.slice AU up.length cu, .int .i64 y0] (by rfl) rfl rfl (by (try simp only [List.map_toArray, List.map_cons, List.map_nil]); first | done | rfl) ?_; with_reducible refine (slices_Index_int_int.calls _ _ up y0 _ _ (Kd.C_below HU.out hHeld.2.2.out) HCU.out Iy0.out).mono ?_; rintro e w7 ⟨rfl, hb⟩; refine ⟨_, rfl, ?_⟩; refine hK.out _ _ ⟨pw_cell_below hb hHeld.1, pw_cell_below hb hHeld.2.1, ⟨below_chain hHeld.2.2.out hb⟩⟩ (fun hHeld => ?_); clear hK K; refine norm_ (a' := ?_) ?_ ?_; rotate_left; (show Act.put _ (some 48) _ = _; simp only [Act.put, List.setIfInBounds_toArray, List.set_cons_zero, List.set_cons_succ, i64_w, i32_w]; rfl))
            all_goals first | refine pO_ 7 (some 52) (bl 8 10) HT_.out (h := ?_) | (refine one_ (i := 7) (N := some 52) (bl 8 10) rfl rfl (one_of HT_.out (by kernel_rfl)) (by decide) (fun K hK => ?_); refine goes_ Try.func58 (by kernel_rfl) rfl #[.slice AL lo.length cl, .int .i64 y1] (by rfl) rfl rfl (by (try simp only [List.map_toArray, List.map_cons, List.map_nil]); first | done | rfl) ?_; with_reducible refine (slices_Index_int_int.calls _ _ lo y1 _ _ (Kd.C_below HLO.out hHeld.2.2.out) HCL.out Iy1.out).mono ?_; rintro e w8 ⟨rfl, hb⟩; refine ⟨_, rfl, ?_⟩; refine hK.out _ _ ⟨pw_cell_below hb hHeld.1, pw_cell_below hb hHeld.2.1, ⟨below_chain hHeld.2.2.out hb⟩⟩ (fun hHeld => ?_); clear hK K; refine norm_ (a' := ?_) ?_ ?_; rotate_left; (show Act.put _ (some 52) _ = _; simp only [Act.put, List.setIfInBounds_toArray, List.set_cons_zero, List.set_cons_succ, i64_w, i32_w]; rfl))
            all_goals first | refine pA_ 8 (some 14) (bl 9 10) HT_.out (h := ?_) | refine pO_ 8 (some 14) (bl 9 10) HT_.out (h := ?_)
            all_goals first | refine pA_ 9 (some 15) (bl 10 10) HT_.out (h := ?_) | refine pO_ 9 (some 15) (bl 10 10) HT_.out (h := ?_)
            all_goals refine done_ (done_of HT_.out (by kernel_rfl)) ?_
            have HB8 := Aside0.mk hHeld.2.2.out
            clear hHeld HS0
            have HRN := Aside0.mk (show ic ≤ 1048576 ∧ id ≤ 1048576 ∧ ia ≤ 1048576 ∧ ib ≤ 1048576 from by have h1 := HRA.out; have h2 := HRB.out; have h3 := HBD.out; omega)
            by_cases h3 : 0 ≤ ic
            · by_cases h4 : 0 ≤ id
              · have hw1 : wrap64 (ia - ic) = ia - ic := by have h1 := HPA.out; have h2 := HRN.out; unfold wrap64; omega
                have hw2 : wrap64 (ib - id) = ib - id := by have h1 := HPA.out; have h2 := HRN.out; unfold wrap64; omega
                have hw3 : wrap64 ((ia - ic) * (ib - id)) = (ia - ic) * (ib - id) := by
                  clear hw1 hw2
                  have h1 := HPA.out; have h2 := HRN.out
                  exact mul_small (by omega) (by omega) (by omega) (by omega)
                obtain ⟨pp, hpp⟩ : ∃ q, (ia - ic) * (ib - id) = q := ⟨_, rfl⟩
                rw [hpp] at hw3 HCB
                by_cases hp : pp < 0
                · have HCF := Aside0.mk (show (if crossB up lo x y = true then 1 else 0) = 1 from by rw [HCB.out, decide_eq_true h3, decide_eq_true h4, decide_eq_true hp]; rfl)
                  have HWN := Aside0.mk (show wrap64 (((crsTo ls up lo i + crsIn ls up lo x k : Nat) : Int) + 1) = ((crsTo ls up lo i + crsIn ls up lo x k + 1 : Nat) : Int) from by
                    have h1 := HLE.out; have h2 := HBD.out.1
                    have h3 : i * i ≤ 1000 * 1000 := Nat.mul_le_mul (by omega) (by omega)
                    exact wrap_succ2 _ (by omega))
                  obtain ⟨mm, hmm⟩ : ∃ q, crsTo ls up lo i + crsIn ls up lo x k = q := ⟨_, rfl⟩
                  rw [hmm] at HWN ⊢
                  have hwn := HWN.out
                  go_wp2
                  try rw [hwn]
                  clear hwn hw1 hw2 hw3
                  go_roundg (i - (k + 1))
                  case measure => omega
                  case rel => exact ⟨k + 1, by omega, by omega, by rw [HSK.out, HCF.out, ← Nat.add_assoc, hmm], by first | go_num | exact congrArg (Value.int .i64) (wrap_succ2 k (by have := HBD.out.1; omega)), HB8⟩
                · have HCF := Aside0.mk (show (if crossB up lo x y = true then 1 else 0) = 0 from by rw [HCB.out, decide_eq_false hp]; simp)
                  go_wp2
                  clear hw1 hw2 hw3
                  go_roundg (i - (k + 1))
                  case measure => omega
                  case rel => exact ⟨k + 1, by omega, by omega, by rw [HSK.out, HCF.out]; rfl, by first | go_num | exact congrArg (Value.int .i64) (wrap_succ2 k (by have := HBD.out.1; omega)), HB8⟩
              · have HCF := Aside0.mk (show (if crossB up lo x y = true then 1 else 0) = 0 from by rw [HCB.out, decide_eq_false h4]; simp)
                go_wp2
                go_roundg (i - (k + 1))
                case measure => omega
                case rel => exact ⟨k + 1, by omega, by omega, by rw [HSK.out, HCF.out]; rfl, by first | go_num | exact congrArg (Value.int .i64) (wrap_succ2 k (by have := HBD.out.1; omega)), HB8⟩
            · have HCF := Aside0.mk (show (if crossB up lo x y = true then 1 else 0) = 0 from by rw [HCB.out, decide_eq_false h3]; rfl)
              go_wp2
              go_roundg (i - (k + 1))
              case measure => omega
              case rel => exact ⟨k + 1, by omega, by omega, by rw [HSK.out, HCF.out]; rfl, by first | go_num | exact congrArg (Value.int .i64) (wrap_succ2 k (by have := HBD.out.1; omega)), HB8⟩
          · obtain rfl : k = i := by omega
            have hkz : ¬ ((k : Int) < (k : Int)) := by omega
            go_wp2
            go_roundg (ls.length - (k + 1))
            case measure => omega
            case rel => exact ⟨k + 1, by omega, by omega, by rw [HSUC.out]; first | rfl | simp [Int.natCast_add], by first | go_num | exact congrArg (Value.int .i64) (wrap_succ2 k (by have := HBD.out.1; omega)), HB⟩
    · obtain rfl : i = ls.length := by omega
      have hkz : ¬ ((ls.length : Int) < (ls.length : Int)) := by omega
      go_wp2
      go_ret
      exact ⟨by rw [← HR_.out]; rfl, HB.out⟩

end Go.Proofs.Ytlbkoejpjpcgaaa.Q
