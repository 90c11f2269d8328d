-- Written by a program of this session (wip/xprint.py over the kit's printer).
import Derived.Test.YtlbkoejpjpcgaaaQ0
import Derived.Test.YtlbkoejpjpcgaaaQF85
import Derived.Test.YtlbkoejpjpcgaaaQF86
import Derived.Test.YtlbkoejpjpcgaaaQP
namespace Go.Proofs.Ytlbkoejpjpcgaaa.Q
open Go.RowKit Go.Proofs.YtlbkoejpjpcgaaaW.PrintWords Go.Proofs.YtlbkoejpjpcgaaaW.PrintLast
set_option linter.unusedVariables false
set_option linter.unusedSimpArgs false

/-! ### laws_eqIntA2S: function 39 -/
def laws_eqIntA2S.T6 : Bool × List (List Nat × List Nat) := (true, [([], []), ([], []), ([0, 1], [0, 1]), ([2], [2]), ([], []), ([], []), ([4, 5], [4, 5]), ([6], [6]), ([3, 7], [3, 7]), ([8], [8])])
def laws_eqIntA2S.B6 : List Nat := [0, 0, 3, 7, 0, 0, 48, 112, 255, 511]
theorem laws_eqIntA2S.tab6 : rtab .any (opsOf Try.f39 6) = laws_eqIntA2S.T6 := by kernel_rfl
theorem laws_eqIntA2S.bits6 : waitsOk laws_eqIntA2S.T6.2 laws_eqIntA2S.B6 = true := by kernel_rfl
set_option maxHeartbeats 8000000 in
set_option maxRecDepth 100000 in
theorem laws_eqIntA2S.calls (A0 : Option Addr) (c0 : Nat) (A1 : Option Addr) (c1 : Nat) (l0 : List S100) (w : World) (hr0 : Kd.C k100 w A0 l0.length l0) (hr1 : Kd.C k100 w A1 l0.length l0) (hl6 : l0.length ≤ 1000000) :
    Calls Try.prog 39 #[.slice A0 l0.length c0, .slice A1 l0.length c1] w fun e w' => e = .returned (.bool true) ∧ Below w.heap.size w w' := by
  have hl : l0.length ≤ 9223372036854775807 := hr0.2.1
  have HR0 := Aside0.mk hr0
  have HR1 := Aside0.mk hr1
  have hne : ((l0.length : Int) != (l0.length : Int)) = false := bne_self_eq_false _
  have HB := Aside0.mk (Below.refl w.heap.size w)
  clear hr0 hr1
  go_enter Try.func39, Try.ntmps39
  go_wp2
  go_loopg [5] l0.length (fun gg s5 wr => ∃ i : Nat, i ≤ l0.length ∧ l0.length - i ≤ gg ∧ s5 = .int .i64 i ∧ Aside0 (Below w.heap.size w wr))
  case atStart => exact ⟨0, Nat.zero_le _, by omega, rfl, HB⟩
  case round =>
    clear HB
    obtain ⟨i, hi, hgg, rfl, HB⟩ := hrel
    by_cases hil : i < l0.length
    · have hilz : (i : Int) < (l0.length : Int) := by omega
      have hi0 : (0 : Int) ≤ (i : Int) := by omega
      obtain ⟨ad, e1, hx0, hx1⟩ := at_T100 HR0.out (i : Int) hi0 hilz
      obtain ⟨bd, e2, hy0, hy1⟩ := at_T100 HR1.out (i : Int) hi0 hilz
      subst e1; subst e2
      have e3 : rd_T100 l0 (i : Int) = l0.getD i z100 := by simp [rd_T100]
      rw [e3] at hx0 hx1 hy0 hy1
      simp only [Int.toNat_natCast] at hx0 hx1 hy0 hy1
      obtain ⟨y, hy⟩ : ∃ y, l0.getD i z100 = y := ⟨_, rfl⟩
      rw [hy] at hx0 hx1 hy0 hy1
      clear hy e3
      replace hx0 := (HB.out.cell (World.block_lt_of_cell? w _ hx0)).trans hx0
      replace hx1 := (HB.out.cell (World.block_lt_of_cell? w _ hx1)).trans hx1
      replace hy0 := (HB.out.cell (World.block_lt_of_cell? w _ hy0)).trans hy0
      replace hy1 := (HB.out.cell (World.block_lt_of_cell? w _ hy1)).trans hy1
      obtain ⟨ya, hya⟩ : ∃ q, y.f0 = q := ⟨_, rfl⟩
      obtain ⟨yb, hyb⟩ : ∃ q, y.f1 = q := ⟨_, rfl⟩
      rw [hya] at hx0 hy0
      rw [hyb] at hx1 hy1
      clear hya hyb y
      go_upto_region 6 with (fail)
      have HS0 := Aside0.mk (show (fun w' : World => w'.cell? (ad.add (i * 2)) = some (.int .i64 ya) ∧ w'.cell? ⟨(ad.add (i * 2)).block, (ad.add (i * 2)).off + 1, none⟩ = some (.int .i64 yb) ∧ w'.cell? (bd.add (i * 2)) = some (.int .i64 ya) ∧ w'.cell? ⟨(bd.add (i * 2)).block, (bd.add (i * 2)).off + 1, none⟩ = some (.int .i64 yb) ∧ Aside0 (Below w.heap.size w w')) wr.drew from ⟨hx0, hx1, hy0, hy1, ⟨below_drew1 HB.out⟩⟩)
      clear hx0 hx1 hy0 hy1 HB
      all_goals refine start_ (n := 10) (S := (fun w' : World => w'.cell? (ad.add (i * 2)) = some (.int .i64 ya) ∧ w'.cell? ⟨(ad.add (i * 2)).block, (ad.add (i * 2)).off + 1, none⟩ = some (.int .i64 yb) ∧ w'.cell? (bd.add (i * 2)) = some (.int .i64 ya) ∧ w'.cell? ⟨(bd.add (i * 2)).block, (bd.add (i * 2)).off + 1, none⟩ = some (.int .i64 yb) ∧ Aside0 (Below w.heap.size w w'))) (ds := []) (bl 0 10) (by kernel_rfl) rfl rfl HS0.out (fun hHeld => ?_); refine with_tabW laws_eqIntA2S.tab6 laws_eqIntA2S.bits6 (fun HT_ HW_ => ?_)
      all_goals generalize wr.drew = wv at hHeld ⊢
      all_goals first | refine pA_ 0 (some 17) (bl 1 10) HT_.out (h := ?_) | refine pO_ 0 (some 17) (bl 1 10) HT_.out (h := ?_)
      all_goals first | refine pA_ 1 (some 18) (bl 2 10) HT_.out (h := ?_) | refine pO_ 1 (some 18) (bl 2 10) HT_.out (h := ?_)
      all_goals first | refine pA_ 2 (some 19) (bl 3 10) HT_.out (h := ?_) | refine pO_ 2 (some 19) (bl 3 10) HT_.out (h := ?_)
      all_goals first | refine pA_ 4 (some 21) (bx 3 [4] 10) HT_.out (h := ?_) | refine pO_ 4 (some 21) (bx 3 [4] 10) HT_.out (h := ?_)
      all_goals first | refine pA_ 5 (some 22) (bx 3 [4, 5] 10) HT_.out (h := ?_) | refine pO_ 5 (some 22) (bx 3 [4, 5] 10) HT_.out (h := ?_)
      all_goals first | refine pA_ 6 (some 23) (bx 3 [4, 5, 6] 10) HT_.out (h := ?_) | refine pO_ 6 (some 23) (bx 3 [4, 5, 6] 10) HT_.out (h := ?_)
      all_goals first | refine tA_ 3 (some 20) (bl 7 10) HT_.out HW_.out hHeld (h := ?_) | refine pO_ 3 (some 20) (bl 7 10) HT_.out (h := ?_)
      all_goals first | refine tA_ 7 (some 24) (bl 8 10) HT_.out HW_.out hHeld (h := ?_) | refine pO_ 7 (some 24) (bl 8 10) HT_.out (h := ?_)
      all_goals first | refine pO_ 8 (some 25) (bl 9 10) HT_.out (h := ?_) | (refine one_ (i := 8) (N := some 25) (bl 9 10) rfl rfl (one_of HT_.out (by kernel_rfl)) (by decide) (fun K hK => ?_); refine goes_ Try.func86 (by kernel_rfl) rfl #[.agg #[.int .i64 ya, .int .i64 yb], .agg #[.int .i64 ya, .int .i64 yb]] (by rfl) rfl rfl (by (try simp only [List.map_toArray, List.map_cons, List.map_nil]); first | done | rfl) ?_; with_reducible refine (laws_eqIntA2.calls ya yb _).mono ?_; rintro e w5 ⟨rfl, hb⟩; refine ⟨_, rfl, ?_⟩; refine hK.out _ _ ⟨pw_cell_below hb hHeld.1, pw_cell_below hb hHeld.2.1, pw_cell_below hb hHeld.2.2.1, pw_cell_below hb hHeld.2.2.2.1, ⟨below_chain hHeld.2.2.2.2.out hb⟩⟩ (fun hHeld => ?_); clear hK K; refine norm_ (a' := ?_) ?_ ?_; rotate_left; (show Act.put _ (some 25) _ = _; simp only [Act.put, List.setIfInBounds_toArray, List.set_cons_zero, List.set_cons_succ, i64_w, i32_w]; rfl))
      all_goals first | refine pA_ 9 (some 26) (bl 10 10) HT_.out (h := ?_) | refine pO_ 9 (some 26) (bl 10 10) HT_.out (h := ?_)
      all_goals refine done_ (done_of HT_.out (by kernel_rfl)) ?_
      go_wp2
      go_roundg (l0.length - (i + 1))
      case measure => omega
      case rel => exact ⟨i + 1, by omega, by omega, by first | go_num | exact congrArg (Value.int .i64) (wrap_succ i (by omega)), hHeld.2.2.2.2⟩
    · obtain rfl : i = l0.length := by omega
      have hkz : ¬ ((l0.length : Int) < (l0.length : Int)) := by omega
      go_wp2
      go_ret
      exact ⟨rfl, HB.out⟩

end Go.Proofs.Ytlbkoejpjpcgaaa.Q
