-- Written by a program of this session (wip/xprint.py over the kit's printer).
import Derived.Test.YtenphfagdpkjaaaQ0
import Derived.Test.YtenphfagdpkjaaaQF100
import Derived.Test.YtenphfagdpkjaaaQF54
import Derived.Test.YtenphfagdpkjaaaQF60
import Derived.Test.YtenphfagdpkjaaaQF91
import Derived.Test.YtenphfagdpkjaaaQF99
import Derived.Test.YtenphfagdpkjaaaQP
namespace Go.Proofs.Ytenphfagdpkjaaa.Q
open Go.RowKit Go.Proofs.YtenphfagdpkjaaaW.PrintWords Go.Proofs.YtenphfagdpkjaaaW.PrintLast
set_option linter.unusedVariables false
set_option linter.unusedSimpArgs false

/-! ### impl_laterPhases: function 67 -/
def lpB (cs : List S77) (l : List S64) (M : Nat → Nat → Bool) (i k : Nat) : Bool := M i k && (decide (0 ≤ phI l (cs.getD i z77).f0) && (decide (0 ≤ phI l (cs.getD k z77).f0) && !decide (phI l (cs.getD i z77).f0 = phI l (cs.getD k z77).f0)))
def lpSet (cs : List S77) (l : List S64) (M : Nat → Nat → Bool) (i k : Nat) (T : Nat → Nat → Bool) : Nat → Nat → Bool := fun a b => if lpB cs l M i k = true ∧ a = (phI l (cs.getD i z77).f0).toNat ∧ b = (phI l (cs.getD k z77).f0).toNat then true else T a b
def lpRow (cs : List S77) (l : List S64) (M : Nat → Nat → Bool) (i : Nat) (T : Nat → Nat → Bool) : Nat → Nat → Nat → Bool
  | 0 => T
  | k + 1 => lpSet cs l M i k (lpRow cs l M i T k)
def lpAll (cs : List S77) (l : List S64) (M : Nat → Nat → Bool) : Nat → Nat → Nat → Bool
  | 0 => fun _ _ => false
  | i + 1 => lpRow cs l M i (lpAll cs l M i) cs.length
def lpM (cs : List S77) (l : List S64) (M : Nat → Nat → Bool) : Nat → Nat → Bool := lpAll cs l M cs.length
def impl_laterPhases.T8 : Bool × List (List Nat × List Nat) := (true, [([], []), ([], []), ([1], [1]), ([2], [2]), ([3], [3]), ([], []), ([4, 5], [4, 5]), ([6], [6]), ([0, 7], [0, 7]), ([], []), ([], []), ([10], [10]), ([11], [11]), ([12], [12]), ([], []), ([13, 14], [13, 14]), ([15], [15]), ([9, 16, 8], [9, 16]), ([8, 17, 0, 1, 2, 3, 4, 5, 6, 7, 8], [8]), ([17, 18, 0, 1, 2, 3, 4, 5, 6, 7, 8, 9, 10, 11, 12, 13, 14, 15, 16, 17, 18], [17])])
def impl_laterPhases.B8 : List Nat := [0, 0, 2, 6, 14, 0, 62, 126, 255, 0, 0, 1024, 3072, 7168, 0, 31744, 64512, 131071, 262143, 524287]
theorem impl_laterPhases.tab8 : rtab .any (opsOf Try.f67 8) = impl_laterPhases.T8 := by kernel_rfl
theorem impl_laterPhases.bits8 : waitsOk impl_laterPhases.T8.2 impl_laterPhases.B8 = true := by kernel_rfl
set_option maxHeartbeats 8000000 in
set_option maxRecDepth 100000 in
theorem impl_laterPhases.calls (w0 : World) (p N1 N2 : Nat) (A : Option Addr) (c : Nat) (cs : List S77) (M1 M : Nat → Nat → Bool) (A1 : Option Addr) (c1 : Nat) (l1 : List S64) (w : World) (H : OrdIn w0 w p N1 N2 cs.length (.slice A cs.length c) (nums cs) M1 M) (h10 : cs.length ≤ 10) (hr1 : Kd.C k64 w A1 l1.length l1) (hc1 : l1.length ≤ c1) (hl : l1.length ≤ 6) :
    Calls Try.prog 67 #[.pointer (some ⟨p, 0, none⟩), .slice A1 l1.length c1] w fun e w' => ∃ N, e = .returned (.slice (some ⟨N, 0, none⟩) l1.length l1.length) ∧ w.heap.size ≤ N ∧ Mat w' N l1.length (lpM cs l1 M) ∧ Below w.heap.size w w' := by
  have HO := Aside0.mk H
  have HP1 := Aside0.mk hr1
  have HPC := Aside0.mk hc1
  have HN := Aside0.mk h10
  have HL := Aside0.mk hl
  have HPL := Aside0.mk (show ∀ y, phI l1 y < (l1.length : Int) from fun y => (idxI_range _ l1).2)
  have HCN := Aside0.mk (show Kd.C (Kd.int .i64) w A cs.length (nums cs) from by have h := (Kd.R_reads' H.ns).2.2; rw [nums_length] at h; exact h)
  clear H hr1 hc1 h10
  obtain ⟨m, hm⟩ : ∃ m, l1.length = m := ⟨_, rfl⟩
  have HM := Aside0.mk hm
  rw [hm] at hl HPL ⊢
  clear hm
  have HPH := Aside0.mk (fun (y r : Int) (W : World) (hA : impl_phaseOf.f l1 y = some r) (hW : Below w.heap.size w W) => show Calls Try.prog 54 #[.slice A1 m c1, .int .i64 y] W (fun e w' => e = .returned (.int .i64 r) ∧ Below W.heap.size W w') from by
    have h := impl_phaseOf.calls A1 c1 l1 y r W (Kd.C_below HP1.out hW) HPC.out hA
    rw [HM.out] at h
    exact h)
  have g2 := HO.out.c2
  go_enter Try.func67, Try.ntmps67
  go_upto_region 2 with (go_at_call 91; (refine (impl_square.calls m _ (by omega)).mono ?_); rintro e w1 ⟨N, rfl, hN, hMt, _, hb⟩; have HB := Aside0.mk hb; have HMT := Aside0.mk hMt; have HNN := Aside0.mk (show w.heap.size ≤ N from Nat.le_of_eq hN.symm); have g2 := pw_cell_below hb g2; clear hN hMt hb)
  go_upto_region 3 with (fail)
  clear g2
  go_loopg [6, 7, 8, 9, 10, 11, 20] cs.length (fun gg _ _ _ _ _ _ s20 wr => ∃ i : Nat, i ≤ cs.length ∧ cs.length - i ≤ gg ∧ s20 = .int .i64 i ∧ Aside0 (Below w.heap.size w wr) ∧ Aside0 (Mat wr N m (lpAll cs l1 M i)))
  case atStart => exact ⟨0, Nat.zero_le _, by omega, rfl, HB, HMT⟩
  case round =>
    clear HB HMT
    obtain ⟨i, hi, hgg, rfl, HB, HMT⟩ := hrel
    by_cases hil : i < cs.length
    · have hilz : (i : Int) < (cs.length : Int) := by omega
      have HMT := Aside0.mk (show Mat wr N m (lpRow cs l1 M i (lpAll cs l1 M i) 0) from HMT.out)
      have HSA := Aside0.mk (show lpAll cs l1 M (i + 1) = lpRow cs l1 M i (lpAll cs l1 M i) cs.length from rfl)
      generalize lpAll cs l1 M i = T0 at HMT HSA
      have g3 := (HO.out.step HB.out).m2.topc hil
      go_upto_region 6 with (fail)
      clear g3
      go_loopg [8, 9, 10, 11, 27] cs.length (fun gg _ _ _ _ s27 wr => ∃ k : Nat, k ≤ cs.length ∧ cs.length - k ≤ gg ∧ s27 = .int .i64 k ∧ Aside0 (Below w.heap.size w wr) ∧ Aside0 (Mat wr N m (lpRow cs l1 M i T0 k)))
      case atStart => exact ⟨0, Nat.zero_le _, by omega, rfl, HB, HMT⟩
      case round =>
        clear HB HMT
        obtain ⟨k, hk, hgg2, rfl, HB, HMT⟩ := hrel
        by_cases hkl : k < cs.length
        · have hklz : (k : Int) < (cs.length : Int) := by omega
          have HOr := Aside0.mk (HO.out.step HB.out)
          have g4 := HOr.out.m2.cell hil hkl
          obtain ⟨ad, ea, hx1⟩ := Kd.at_int HCN.out (i : Int) (by omega) hilz
          obtain ⟨ad', eb, hx2⟩ := Kd.at_int HCN.out (k : Int) (by omega) hklz
          subst ea
          obtain rfl := Option.some.inj eb
          rw [rd_nums cs i hil, Int.toNat_natCast] at hx1
          rw [rd_nums cs k hkl, Int.toNat_natCast] at hx2
          replace hx1 := (HB.out.cell (World.block_lt_of_cell? w _ hx1)).trans hx1
          replace hx2 := (HB.out.cell (World.block_lt_of_cell? w _ hx2)).trans hx2
          have HSR := Aside0.mk (show lpRow cs l1 M i T0 (k + 1) = lpSet cs l1 M i k (lpRow cs l1 M i T0 k) from rfl)
          have HLB := Aside0.mk (show lpB cs l1 M i k = (M i k && (decide (0 ≤ phI l1 (cs.getD i z77).f0) && (decide (0 ≤ phI l1 (cs.getD k z77).f0) && !decide (phI l1 (cs.getD i z77).f0 = phI l1 (cs.getD k z77).f0)))) from rfl)
          have HST := Aside0.mk (show ∀ T, lpSet cs l1 M i k T = fun a b => if lpB cs l1 M i k = true ∧ a = (phI l1 (cs.getD i z77).f0).toNat ∧ b = (phI l1 (cs.getD k z77).f0).toNat then true else T a b from fun _ => rfl)
          generalize lpRow cs l1 M i T0 k = T at HMT HSR
          obtain ⟨ya, hya⟩ : ∃ y, (cs.getD i z77).f0 = y := ⟨_, rfl⟩
          obtain ⟨yb, hyb⟩ : ∃ y, (cs.getD k z77).f0 = y := ⟨_, rfl⟩
          rw [hya] at hx1 HLB HST
          rw [hyb] at hx2 HLB HST
          obtain ⟨pa, hpa⟩ : ∃ y, phI l1 ya = y := ⟨_, rfl⟩
          obtain ⟨pb, hpb⟩ : ∃ y, phI l1 yb = y := ⟨_, rfl⟩
          have Apa := Aside0.mk (show impl_phaseOf.f l1 ya = some pa from congrArg some hpa)
          have Apb := Aside0.mk (show impl_phaseOf.f l1 yb = some pb from congrArg some hpb)
          have hpa2 : pa < (m : Int) := by rw [← hpa]; exact HPL.out ya
          have hpb2 : pb < (m : Int) := by rw [← hpb]; exact HPL.out yb
          rw [hpa, hpb] at HLB HST
          obtain ⟨mb, hmb⟩ : ∃ x, M i k = x := ⟨_, rfl⟩
          rw [hmb] at g4 HLB
          go_upto_region 8 with (fail)
          have HS0 := Aside0.mk (show (fun w' : World => w'.cell? ⟨p, 0, none⟩ = some (.slice (some ad) cs.length c) ∧ w'.cell? (ad.add i) = some (.int .i64 ya) ∧ w'.cell? (ad.add k) = some (.int .i64 yb) ∧ Aside0 (Below w.heap.size w w') ∧ Aside0 (Mat w' N m T)) wr.drew from ⟨HOr.out.drew.c0, hx1, hx2, ⟨below_drew1 HB.out⟩, ⟨HMT.out.drew⟩⟩)
          clear g4 hx1 hx2 HB HMT HOr hya hyb hpa hpb hmb eb
          all_goals refine start_ (n := 20) (S := (fun w' => w'.cell? ⟨p, 0, none⟩ = some (.slice (some ad) cs.length c) ∧ w'.cell? (ad.add i) = some (.int .i64 ya) ∧ w'.cell? (ad.add k) = some (.int .i64 yb) ∧ Aside0 (Below w.heap.size w w') ∧ Aside0 (Mat w' N m T))) (ds := []) (bl 0 20) (by kernel_rfl) rfl rfl HS0.out (fun hHeld => ?_); refine with_tabW impl_laterPhases.tab8 impl_laterPhases.bits8 (fun HT_ HW_ => ?_)
          all_goals generalize wr.drew = wv at hHeld ⊢
          all_goals first | refine pA_ 0 (some 32) (bl 1 20) HT_.out (h := ?_) | refine pO_ 0 (some 32) (bl 1 20) HT_.out (h := ?_)
          all_goals first | refine pA_ 1 (some 33) (bl 2 20) HT_.out (h := ?_) | refine pO_ 1 (some 33) (bl 2 20) HT_.out (h := ?_)
          all_goals first | refine pA_ 2 (some 34) (bl 3 20) HT_.out (h := ?_) | refine pO_ 2 (some 34) (bl 3 20) HT_.out (h := ?_)
          all_goals first | refine pA_ 3 (some 35) (bl 4 20) HT_.out (h := ?_) | refine pO_ 3 (some 35) (bl 4 20) HT_.out (h := ?_)
          all_goals first | refine pA_ 5 (some 37) (bx 4 [5] 20) HT_.out (h := ?_) | refine pO_ 5 (some 37) (bx 4 [5] 20) HT_.out (h := ?_)
          all_goals first | refine pA_ 9 (some 41) (bx 4 [5, 9] 20) HT_.out (h := ?_) | refine pO_ 9 (some 41) (bx 4 [5, 9] 20) HT_.out (h := ?_)
          all_goals first | refine pA_ 10 (some 42) (bx 4 [5, 9, 10] 20) HT_.out (h := ?_) | refine pO_ 10 (some 42) (bx 4 [5, 9, 10] 20) HT_.out (h := ?_)
          all_goals first | refine pA_ 11 (some 43) (bx 4 [5, 9, 10, 11] 20) HT_.out (h := ?_) | refine pO_ 11 (some 43) (bx 4 [5, 9, 10, 11] 20) HT_.out (h := ?_)
          all_goals first | refine pA_ 12 (some 44) (bx 4 [5, 9, 10, 11, 12] 20) HT_.out (h := ?_) | refine pO_ 12 (some 44) (bx 4 [5, 9, 10, 11, 12] 20) HT_.out (h := ?_)
          all_goals first | refine pA_ 14 (some 46) (bx 4 [5, 9, 10, 11, 12, 14] 20) HT_.out (h := ?_) | refine pO_ 14 (some 46) (bx 4 [5, 9, 10, 11, 12, 14] 20) HT_.out (h := ?_)
          all_goals first | refine tA_ 4 (some 36) (bx 6 [9, 10, 11, 12, 14] 20) HT_.out HW_.out hHeld (h := ?_) | refine pO_ 4 (some 36) (bx 6 [9, 10, 11, 12, 14] 20) HT_.out (h := ?_)
          all_goals first | refine pA_ 6 (some 38) (bx 7 [9, 10, 11, 12, 14] 20) HT_.out (h := ?_) | refine pO_ 6 (some 38) (bx 7 [9, 10, 11, 12, 14] 20) HT_.out (h := ?_)
          all_goals first | refine tA_ 7 (some 39) (bx 8 [9, 10, 11, 12, 14] 20) HT_.out HW_.out hHeld (h := ?_) | refine pO_ 7 (some 39) (bx 8 [9, 10, 11, 12, 14] 20) HT_.out (h := ?_)
          all_goals first | refine tA_ 13 (some 45) (bx 8 [9, 10, 11, 12, 13, 14] 20) HT_.out HW_.out hHeld (h := ?_) | refine pO_ 13 (some 45) (bx 8 [9, 10, 11, 12, 13, 14] 20) HT_.out (h := ?_)
          all_goals first | refine pA_ 15 (some 47) (bx 8 [9, 10, 11, 12, 13, 14, 15] 20) HT_.out (h := ?_) | refine pO_ 15 (some 47) (bx 8 [9, 10, 11, 12, 13, 14, 15] 20) HT_.out (h := ?_)
          all_goals first | refine tA_ 16 (some 48) (bx 8 [9, 10, 11, 12, 13, 14, 15, 16] 20) HT_.out HW_.out hHeld (h := ?_) | refine pO_ 16 (some 48) (bx 8 [9, 10, 11, 12, 13, 14, 15, 16] 20) HT_.out (h := ?_)
          all_goals first | refine pO_ 8 (some 40) (bl 17 20) HT_.out (h := ?_) | (refine one_ (i := 8) (N := some 40) (bl 17 20) rfl rfl (one_of HT_.out (by kernel_rfl)) (by decide) (fun K hK => ?_); refine goes_ Try.func54 (by kernel_rfl) rfl #[.slice A1 m c1, .int .i64 ya] (by rfl) rfl rfl (by (try simp only [List.map_toArray, List.map_cons, List.map_nil]); first | done | rfl) ?_; with_reducible refine (HPH.out ya pa _ Apa.out hHeld.2.2.2.1.out).mono ?_; rintro e w2 ⟨rfl, hb⟩; refine ⟨_, rfl, ?_⟩; refine hK.out _ _ ⟨pw_cell_below hb hHeld.1, pw_cell_below hb hHeld.2.1, pw_cell_below hb hHeld.2.2.1, ⟨below_chain hHeld.2.2.2.1.out hb⟩, ⟨hHeld.2.2.2.2.out.below hb hHeld.2.2.2.2.out.lt⟩⟩ (fun hHeld => ?_); clear hK K; refine norm_ (a' := ?_) ?_ ?_; rotate_left; (show Act.put _ (some 40) _ = _; simp only [Act.put, List.setIfInBounds_toArray, List.set_cons_zero, List.set_cons_succ, i64_w, i32_w]; rfl))
          all_goals first | refine pO_ 17 (some 49) (bl 18 20) HT_.out (h := ?_) | (refine one_ (i := 17) (N := some 49) (bl 18 20) rfl rfl (one_of HT_.out (by kernel_rfl)) (by decide) (fun K hK => ?_); refine goes_ Try.func54 (by kernel_rfl) rfl #[.slice A1 m c1, .int .i64 yb] (by rfl) rfl rfl (by (try simp only [List.map_toArray, List.map_cons, List.map_nil]); first | done | rfl) ?_; with_reducible refine (HPH.out yb pb _ Apb.out hHeld.2.2.2.1.out).mono ?_; rintro e w3 ⟨rfl, hb⟩; refine ⟨_, rfl, ?_⟩; refine hK.out _ _ ⟨pw_cell_below hb hHeld.1, pw_cell_below hb hHeld.2.1, pw_cell_below hb hHeld.2.2.1, ⟨below_chain hHeld.2.2.2.1.out hb⟩, ⟨hHeld.2.2.2.2.out.below hb hHeld.2.2.2.2.out.lt⟩⟩ (fun hHeld => ?_); clear hK K; refine norm_ (a' := ?_) ?_ ?_; rotate_left; (show Act.put _ (some 49) _ = _; simp only [Act.put, List.setIfInBounds_toArray, List.set_cons_zero, List.set_cons_succ, i64_w, i32_w]; rfl))
          all_goals first | refine pA_ 18 (some 10) (bl 19 20) HT_.out (h := ?_) | refine pO_ 18 (some 10) (bl 19 20) HT_.out (h := ?_)
          all_goals first | refine pA_ 19 (some 11) (bl 20 20) HT_.out (h := ?_) | refine pO_ 19 (some 11) (bl 20 20) HT_.out (h := ?_)
          all_goals refine done_ (done_of HT_.out (by kernel_rfl)) ?_
          obtain ⟨_, _, _, HB, HMT⟩ := hHeld
          cases mb with
          | false =>
            have HLF := Aside0.mk (show lpB cs l1 M i k = false from HLB.out.trans (by rw [Bool.false_and]))
            go_wp2
            go_roundg (cs.length - (k + 1))
            case measure => omega
            case rel => exact ⟨k + 1, by omega, by omega, by first | go_num | exact congrArg (Value.int .i64) (wrap_succ k (by have := HN.out; omega)), HB, ⟨by rw [HSR.out, HST.out, HLF.out]; exact HMT.out.congr (fun a b _ _ => by rw [if_neg (fun h => by cases h.1)])⟩⟩
          | true =>
            by_cases h1 : 0 ≤ pa
            · by_cases h2 : 0 ≤ pb
              · by_cases h3 : pa = pb
                · have h3b : (pa != pb) = false := by rw [h3]; exact bne_self_eq_false pb
                  have HLF := Aside0.mk (show lpB cs l1 M i k = false from HLB.out.trans (by rw [decide_eq_true h3, Bool.not_true, Bool.and_false, Bool.and_false, Bool.and_false]))
                  clear h3
                  go_wp2
                  go_roundg (cs.length - (k + 1))
                  case measure => omega
                  case rel => exact ⟨k + 1, by omega, by omega, by first | go_num | exact congrArg (Value.int .i64) (wrap_succ k (by have := HN.out; omega)), HB, ⟨by rw [HSR.out, HST.out, HLF.out]; exact HMT.out.congr (fun a b _ _ => by rw [if_neg (fun h => by cases h.1)])⟩⟩
                · have h3b : (pa != pb) = true := bne_iff_ne.2 h3
                  have HLT := Aside0.mk (show lpB cs l1 M i k = true from HLB.out.trans (by rw [decide_eq_true h1, decide_eq_true h2, decide_eq_false h3]; rfl))
                  obtain ⟨pn, rfl⟩ : ∃ q : Nat, pa = (q : Int) := ⟨pa.toNat, by omega⟩
                  obtain ⟨qn, rfl⟩ : ∃ q : Nat, pb = (q : Int) := ⟨pb.toNat, by omega⟩
                  have hpn : pn < m := by omega
                  have hqn : qn < m := by omega
                  have k1 := HMT.out.topc hpn
                  have k2 := HMT.out.cell hpn hqn
                  have k3 := HMT.out.frozen hpn qn
                  clear h3
                  go_upto_region 11 with (fail)
                  clear k1 k2 k3
                  have HB2 := Aside0.mk (below_set (w := w) (g := N + 1 + pn) (j := qn) (v := .bool true) HB.out (by have := HNN.out; omega))
                  have HMT2 := Aside0.mk (HMT.out.set pn qn true hpn)
                  clear HB HMT
                  go_wp2
                  go_roundg (cs.length - (k + 1))
                  case measure => omega
                  case rel => exact ⟨k + 1, by omega, by omega, by first | go_num | exact congrArg (Value.int .i64) (wrap_succ k (by have := HN.out; omega)), HB2, ⟨by rw [HSR.out, HST.out, HLT.out]; exact HMT2.out.congr (fun a b _ _ => by rw [Int.toNat_natCast, Int.toNat_natCast]; simp)⟩⟩
              · by_cases h3 : (pa != pb) = true
                all_goals
                  have HLF := Aside0.mk (show lpB cs l1 M i k = false from HLB.out.trans (by rw [decide_eq_false (show ¬ 0 ≤ pb by omega), Bool.false_and, Bool.and_false, Bool.and_false]))
                  go_wp2
                  go_roundg (cs.length - (k + 1))
                  case measure => omega
                  case rel => exact ⟨k + 1, by omega, by omega, by first | go_num | exact congrArg (Value.int .i64) (wrap_succ k (by have := HN.out; omega)), HB, ⟨by rw [HSR.out, HST.out, HLF.out]; exact HMT.out.congr (fun a b _ _ => by rw [if_neg (fun h => by cases h.1)])⟩⟩
            · by_cases h2 : 0 ≤ pb
              all_goals
                have HLF := Aside0.mk (show lpB cs l1 M i k = false from HLB.out.trans (by rw [decide_eq_false (show ¬ 0 ≤ pa by omega), Bool.false_and, Bool.and_false]))
                go_wp2
                go_roundg (cs.length - (k + 1))
                case measure => omega
                case rel => exact ⟨k + 1, by omega, by omega, by first | go_num | exact congrArg (Value.int .i64) (wrap_succ k (by have := HN.out; omega)), HB, ⟨by rw [HSR.out, HST.out, HLF.out]; exact HMT.out.congr (fun a b _ _ => by rw [if_neg (fun h => by cases h.1)])⟩⟩
        · obtain rfl : k = cs.length := by omega
          have hkz : ¬ ((cs.length : Int) < (cs.length : Int)) := by omega
          go_wp2
          go_roundg (cs.length - (i + 1))
          case measure => omega
          case rel => exact ⟨i + 1, by omega, by omega, by first | go_num | exact congrArg (Value.int .i64) (wrap_succ i (by have := HN.out; omega)), HB, ⟨by rw [HSA.out]; exact HMT.out⟩⟩
    · obtain rfl : i = cs.length := by omega
      have hkz : ¬ ((cs.length : Int) < (cs.length : Int)) := by omega
      go_wp2
      go_ret
      exact ⟨N, rfl, HNN.out, HMT.out, HB.out⟩

end Go.Proofs.Ytenphfagdpkjaaa.Q
