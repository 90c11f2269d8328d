-- Written by a program of this session (wip/xprint.py over the kit's printer).
import Derived.Test.YtlbkoejpjpcgaaaQ0
import Derived.Test.YtlbkoejpjpcgaaaQF104
import Derived.Test.YtlbkoejpjpcgaaaQF106
import Derived.Test.YtlbkoejpjpcgaaaQF66
import Derived.Test.YtlbkoejpjpcgaaaQP
namespace Go.Proofs.Ytlbkoejpjpcgaaa.Q
open Go.RowKit Go.Proofs.YtlbkoejpjpcgaaaW.PrintWords Go.Proofs.YtlbkoejpjpcgaaaW.PrintLast
set_option linter.unusedVariables false
set_option linter.unusedSimpArgs false

/-! ### spec_l5Between: function 64 -/
def btOk (k : Nat) (ls : List S100) (up lo : List Int) : Bool := decide (ls.length ≤ 1000 ∧ up.length ≤ 4000000 ∧ lo.length ≤ 4000000) && ls.all fun x => decide (spec_l5At.f k up x.f0 = some (cIx up x.f0)) && decide (spec_l5At.f k lo x.f1 = some (cIx lo x.f1))
def spec_l5Between.f (k : Nat) (ls : List S100) (up lo : List Int) : Option Int := if btOk k ls up lo = true then some ((crsTo ls up lo ls.length : Nat) : Int) else none
theorem btOk_more {k : Nat} {ls : List S100} {up lo : List Int} (h : btOk k ls up lo = true) : btOk (k + 1) ls up lo = true := by
  unfold btOk at h ⊢
  rw [Bool.and_eq_true, List.all_eq_true] at h ⊢
  refine ⟨h.1, fun x hx => ?_⟩
  have h1 := h.2 x hx
  rw [Bool.and_eq_true, decide_eq_true_eq, decide_eq_true_eq] at h1 ⊢
  exact ⟨spec_l5At.mono _ _ k _ h1.1, spec_l5At.mono _ _ k _ h1.2⟩
theorem spec_l5Between.mono : ∀ a0 a1 a2 k, LeO (spec_l5Between.f k a0 a1 a2) (spec_l5Between.f (k + 1) a0 a1 a2) := by
  intro a0 a1 a2 k r h
  unfold spec_l5Between.f at h ⊢
  by_cases hb : btOk k a0 a1 a2 = true
  · rw [if_pos hb] at h
    rw [if_pos (btOk_more hb)]
    exact h
  · rw [if_neg hb] at h; cases h
theorem mul_neg_iff2 (x y : Int) : x * y < 0 ↔ (x < 0 ∧ 0 < y) ∨ (0 < x ∧ y < 0) := by
  constructor
  · intro h
    by_cases h1 : x < 0
    · by_cases h2 : 0 < y
      · exact .inl ⟨h1, h2⟩
      · have := Int.mul_nonneg_of_nonpos_of_nonpos (a := x) (b := y) (by omega) (by omega); omega
    · by_cases h2 : y < 0
      · by_cases h3 : 0 < x
        · exact .inr ⟨h3, h2⟩
        · obtain rfl : x = 0 := by omega
          rw [Int.zero_mul] at h; omega
      · have := Int.mul_nonneg (a := x) (b := y) (by omega) (by omega); omega
  · rintro (⟨h1, h2⟩ | ⟨h1, h2⟩)
    · exact Int.mul_neg_of_neg_of_pos h1 h2
    · exact Int.mul_neg_of_pos_of_neg h1 h2
theorem cross_iff (up lo : List Int) (x y : S100) : crossB up lo x y = true ↔ (0 ≤ cIx up x.f0 ∧ 0 ≤ cIx lo x.f1 ∧ 0 ≤ cIx up y.f0 ∧ 0 ≤ cIx lo y.f1 ∧ ((cIx up x.f0 < cIx up y.f0 ∧ cIx lo y.f1 < cIx lo x.f1) ∨ (cIx up y.f0 < cIx up x.f0 ∧ cIx lo x.f1 < cIx lo y.f1))) := by
  unfold crossB
  simp only [Bool.and_eq_true, decide_eq_true_eq, mul_neg_iff2]
  constructor
  · rintro ⟨h1, h2, h3, h4, h5⟩
    exact ⟨h1, h2, h3, h4, by omega⟩
  · rintro ⟨h1, h2, h3, h4, h5⟩
    exact ⟨h1, h2, h3, h4, by omega⟩
set_option maxHeartbeats 8000000 in
set_option maxRecDepth 100000 in
theorem spec_l5Between.calls (k : Nat) (A0 : Option Addr) (c0 : Nat) (ls : List S100) (AU : Option Addr) (cu : Nat) (up : List Int) (AL : Option Addr) (cl : Nat) (lo : List Int) (r : Int) (w : World) (hr0 : Kd.C k100 w A0 ls.length ls) (hc0 : ls.length ≤ c0) (hr1 : Kd.C (Kd.int .i64) w AU up.length up) (hc1 : up.length ≤ cu) (hr2 : Kd.C (Kd.int .i64) w AL lo.length lo) (hc2 : lo.length ≤ cl) (h : spec_l5Between.f k ls up lo = some r) :
    Calls Try.prog 64 #[.slice A0 ls.length c0, .slice AU up.length cu, .slice AL lo.length cl] w fun e w' => e = .returned (.int .i64 r) ∧ Below w.heap.size w w' := by
  unfold spec_l5Between.f at h
  have hb : btOk k ls up lo = true := by
    by_cases hx : btOk k ls up lo = true
    · exact hx
    · rw [if_neg hx] at h; cases h
  rw [if_pos hb] at h
  unfold btOk at hb
  rw [Bool.and_eq_true, decide_eq_true_eq, List.all_eq_true] at hb
  obtain ⟨kq, hkq⟩ : ∃ q, q = k := ⟨_, rfl⟩
  rw [← hkq] at hb
  clear hkq k
  have HR_ := Aside0.mk (Option.some.inj h)
  have HBD := Aside0.mk hb.1
  have HAT := Aside0.mk (fun (x : S100) (hx : x ∈ ls) => show spec_l5At.f kq up x.f0 = some (cIx up x.f0) ∧ spec_l5At.f kq lo x.f1 = some (cIx lo x.f1) from by
    have h1 := hb.2 x hx
    rw [Bool.and_eq_true, decide_eq_true_eq, decide_eq_true_eq] at h1
    exact h1)
  have HR0 := Aside0.mk hr0
  have HU := Aside0.mk hr1
  have HLO := Aside0.mk hr2
  have HCU := Aside0.mk hc1
  have HCL := Aside0.mk hc2
  have HB := Aside0.mk (Below.refl w.heap.size w)
  clear hr0 hr1 hr2 hc0 hc1 hc2 h hb
  go_enter Try.func64, Try.ntmps64
  go_wp2
  go_loopg [7, 8, 9, 10, 11, 12, 13] ls.length (fun gg s7 s8 _ _ _ _ _ wr => ∃ i : Nat, i ≤ ls.length ∧ ls.length - i ≤ gg ∧ s7 = .int .i64 (crsTo ls up lo i : Nat) ∧ s8 = .int .i64 i ∧ Aside0 (Below w.heap.size w wr))
  case atStart => exact ⟨0, Nat.zero_le _, by omega, rfl, rfl, HB⟩
  case round =>
    clear HB
    obtain ⟨i, hi, hgg, rfl, rfl, HB⟩ := hrel
    by_cases hil : i < ls.length
    · have hilz : (i : Int) < (ls.length : Int) := by omega
      have hi0 : (0 : Int) ≤ (i : Int) := by omega
      have HB0 := HB
      go_upto_region 6 with (fail)
      obtain ⟨w6, rfl⟩ : ∃ x, x = wr := ⟨_, rfl⟩
      have HSUC := Aside0.mk (show crsTo ls up lo (i + 1) = crsTo ls up lo i + crsIn ls up lo (ls.getD i z100) i from rfl)
      obtain ⟨ad, e1, hx0, hx1⟩ := at_T100 HR0.out (i : Int) hi0 hilz
      subst e1
      have e3 : rd_T100 ls (i : Int) = ls.getD i z100 := by simp [rd_T100]
      rw [e3] at hx0 hx1
      simp only [Int.toNat_natCast] at hx0 hx1
      have HIX := Aside0.mk (HAT.out (ls.getD i z100) (by rw [List.getD_eq_getElem?_getD, List.getElem?_eq_getElem hil]; exact List.getElem_mem hil))
      have HCR := Aside0.mk (fun y => cross_iff up lo (ls.getD i z100) y)
      obtain ⟨x, hx⟩ : ∃ x, ls.getD i z100 = x := ⟨_, rfl⟩
      rw [hx] at hx0 hx1 HSUC HIX HCR
      obtain ⟨x0, hxa⟩ : ∃ q, x.f0 = q := ⟨_, rfl⟩
      obtain ⟨x1, hxb⟩ : ∃ q, x.f1 = q := ⟨_, rfl⟩
      rw [hxa] at hx0 HIX HCR
      rw [hxb] at hx1 HIX HCR
      have HX0 := Aside0.mk hx0
      have HX1 := Aside0.mk hx1
      obtain ⟨a, ha⟩ : ∃ q, cIx up x0 = q := ⟨_, rfl⟩
      obtain ⟨c, hc⟩ : ∃ q, cIx lo x1 = q := ⟨_, rfl⟩
      rw [ha, hc] at HIX HCR
      have IA := Aside0.mk HIX.out.1
      have IC := Aside0.mk HIX.out.2
      clear hx e3 hxa hxb ha hc hx0 hx1 HIX
      go_loopg [7, 9, 10, 11, 12, 13] i (fun gg s7 s9 _ _ _ _ wr => ∃ k : Nat, k ≤ i ∧ i - k ≤ gg ∧ s7 = .int .i64 (crsTo ls up lo i + crsIn ls up lo x k : Nat) ∧ s9 = .int .i64 k ∧ Aside0 (Below w.heap.size w wr))
      case atStart => exact ⟨0, Nat.zero_le _, by omega, by first | rfl | simp [crsIn], rfl, HB⟩
      case round =>
        clear HB
        obtain ⟨k, hk, hgg2, rfl, rfl, HB⟩ := hrel
        by_cases hki : k < i
        · have hkiz : (k : Int) < (i : Int) := by omega
          have hk0 : (0 : Int) ≤ (k : Int) := by omega
          have hklz : (k : Int) < (ls.length : Int) := by omega
          obtain ⟨ad', e1, hy0, hy1⟩ := at_T100 HR0.out (k : Int) hk0 hklz
          obtain rfl := Option.some.inj e1
          have e3 : rd_T100 ls (k : Int) = ls.getD k z100 := by simp [rd_T100]
          rw [e3] at hy0 hy1
          simp only [Int.toNat_natCast] at hy0 hy1
          have HSK := Aside0.mk (crsIn_succ ls up lo x k (by omega))
          have HLE := Aside0.mk (And.intro (crsTo_le ls up lo i) (crsIn_le ls up lo x k))
          have HKX := Aside0.mk (HAT.out (ls.getD k z100) (by rw [List.getD_eq_getElem?_getD, List.getElem?_eq_getElem (by omega : k < ls.length)]; exact List.getElem_mem _))
          have HCK := Aside0.mk (HCR.out (ls.getD k z100))
          obtain ⟨y, hy⟩ : ∃ y, ls.getD k z100 = y := ⟨_, rfl⟩
          rw [hy] at hy0 hy1 HSK HKX HCK
          obtain ⟨y0, hya⟩ : ∃ q, y.f0 = q := ⟨_, rfl⟩
          obtain ⟨y1, hyb⟩ : ∃ q, y.f1 = q := ⟨_, rfl⟩
          rw [hya] at hy0 HKX HCK
          rw [hyb] at hy1 HKX HCK
          obtain ⟨b, hb⟩ : ∃ q, cIx up y0 = q := ⟨_, rfl⟩
          obtain ⟨d, hd⟩ : ∃ q, cIx lo y1 = q := ⟨_, rfl⟩
          rw [hb, hd] at HKX HCK
          have IB := Aside0.mk HKX.out.1
          have ID := Aside0.mk HKX.out.2
          have HYES := Aside0.mk (fun (h : 0 ≤ a ∧ 0 ≤ c ∧ 0 ≤ b ∧ 0 ≤ d ∧ ((a < b ∧ d < c) ∨ (b < a ∧ c < d))) => show (if crossB up lo x y = true then 1 else 0) = 1 from if_pos (HCK.out.2 h))
          have HNO := Aside0.mk (fun (h : ¬ (0 ≤ a ∧ 0 ≤ c ∧ 0 ≤ b ∧ 0 ≤ d ∧ ((a < b ∧ d < c) ∨ (b < a ∧ c < d)))) => show (if crossB up lo x y = true then 1 else 0) = 0 from if_neg (fun h2 => h (HCK.out.1 h2)))
          have HWN := Aside0.mk (show wrap64 (((crsTo ls up lo i + crsIn ls up lo x k : Nat) : Int) + 1) = ((crsTo ls up lo i + crsIn ls up lo x k + 1 : Nat) : Int) from by
            have h1 := HLE.out; have h2 := HBD.out.1
            have h3 : i * i ≤ 1000 * 1000 := Nat.mul_le_mul (by omega) (by omega)
            exact wrap_succ2 _ (by omega))
          obtain ⟨mm, hmm⟩ : ∃ q, crsTo ls up lo i + crsIn ls up lo x k = q := ⟨_, rfl⟩
          rw [hmm] at HWN ⊢
          have HMM := Aside0.mk hmm
          have hx0 := (HB.out.cell (World.block_lt_of_cell? w _ HX0.out)).trans HX0.out
          have hx1 := (HB.out.cell (World.block_lt_of_cell? w _ HX1.out)).trans HX1.out
          replace hy0 := (HB.out.cell (World.block_lt_of_cell? w _ hy0)).trans hy0
          replace hy1 := (HB.out.cell (World.block_lt_of_cell? w _ hy1)).trans hy1
          clear hy e3 e1 hya hyb hb hd hmm HKX
          go_upto_region 8 with (fail)
          go_quiet (first | (go_at_call 104; (with_reducible refine (spec_l5At.calls kq _ _ up x0 _ _ (Kd.C_below HU.out (below_chain HB.out (by repeat (first | exact Below.refl _ _ | apply below_alloc | apply pw_below_drewN | apply below_drew1)))) HCU.out IA.out).mono ?_); rintro e w' ⟨rfl, ⟨nd, rfl⟩⟩; (try first | exact ⟨rfl, _, World.drewN_drewN _ _ _⟩ | exact ⟨rfl, _, Eq.trans (World.drewN_drewN _ _ _) (congrArg (World.drewN _) (Nat.add_assoc _ _ _))⟩)) | (go_at_call 104; (with_reducible refine (spec_l5At.calls kq _ _ up y0 _ _ (Kd.C_below HU.out (below_chain HB.out (by repeat (first | exact Below.refl _ _ | apply below_alloc | apply pw_below_drewN | apply below_drew1)))) HCU.out IB.out).mono ?_); rintro e w' ⟨rfl, ⟨nd, rfl⟩⟩; (try first | exact ⟨rfl, _, World.drewN_drewN _ _ _⟩ | exact ⟨rfl, _, Eq.trans (World.drewN_drewN _ _ _) (congrArg (World.drewN _) (Nat.add_assoc _ _ _))⟩)))
          go_upto_region 9 with (fail)
          go_quiet (first | (go_at_call 104; (with_reducible refine (spec_l5At.calls kq _ _ lo x1 _ _ (Kd.C_below HLO.out (below_chain HB.out (by repeat (first | exact Below.refl _ _ | apply below_alloc | apply pw_below_drewN | apply below_drew1)))) HCL.out IC.out).mono ?_); rintro e w' ⟨rfl, ⟨nd, rfl⟩⟩; (try first | exact ⟨rfl, _, World.drewN_drewN _ _ _⟩ | exact ⟨rfl, _, Eq.trans (World.drewN_drewN _ _ _) (congrArg (World.drewN _) (Nat.add_assoc _ _ _))⟩)) | (go_at_call 104; (with_reducible refine (spec_l5At.calls kq _ _ lo y1 _ _ (Kd.C_below HLO.out (below_chain HB.out (by repeat (first | exact Below.refl _ _ | apply below_alloc | apply pw_below_drewN | apply below_drew1)))) HCL.out ID.out).mono ?_); rintro e w' ⟨rfl, ⟨nd, rfl⟩⟩; (try first | exact ⟨rfl, _, World.drewN_drewN _ _ _⟩ | exact ⟨rfl, _, Eq.trans (World.drewN_drewN _ _ _) (congrArg (World.drewN _) (Nat.add_assoc _ _ _))⟩)))
          go_upto_region 10 with (fail)
          clear hx0 hx1 hy0 hy1
          by_cases h1 : 0 ≤ a
          rotate_left
          · have HCF := Aside0.mk (HNO.out (by omega))
            go_wp2
            go_roundg (i - (k + 1))
            case measure => omega
            case rel => exact ⟨k + 1, by omega, by omega, by rw [HSK.out, HCF.out, Nat.add_zero, HMM.out], by first | go_num | exact congrArg (Value.int .i64) (wrap_succ2 k (by have := HBD.out.1; omega)), ⟨by repeat (first | exact HB.out | apply pw_below_drewN | apply below_drew1)⟩⟩
          by_cases h2 : 0 ≤ b
          rotate_left
          · have HCF := Aside0.mk (HNO.out (by omega))
            go_wp2
            go_roundg (i - (k + 1))
            case measure => omega
            case rel => exact ⟨k + 1, by omega, by omega, by rw [HSK.out, HCF.out, Nat.add_zero, HMM.out], by first | go_num | exact congrArg (Value.int .i64) (wrap_succ2 k (by have := HBD.out.1; omega)), ⟨by repeat (first | exact HB.out | apply pw_below_drewN | apply below_drew1)⟩⟩
          by_cases h3 : 0 ≤ c
          rotate_left
          · have HCF := Aside0.mk (HNO.out (by omega))
            go_wp2
            go_roundg (i - (k + 1))
            case measure => omega
            case rel => exact ⟨k + 1, by omega, by omega, by rw [HSK.out, HCF.out, Nat.add_zero, HMM.out], by first | go_num | exact congrArg (Value.int .i64) (wrap_succ2 k (by have := HBD.out.1; omega)), ⟨by repeat (first | exact HB.out | apply pw_below_drewN | apply below_drew1)⟩⟩
          by_cases h4 : 0 ≤ d
          rotate_left
          · have HCF := Aside0.mk (HNO.out (by omega))
            go_wp2
            go_roundg (i - (k + 1))
            case measure => omega
            case rel => exact ⟨k + 1, by omega, by omega, by rw [HSK.out, HCF.out, Nat.add_zero, HMM.out], by first | go_num | exact congrArg (Value.int .i64) (wrap_succ2 k (by have := HBD.out.1; omega)), ⟨by repeat (first | exact HB.out | apply pw_below_drewN | apply below_drew1)⟩⟩
          by_cases h5 : a < b
          · by_cases h6 : d < c
            · have HCF := Aside0.mk (HYES.out (by omega))
              go_wp2
              try rw [HWN.out]
              go_roundg (i - (k + 1))
              case measure => omega
              case rel => exact ⟨k + 1, by omega, by omega, by rw [HSK.out, HCF.out, ← Nat.add_assoc, HMM.out], by first | go_num | exact congrArg (Value.int .i64) (wrap_succ2 k (by have := HBD.out.1; omega)), ⟨by repeat (first | exact HB.out | apply pw_below_drewN | apply below_drew1)⟩⟩
            · have h7 : ¬ b < a := by omega
              have HCF := Aside0.mk (HNO.out (by omega))
              go_wp2
              go_roundg (i - (k + 1))
              case measure => omega
              case rel => exact ⟨k + 1, by omega, by omega, by rw [HSK.out, HCF.out, Nat.add_zero, HMM.out], by first | go_num | exact congrArg (Value.int .i64) (wrap_succ2 k (by have := HBD.out.1; omega)), ⟨by repeat (first | exact HB.out | apply pw_below_drewN | apply below_drew1)⟩⟩
          · by_cases h7 : b < a
            · by_cases h8 : c < d
              · have HCF := Aside0.mk (HYES.out (by omega))
                go_wp2
                try rw [HWN.out]
                go_roundg (i - (k + 1))
                case measure => omega
                case rel => exact ⟨k + 1, by omega, by omega, by rw [HSK.out, HCF.out, ← Nat.add_assoc, HMM.out], by first | go_num | exact congrArg (Value.int .i64) (wrap_succ2 k (by have := HBD.out.1; omega)), ⟨by repeat (first | exact HB.out | apply pw_below_drewN | apply below_drew1)⟩⟩
              · have HCF := Aside0.mk (HNO.out (by omega))
                go_wp2
                go_roundg (i - (k + 1))
                case measure => omega
                case rel => exact ⟨k + 1, by omega, by omega, by rw [HSK.out, HCF.out, Nat.add_zero, HMM.out], by first | go_num | exact congrArg (Value.int .i64) (wrap_succ2 k (by have := HBD.out.1; omega)), ⟨by repeat (first | exact HB.out | apply pw_below_drewN | apply below_drew1)⟩⟩
            · have HCF := Aside0.mk (HNO.out (by omega))
              go_wp2
              go_roundg (i - (k + 1))
              case measure => omega
              case rel => exact ⟨k + 1, by omega, by omega, by rw [HSK.out, HCF.out, Nat.add_zero, HMM.out], by first | go_num | exact congrArg (Value.int .i64) (wrap_succ2 k (by have := HBD.out.1; omega)), ⟨by repeat (first | exact HB.out | apply pw_below_drewN | apply below_drew1)⟩⟩
        · obtain rfl : k = i := by omega
          have hkz : ¬ ((k : Int) < (k : Int)) := by omega
          go_wp2
          go_roundg (ls.length - (k + 1))
          case measure => omega
          case rel => exact ⟨k + 1, by omega, by omega, by rw [HSUC.out]; first | rfl | simp [Int.natCast_add], by first | go_num | exact congrArg (Value.int .i64) (wrap_succ2 k (by have := HBD.out.1; omega)), HB⟩
    · obtain rfl : i = ls.length := by omega
      have hkz : ¬ ((ls.length : Int) < (ls.length : Int)) := by omega
      go_wp2
      go_ret
      exact ⟨by rw [← HR_.out]; rfl, HB.out⟩

end Go.Proofs.Ytlbkoejpjpcgaaa.Q
