-- Written by a program of this session (wip/xprint.py over the kit's printer).
import Derived.Test.YtlmdmnenljmdgaaQ0
import Derived.Test.YtlmdmnenljmdgaaQEQ0
import Derived.Test.YtlmdmnenljmdgaaQP
namespace Go.Proofs.Ytlmdmnenljmdgaa.Q
open Go.RowKit Go.Proofs.YtlmdmnenljmdgaaW.PrintWords Go.Proofs.YtlmdmnenljmdgaaW.PrintLast
set_option linter.unusedVariables false
set_option linter.unusedSimpArgs false

/-! ### impl_Relation_78: function 78 -/
def eqR (a b : S36) : Bool := a.f0 == b.f0 && (a.f1 == b.f1)
def kp (xs : List S36) (i : Nat) : Bool := i == 0 || !(eqR (xs.getD i z36) (xs.getD (i - 1) z36))
/-- What slices.Compact keeps of the first m. -/
def cptTo (xs : List S36) (m : Nat) : List S36 := ((List.range m).filter (kp xs)).map fun i => xs.getD i z36
theorem cptTo_succ (xs : List S36) (m : Nat) : cptTo xs (m + 1) = if kp xs m then cptTo xs m ++ [xs.getD m z36] else cptTo xs m := by
  unfold cptTo
  rw [List.range_succ, List.filter_append, List.map_append]
  cases h : kp xs m <;> simp [h]
theorem take_getD (xs : List S36) (m : Nat) (h : m < xs.length) : xs.take (m + 1) = xs.take m ++ [xs.getD m z36] := by
  rw [List.take_succ_eq_append_getElem h, List.getD_eq_getElem?_getD, List.getElem?_eq_getElem h]; rfl
theorem cptTo_all (xs : List S36) : ∀ m, m ≤ xs.length → (∀ i, i < m → kp xs i = true) → cptTo xs m = xs.take m
  | 0, _, _ => by simp [cptTo]
  | m + 1, hm, h => by rw [cptTo_succ, if_pos (h m (by omega)), cptTo_all xs m (by omega) (fun i hi => h i (by omega)), take_getD xs m (by omega)]
structure CInv (xs ys : List S36) (k j : Nat) : Prop where
  len : ys.length = xs.length
  lt : k < j
  le : j ≤ xs.length
  take : ys.take k = cptTo xs j
  drop : ys.drop (j - 1) = xs.drop (j - 1)
theorem CInv.start {xs : List S36} {k : Nat} (hk : k < xs.length) (h : ∀ i, i < k → kp xs i = true) (hn : kp xs k = false) : CInv xs xs k (k + 1) :=
  ⟨rfl, by omega, by omega, by rw [cptTo_succ, if_neg (by simp [hn]), cptTo_all xs k (by omega) h], rfl⟩
theorem CInv.get {xs ys : List S36} {k j : Nat} (h : CInv xs ys k j) (i : Nat) (hi : j - 1 ≤ i) : ys.getD i z36 = xs.getD i z36 := by
  have := congrArg (fun l => l[i - (j - 1)]?) h.drop
  simp only [List.getElem?_drop, show j - 1 + (i - (j - 1)) = i by omega] at this
  rw [List.getD_eq_getElem?_getD, List.getD_eq_getElem?_getD, this]
theorem CInv.skip {xs ys : List S36} {k j : Nat} (h : CInv xs ys k j) (hj : j < xs.length) (hp : kp xs j = false) : CInv xs ys k (j + 1) := by
  have hlt := h.lt
  refine ⟨h.len, by omega, hj, by rw [cptTo_succ, if_neg (by simp [hp]), h.take], ?_⟩
  have := congrArg (List.drop 1) h.drop
  rw [List.drop_drop, List.drop_drop, show j - 1 + 1 = j by omega] at this
  simpa using this
theorem CInv.keep {xs ys : List S36} {k j : Nat} (h : CInv xs ys k j) (hj : j < xs.length) (hp : kp xs j = true) : CInv xs (ys.set k (xs.getD j z36)) (k + 1) (j + 1) := by
  have hlt := h.lt
  have hlen := h.len
  refine ⟨by rw [List.length_set, h.len], by omega, hj, ?_, ?_⟩
  · rw [cptTo_succ, if_pos hp, ← h.take, List.take_succ_eq_append_getElem (by rw [List.length_set]; omega), List.getElem_set_self, List.take_set_of_le (Nat.le_refl k)]
  · rw [show j + 1 - 1 = j by omega, List.drop_set_of_lt (by omega)]
    have := congrArg (List.drop 1) h.drop
    rw [List.drop_drop, List.drop_drop, show j - 1 + 1 = j by omega] at this
    exact this
def impl_Relation_78.T11 : Bool × List (List Nat × List Nat) := (true, [([], []), ([], []), ([0, 1], [0, 1]), ([2], [2]), ([], []), ([], []), ([5], [5]), ([4, 6], [4, 6]), ([7], [7]), ([3, 8], [3, 8])])
def impl_Relation_78.B11 : List Nat := [0, 0, 3, 7, 0, 0, 32, 112, 240, 511]
theorem impl_Relation_78.tab11 : rtab .any (opsOf Try.f78 11) = impl_Relation_78.T11 := by kernel_rfl
theorem impl_Relation_78.bits11 : waitsOk impl_Relation_78.T11.2 impl_Relation_78.B11 = true := by kernel_rfl
attribute [local go_sem high] eqA36
set_option maxHeartbeats 8000000 in
set_option maxRecDepth 100000 in
theorem impl_Relation_78.calls (v : Value) (xs : List S36) (base : Nat) (ok : Nat → Prop) (w : World) (HO : Kd.R k36 36 w base ok v xs) (h9 : xs.length ≤ 1000000) :
    Calls Try.prog 78 #[v] w fun en w' => ∃ v1 : Value, en = .returned v1 ∧ Kd.R k36 36 w' base ok v1 (cptTo xs xs.length) ∧ w.grownBy w' v.ownBlock := by
  obtain ⟨A, c, rfl, hlc, hC⟩ := Kd.R_reads HO
  have HO1 := Aside0.mk HO
  by_cases h2 : xs.length < 2
  · have h2z : (xs.length : Int) < 2 := by omega
    have hk0 : ∀ i, i < xs.length → kp xs i = true := by
      intro i hi
      obtain rfl : i = 0 := by omega
      rfl
    have HE := Aside0.mk (show cptTo xs xs.length = xs from by
      rw [cptTo_all xs _ (Nat.le_refl _) hk0, List.take_length])
    clear hk0
    clear hC HO h2
    go_enter Try.func78, Try.ntmps78
    go_wp2
    go_ret
    exact ⟨_, rfl, by rw [HE.out]; exact HO1.out, grown_refl _ _⟩
  · have h2z : ¬ (xs.length : Int) < 2 := by omega
    obtain ⟨g0, cap, hv, hcap, hbase, hg0, hok0⟩ := R_form HO (by omega)
    injection hv with hv1 hv2 hv3
    subst hv1; subst hv3
    obtain ⟨n, hn⟩ : ∃ n, xs.length = n := ⟨_, rfl⟩
    have HN := Aside0.mk hn
    have H2 := Aside0.mk h2
    have H9 := Aside0.mk h9
    rw [hn] at HO1 h2z hcap hlc ⊢
    clear hC HO h2 h9 hn hv2
    go_enter Try.func78, Try.ntmps78
    go_upto_region 4 with (fail)
    go_loopg [3] n (fun gg s3 wr => ∃ k : Nat, s3 = .int .i64 k ∧ 1 ≤ k ∧ k ≤ n ∧ n - k ≤ gg ∧ Aside0 (∀ i, i < k → kp xs i = true) ∧ Aside0 (Below w.heap.size w wr))
    case atStart =>
      have hk1 : ∀ i, i < 1 → kp xs i = true := by
        intro i hi
        obtain rfl : i = 0 := by omega
        rfl
      exact ⟨1, rfl, by omega, by omega, by omega, ⟨hk1⟩, ⟨Below.refl _ _⟩⟩
    case round =>
      obtain ⟨k, rfl, hk1, hkn, hgg, HK, HB⟩ := hrel
      have HRk := Aside0.mk (Kd.R_below HO1.out HB.out)
      by_cases hlt : k < n
      · have hltz : (k : Int) < (n : Int) := by omega
        obtain ⟨q, rfl⟩ : ∃ q, k = q + 1 := ⟨k - 1, by omega⟩
        have hCy := (Kd.R_reads' HRk.out).2.2
        obtain ⟨ad, e1, hx0, hx1⟩ := at_T36 hCy ((q + 1 : Nat) : Int) (by omega) (by have := HN.out; omega)
        cases e1
        obtain ⟨ad, e1, hy0, hy1⟩ := at_T36 hCy (q : Int) (by omega) (by have := HN.out; omega)
        cases e1
        rw [show rd_T36 xs ((q + 1 : Nat) : Int) = xs.getD (q + 1) z36 from by simp only [rd_T36, Int.toNat_natCast]] at hx0 hx1
        rw [show rd_T36 xs (q : Int) = xs.getD q z36 from by simp only [rd_T36, Int.toNat_natCast]] at hy0 hy1
        clear hCy
        have HKP := Aside0.mk (show kp xs (q + 1) = !((xs.getD (q + 1) z36).f0 == (xs.getD q z36).f0 && ((xs.getD (q + 1) z36).f1 == (xs.getD q z36).f1)) from by simp [kp, eqR])
        obtain ⟨x, hx⟩ : ∃ x, xs.getD (q + 1) z36 = x := ⟨_, rfl⟩
        obtain ⟨y, hy⟩ : ∃ y, xs.getD q z36 = y := ⟨_, rfl⟩
        rw [hx] at hx0 hx1 HKP
        rw [hy] at hy0 hy1 HKP
        clear hx hy
        have hwq : wrap64 (q : Int) = (q : Int) := by have := HN.out; have := H9.out; unfold wrap64; omega
        simp only [Int.toNat_natCast, add_plain] at hx0 hx1 hy0 hy1
        cases hb : (x.f0 == y.f0 && (x.f1 == y.f1)) with
        | true =>
          have HKF := Aside0.mk (show kp xs (q + 1) = false from by rw [HKP.out, hb]; rfl)
          clear HKP
          have hg0w : g0 < wr.heap.size := Nat.lt_of_lt_of_le hg0 HB.out.size
          go_upto_region 6 with (fail)
          go_quiet (fail)
          obtain ⟨i0, hi0, hz0, hz1, hz2⟩ := info_parts info36
          have hcut := cut_from (P := Try.prog) 30 36 .i64 Try.underlying30 hi0 2 hz1 (some ⟨g0, 0, none⟩) n c ((q + 1 : Nat) : Int) (by omega) (by omega)
          simp only [Int.toNat_natCast] at hcut
          rw [if_neg (show ¬ c = q + 1 by omega)] at hcut
          simp only [Option.map_some, add_plain, Nat.zero_add] at hcut
          clear hi0 hz0 hz1 hz2
          obtain ⟨wp, rfl⟩ : ∃ x, x = wr := ⟨_, rfl⟩
          have HB1 := HB
          have HRi := HRk
          try rw [hwq]
          clear HB HRk hx0 hx1 hy0 hy1 hb hwq
          go_upto_region 8 with (fail)
          clear hcut
          generalize ho2 : (q + 1) * 2 = o2
          generalize hM : n - (q + 1) = M
          generalize hC2 : c - (q + 1) = C2
          have HO2 := Aside0.mk ho2
          have HM := Aside0.mk hM
          clear ho2 hM hC2
          go_upto_region 9 with (fail)
          go_loopg [3, 5] n (fun gg s3 s5 wz => ∃ (k p : Nat) (ys : List S36), s3 = .int .i64 k ∧ s5 = .int .i64 ((p + 1 : Nat) : Int) ∧ q + 1 + (p + 1) ≤ n ∧ n - (q + 1 + (p + 1)) ≤ gg ∧ Aside0 (CInv xs ys k (q + 1 + (p + 1))) ∧ Aside0 (Kd.R k36 36 wz base ok (.slice (some ⟨g0, 0, none⟩) n c) ys) ∧ Aside0 (w.grownBy wz (some g0)))
          case atStart => exact ⟨q + 1, 0, xs, by first | rfl | go_num, by first | rfl | go_num, by omega, by omega, ⟨CInv.start (by have := HN.out; omega) HK.out HKF.out⟩, ⟨Kd.R_below HRi.out (by repeat (first | exact Below.refl _ _ | apply below_alloc | apply pw_below_drewN | apply below_drew1))⟩, ⟨grown_of_below (by repeat (first | exact HB1.out | apply below_alloc | apply pw_below_drewN | apply below_drew1)) _⟩⟩
          case round =>
            clear HRi
            obtain ⟨k, p, ys, rfl, rfl, hpn, hgg2, HC, HR, HG⟩ := hrel
            have hkj := HC.out.lt
            have hys := HC.out.len
            have HN9 := Aside0.mk (show n ≤ 1000000 from by have := HN.out; have := H9.out; omega)
            by_cases hlp : q + 1 + (p + 1) < n
            · have hlpz : ((p + 1 : Nat) : Int) < (M : Int) := by have := HM.out; omega
              have hlpz2 : (p : Int) + 1 < (M : Int) := by have := HM.out; omega
              have hlpz3 : (p : Int) < (M : Int) := by omega
              have hp0 : (0 : Int) ≤ (p : Int) := by omega
              have hp1 : (0 : Int) ≤ (p : Int) + 1 := by omega
              have hCy := (Kd.R_reads' HR.out).2.2
              obtain ⟨ad, e1, hx0, hx1⟩ := at_T36 hCy ((q + 1 + (p + 1) : Nat) : Int) (by omega) (by have := HN.out; omega)
              cases e1
              obtain ⟨ad, e1, hy0, hy1⟩ := at_T36 hCy ((q + 1 + p : Nat) : Int) (by omega) (by have := HN.out; omega)
              cases e1
              rw [show rd_T36 ys ((q + 1 + (p + 1) : Nat) : Int) = xs.getD (q + 1 + (p + 1)) z36 from by simp only [rd_T36, Int.toNat_natCast]; exact HC.out.get _ (by omega)] at hx0 hx1
              rw [show rd_T36 ys ((q + 1 + p : Nat) : Int) = xs.getD (q + 1 + p) z36 from by simp only [rd_T36, Int.toNat_natCast]; exact HC.out.get _ (by omega)] at hy0 hy1
              clear hCy
              simp only [Int.toNat_natCast, add_plain] at hx0 hx1 hy0 hy1
              rw [show (q + 1 + (p + 1)) * 2 = o2 + (p + 1) * 2 from by have := HO2.out; omega] at hx0 hx1
              rw [show (q + 1 + p) * 2 = o2 + p * 2 from by have := HO2.out; omega] at hy0 hy1
              have HKP := Aside0.mk (show kp xs (q + 1 + (p + 1)) = !((xs.getD (q + 1 + (p + 1)) z36).f0 == (xs.getD (q + 1 + p) z36).f0 && ((xs.getD (q + 1 + (p + 1)) z36).f1 == (xs.getD (q + 1 + p) z36).f1)) from by simp [kp, eqR, show q + 1 + (p + 1) - 1 = q + 1 + p by omega])
              obtain ⟨x, hx⟩ : ∃ x, xs.getD (q + 1 + (p + 1)) z36 = x := ⟨_, rfl⟩
              have HX := Aside0.mk hx
              obtain ⟨y, hy⟩ : ∃ y, xs.getD (q + 1 + p) z36 = y := ⟨_, rfl⟩
              rw [hx] at hx0 hx1 HKP
              rw [hy] at hy0 hy1 HKP
              clear hx hy
              have hwp : wrap64 (p : Int) = (p : Int) := by have := HN9.out; unfold wrap64; omega
              have hgz := Nat.lt_of_lt_of_le hg0 HG.out.size
              go_upto_region 11 with (fail)
              have HS0 := Aside0.mk (show (fun w' : World => w'.cell? ⟨g0, o2 + (p + 1) * 2, none⟩ = some (.int .i64 x.f0) ∧ w'.cell? ⟨g0, o2 + (p + 1) * 2 + 1, none⟩ = some (.int .i64 x.f1) ∧ w'.cell? ⟨g0, o2 + p * 2, none⟩ = some (.int .i64 y.f0) ∧ w'.cell? ⟨g0, o2 + p * 2 + 1, none⟩ = some (.int .i64 y.f1) ∧ Aside0 (Kd.R k36 36 w' base ok (.slice (some ⟨g0, 0, none⟩) n c) ys) ∧ Aside0 (w.grownBy w' (some g0))) wr.drew from ⟨hx0, hx1, hy0, hy1, ⟨Kd.R_drew HR.out⟩, ⟨grown_drew HG.out⟩⟩)
              clear hx0 hx1 hy0 hy1 HR HG hgz
              obtain ⟨b, hb⟩ : ∃ b, (x.f0 == y.f0 && (x.f1 == y.f1)) = b := ⟨_, rfl⟩
              rw [hb] at HKP
              all_goals refine start_ (n := 10) (S := (fun w' : World => w'.cell? ⟨g0, o2 + (p + 1) * 2, none⟩ = some (.int .i64 x.f0) ∧ w'.cell? ⟨g0, o2 + (p + 1) * 2 + 1, none⟩ = some (.int .i64 x.f1) ∧ w'.cell? ⟨g0, o2 + p * 2, none⟩ = some (.int .i64 y.f0) ∧ w'.cell? ⟨g0, o2 + p * 2 + 1, none⟩ = some (.int .i64 y.f1) ∧ Aside0 (Kd.R k36 36 w' base ok (.slice (some ⟨g0, 0, none⟩) n c) ys) ∧ Aside0 (w.grownBy w' (some g0)))) (ds := []) (bl 0 10) (by kernel_rfl) rfl rfl HS0.out (fun hHeld => ?_); refine with_tabW impl_Relation_78.tab11 impl_Relation_78.bits11 (fun HT_ HW_ => ?_)
              all_goals generalize wr.drew = wv at hHeld ⊢
              all_goals first | refine pA_ 0 (some 35) (bl 1 10) HT_.out (h := ?_) | refine pO_ 0 (some 35) (bl 1 10) HT_.out (h := ?_)
              all_goals first | refine pA_ 1 (some 36) (bl 2 10) HT_.out (h := ?_) | refine pO_ 1 (some 36) (bl 2 10) HT_.out (h := ?_)
              all_goals first | refine pA_ 2 (some 37) (bl 3 10) HT_.out (h := ?_) | refine pO_ 2 (some 37) (bl 3 10) HT_.out (h := ?_)
              all_goals first | refine pA_ 4 (some 39) (bx 3 [4] 10) HT_.out (h := ?_) | refine pO_ 4 (some 39) (bx 3 [4] 10) HT_.out (h := ?_)
              all_goals first | refine pA_ 5 (some 40) (bx 3 [4, 5] 10) HT_.out (h := ?_) | refine pO_ 5 (some 40) (bx 3 [4, 5] 10) HT_.out (h := ?_)
              all_goals first | refine pA_ 6 (some 41) (bx 3 [4, 5, 6] 10) HT_.out (h := ?_) | refine pO_ 6 (some 41) (bx 3 [4, 5, 6] 10) HT_.out (h := ?_)
              all_goals first | refine pA_ 7 (some 42) (bx 3 [4, 5, 6, 7] 10) HT_.out (h := ?_) | refine pO_ 7 (some 42) (bx 3 [4, 5, 6, 7] 10) HT_.out (h := ?_)
              all_goals first | refine tA_ 3 (some 38) (bl 8 10) HT_.out HW_.out hHeld (h := ?_) | refine pO_ 3 (some 38) (bl 8 10) HT_.out (h := ?_)
              all_goals first | refine tA_ 8 (some 43) (bl 9 10) HT_.out HW_.out hHeld (h := ?_) | refine pO_ 8 (some 43) (bl 9 10) HT_.out (h := ?_)
              all_goals first | refine pA_ 9 (some 44) (bl 10 10) HT_.out (h := ?_) | refine pO_ 9 (some 44) (bl 10 10) HT_.out (h := ?_)
              all_goals refine done_ (done_of HT_.out (by kernel_rfl)) ?_
              clear HS0
              try rw [hwp]
              clear hwp
              obtain ⟨hx0, hx1, _, _, HR, HG⟩ := hHeld
              cases b with
              | true =>
                have HKG := Aside0.mk (show kp xs (q + 1 + (p + 1)) = false from HKP.out)
                clear HKP hx0 hx1 hb
                go_wp2
                go_roundg (n - (q + 1 + (p + 1 + 1)))
                case measure => omega
                case rel => exact ⟨k, p + 1, ys, by first | rfl | go_num, by have := HN9.out; first | go_num | exact congrArg (Value.int .i64) (by unfold wrap64; omega), by omega, by omega, ⟨HC.out.skip (by have := HN.out; omega) HKG.out⟩, HR, HG⟩
              | false =>
                have HKG := Aside0.mk (show kp xs (q + 1 + (p + 1)) = true from HKP.out)
                have hkn2 : (k : Int) < (n : Int) := by omega
                have hk02 : (0 : Int) ≤ (k : Int) := by omega
                obtain ⟨cs, hcl, hM2, hcc, hcf⟩ := Kd.R_elem HR.out z36 (k : Int) hk02 hkn2
                have hcl2 : cs.length = 2 := hcl
                obtain ⟨hR3, hG3⟩ := Kd.R_seg HR.out (k : Int) hk02 hkn2 hcl hcc (seg := [.int .i64 x.f0, .int .i64 x.f1]) (j := 0) (by simp [hcl2, ← hcl]) (x' := x) (okp := fun _ => False) (by rw [List.take_zero, List.nil_append, Nat.zero_add, List.drop_of_length_le (by simp [hcl2])]; exact k36_mkM _ _ _ x) (fun _ h => h.elim)
                rw [show wv.setCells g0 ((k : Int).toNat * (k36).sz + 0) [.int .i64 x.f0, .int .i64 x.f1] = ((wv.setCell ⟨g0, k * 2, none⟩ (.int .i64 x.f0)).setCell ⟨g0, k * 2 + 1, none⟩ (.int .i64 x.f1)) from by simp [World.setCells, show (k36).sz = 2 from rfl]] at hR3 hG3
                simp only [Int.toNat_natCast] at hR3
                obtain rfl := k36_openM hM2
                have ci0 : wv.cell? ⟨g0, k * 2, none⟩ = some (.int .i64 (ys.getD (k : Int).toNat z36).f0) := by have := hcc 0 _ rfl; simpa only [Int.toNat_natCast, show (k36).sz = 2 from rfl, Nat.add_zero] using this
                have ci1 : wv.cell? ⟨g0, k * 2 + 1, none⟩ = some (.int .i64 (ys.getD (k : Int).toNat z36).f1) := by have := hcc 1 _ rfl; simpa only [Int.toNat_natCast, show (k36).sz = 2 from rfl, Nat.add_zero] using this
                have cf0 : wv.frozen? ⟨g0, k * 2, none⟩ = false := by have := hcf 0; simpa only [Int.toNat_natCast, show (k36).sz = 2 from rfl, Nat.add_zero] using this
                have cf1 : wv.frozen? ⟨g0, k * 2 + 1, none⟩ = false := by have := hcf 1; simpa only [Int.toNat_natCast, show (k36).sz = 2 from rfl, Nat.add_zero] using this
                generalize ys.getD (k : Int).toNat z36 = yo at ci0 ci1
                have HCK := Aside0.mk (HC.out.keep (by have := HN.out; omega) HKG.out)
                rw [HX.out] at HCK
                have HR3 := Aside0.mk hR3
                have HG3 := Aside0.mk (grown_trans HG.out hG3)
                clear hcc hcf hM2 hcl hcl2 hR3 hG3 HR HG hb HKP
                go_wp2
                go_roundg (n - (q + 1 + (p + 1 + 1)))
                case measure => omega
                case rel => exact ⟨k + 1, p + 1, ys.set k x, by have := HN9.out; first | go_num | exact congrArg (Value.int .i64) (by unfold wrap64; omega), by have := HN9.out; first | go_num | exact congrArg (Value.int .i64) (by unfold wrap64; omega), by omega, by omega, HCK, HR3, HG3⟩
            · have hpe : q + 1 + (p + 1) = n := by omega
              have hlpz : ¬ ((p + 1 : Nat) : Int) < (M : Int) := by have := HM.out; omega
              have hlpz2 : ¬ (p : Int) + 1 < (M : Int) := by omega
              obtain ⟨i0, hi0, hz0, hz1, hz2⟩ := info_parts info36
              have hcut := cut_from (P := Try.prog) 30 36 .i64 Try.underlying30 hi0 2 hz1 (some ⟨g0, 0, none⟩) n c (k : Int) (by omega) (by omega)
              have hcut2 := cut_to (P := Try.prog) 30 36 .i64 Try.underlying30 hi0 (some ⟨g0, 0, none⟩) n c (k : Int) (by omega) (by omega) hcap
              simp only [Int.toNat_natCast] at hcut hcut2
              rw [if_neg (show ¬ c = k by omega)] at hcut
              simp only [Option.map_some, add_plain, Nat.zero_add] at hcut
              obtain ⟨W', hclr, HR', HG'⟩ := R_cleared k36 HR.out 30 0 (.agg #[(.int .i64 0), (.int .i64 0)]) 16 Try.underlying30 info36 rfl (by simp [Value.cells, Value.oneCell']) k (by omega) (c - k) (some ⟨g0, k * 2, none⟩) (fun _ => rfl)
              have HRr := Aside0.mk HR'
              have HGr := Aside0.mk HG'
              have HE := Aside0.mk (show cptTo xs n = ys.take k from by rw [HC.out.take, hpe])
              clear HR' HG' hi0 hz0 hz1 hz2
              go_wp2
              go_ret
              exact ⟨_, rfl, by rw [HE.out]; exact HRr.out, grown_trans HG.out HGr.out⟩
        | false =>
          have HKF := Aside0.mk (show kp xs (q + 1) = true from by rw [HKP.out, hb]; rfl)
          clear HKP
          go_wp2
          go_quiet (fail)
          try go_wp2
          go_roundg (n - (q + 1 + 1))
          case measure => omega
          case rel =>
            refine ⟨q + 1 + 1, by have := HN.out; have := H9.out; first | go_num | exact congrArg (Value.int .i64) (by unfold wrap64; omega), by omega, by omega, by omega, ⟨fun i hi => ?_⟩, ⟨by repeat (first | exact HB.out | apply below_alloc | apply pw_below_drewN | apply below_drew1)⟩⟩
            by_cases e : i = q + 1
            · subst e; exact HKF.out
            · exact HK.out i (by omega)
      · obtain rfl : k = n := by omega
        have hltz : ¬ (k : Int) < (k : Int) := by omega
        have HE := Aside0.mk (show cptTo xs k = xs from by rw [cptTo_all xs k (by rw [HN.out]; exact Nat.le_refl _) HK.out, ← HN.out, List.take_length])
        go_wp2
        go_ret
        exact ⟨_, rfl, by rw [HE.out]; exact HRk.out, grown_of_below HB.out _⟩

end Go.Proofs.Ytlmdmnenljmdgaa.Q
