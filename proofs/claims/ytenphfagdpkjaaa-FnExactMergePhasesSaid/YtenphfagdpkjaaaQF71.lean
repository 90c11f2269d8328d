-- Written by a program of this session (wip/xprint.py over the kit's printer).
import Derived.Test.YtenphfagdpkjaaaQ0
import Derived.Test.YtenphfagdpkjaaaQF99
import Derived.Test.YtenphfagdpkjaaaQP
namespace Go.Proofs.Ytenphfagdpkjaaa.Q
open Go.RowKit Go.Proofs.YtenphfagdpkjaaaW.PrintWords Go.Proofs.YtenphfagdpkjaaaW.PrintLast
set_option linter.unusedVariables false
set_option linter.unusedSimpArgs false

/-! ### spec_l1Put: function 71 -/
/-- A number put into a rising list. -/
def putL : List Int → Int → List Int
  | [], n => [n]
  | x :: r, n => if x < n then x :: putL r n else if x = n then x :: r else n :: x :: r
theorem putL_at (n : Int) : ∀ (l : List Int) (j : Nat), j ≤ l.length → (∀ q, q < j → l.getD q 0 < n) → (j < l.length → ¬ l.getD j 0 < n) → putL l n = if j < l.length ∧ l.getD j 0 = n then l else l.take j ++ [n] ++ l.drop j
  | [], j, hj, _, _ => by
    obtain rfl : j = 0 := by simpa using hj
    simp [putL]
  | x :: r, 0, _, _, h2 => by
    have h3 : ¬ x < n := h2 (by simp)
    simp [putL, h3]
  | x :: r, j + 1, hj, h1, h2 => by
    have h3 : x < n := h1 0 (by omega)
    have ih := putL_at n r j (by simpa using hj) (fun q hq => h1 (q + 1) (by omega)) (fun h => h2 (by simpa using h))
    simp only [putL, h3, if_true, ih]
    simp only [List.length_cons, Nat.add_lt_add_iff_right, List.getD_cons_succ, List.take_succ_cons, List.drop_succ_cons]
    split <;> simp
theorem putL_length (n : Int) : ∀ l : List Int, (putL l n).length ≤ l.length + 1
  | [] => by simp [putL]
  | x :: r => by
    have := putL_length n r
    unfold putL
    split
    · simp only [List.length_cons]; omega
    · split <;> simp
theorem c_one {w : World} {b e : Nat} {n : Int} (h : w.heap[b]? = some (.cells #[.int .i64 n] e (0, 0))) : Kd.C (Kd.int .i64) w (some ⟨b, 0, none⟩) 1 [n] := by
  refine ⟨rfl, by decide, fun _ => ⟨_, rfl, fun j p hj => ?_⟩⟩
  cases j with
  | succ j => simp at hj
  | zero =>
    obtain rfl : n = p := by simpa using hj
    refine ⟨[.int .i64 n], rfl, rfl, fun i u hu => ?_⟩
    cases i with
    | succ i => simp at hu
    | zero =>
      obtain rfl : Value.int .i64 n = u := by simpa using hu
      exact (blk_cell h 0).trans rfl
def spec_l1Put.T6 : Bool × List (List Nat × List Nat) := (true, [([], []), ([], []), ([], []), ([1, 2], [1, 2]), ([0, 3], [0, 3]), ([], []), ([5], [5]), ([4, 6, 4], [4, 6]), ([], []), ([], []), ([8, 9], [8, 9]), ([7, 10, 7], [7, 10]), ([11, 11, 0, 1, 2, 3, 4, 5, 6, 7, 8, 9, 10, 11], [11])])
def spec_l1Put.B6 : List Nat := [0, 0, 0, 6, 15, 0, 32, 127, 0, 0, 768, 2047, 4095]
theorem spec_l1Put.tab6 : rtab .any (opsOf Try.f71 6) = spec_l1Put.T6 := by kernel_rfl
theorem spec_l1Put.bits6 : waitsOk spec_l1Put.T6.2 spec_l1Put.B6 = true := by kernel_rfl
set_option maxHeartbeats 8000000 in
set_option maxRecDepth 100000 in
theorem spec_l1Put.calls (A0 : Option Addr) (c0 : Nat) (l0 : List Int) (a1 : Int) (w : World) (hr0 : Kd.C (Kd.int .i64) w A0 l0.length l0) (hc0 : l0.length ≤ c0) (hl : l0.length ≤ 1000000) :
    Calls Try.prog 71 #[.slice A0 l0.length c0, .int .i64 a1] w fun e w' => ∃ v1_ : Value, e = .returned v1_ ∧ (v1_ = .slice A0 l0.length c0 ∧ putL l0 a1 = l0 ∨ Kd.R (Kd.int .i64) 3 w' w.heap.size (fun _ => True) v1_ (putL l0 a1)) ∧ Below w.heap.size w w' := by
  have HM := Aside0.mk hr0
  have HC := Aside0.mk hc0
  have HL := Aside0.mk hl
  clear hr0 hc0 hl
  obtain ⟨n, hn⟩ : ∃ n, l0.length = n := ⟨_, rfl⟩
  rw [hn] at HM HL HC ⊢
  have HN := Aside0.mk hn
  clear hn
  obtain ⟨i0, hi0, hz0, hz1, hz2⟩ := info_parts info3
  have HCT := Aside0.mk (fun (j : Nat) (hj : j ≤ n) => cut_to (P := Try.prog) 45 3 .i64 Try.underlying45 hi0 A0 n c0 (j : Int) (by omega) (by omega) HC.out)
  have HCF := Aside0.mk (fun (j : Nat) (hj : j ≤ n) => cut_from (P := Try.prog) 45 3 .i64 Try.underlying45 hi0 1 hz1 A0 n c0 (j : Int) (by omega) (by omega))
  clear hi0 hz0 hz1 hz2
  go_enter Try.func71, Try.ntmps71
  go_wp2
  go_loopg [5] n (fun gg s5 wr => ∃ j : Nat, j ≤ n ∧ n - j ≤ gg ∧ s5 = .int .i64 j ∧ Aside0 (wr = w) ∧ Aside0 (∀ q, q < j → l0.getD q 0 < a1))
  case atStart => exact ⟨0, Nat.zero_le _, by omega, rfl, ⟨rfl⟩, ⟨fun q hq => absurd hq (Nat.not_lt_zero _)⟩⟩
  case round =>
    obtain ⟨j, hj, hgg, rfl, HW, HA⟩ := hrel
    obtain rfl := HW.out
    by_cases hlt : j < n ∧ l0.getD j 0 < a1
    · obtain ⟨hlt, hx⟩ := hlt
      have hltz : (j : Int) < (n : Int) := by omega
      have h0z : (0 : Int) ≤ (j : Int) := by omega
      obtain ⟨ad, e1, hc⟩ := Kd.at_int HM.out (j : Int) h0z hltz
      cases e1
      have e2 : rd l0 (j : Int) = l0.getD j 0 := by simp [rd]
      rw [e2, Int.toNat_natCast] at hc
      have HX := Aside0.mk hx
      obtain ⟨x, hxx⟩ : ∃ x, l0.getD j 0 = x := ⟨_, rfl⟩
      rw [hxx] at hc hx
      have HXX := Aside0.mk hxx
      clear hxx e2
      go_wp2
      go_roundg (n - (j + 1))
      case measure => omega
      case rel => exact ⟨j + 1, by omega, by omega, by first | go_num | exact congrArg (Value.int .i64) (wrap_succ j (by have := HL.out; omega)), ⟨rfl⟩, ⟨fun q hq => by
        by_cases e : q = j
        · subst e; exact HX.out
        · exact HA.out q (by omega)⟩⟩
    · have HP := Aside0.mk (putL_at a1 l0 j (by rw [HN.out]; exact hj) HA.out (fun h => fun h2 => hlt ⟨by rw [HN.out] at h; exact h, h2⟩))
      rw [HN.out] at HP
      have HJ := Aside0.mk hj
      by_cases heq : j < n ∧ l0.getD j 0 = a1
      · rw [if_pos heq] at HP
        obtain ⟨hjn, hx⟩ := heq
        have hltz : (j : Int) < (n : Int) := by omega
        have h0z : (0 : Int) ≤ (j : Int) := by omega
        obtain ⟨ad, e1, hc⟩ := Kd.at_int HM.out (j : Int) h0z hltz
        cases e1
        have e2 : rd l0 (j : Int) = l0.getD j 0 := by simp [rd]
        rw [e2, Int.toNat_natCast, hx] at hc
        clear e2 hlt hx
        go_wp2
        go_ret
        exact ⟨_, rfl, .inl ⟨rfl, HP.out⟩, Below.refl _ _⟩
      · rw [if_neg heq] at HP
        have hct := HCT.out j hj
        have hcf := HCF.out j hj
        simp only [Int.toNat_natCast] at hct hcf
        obtain ⟨AB, hAB⟩ : ∃ AB : Option Addr, AB = (if c0 = j then A0 else A0.map (·.add (j * 1))) := ⟨_, rfl⟩
        rw [← hAB] at hcf
        have HCTJ := Aside0.mk hct
        have HCFJ := Aside0.mk hcf
        clear hct hcf
        have HCA := Aside0.mk (show Kd.C (Kd.int .i64) wr A0 j (l0.take j) from by have h := Kd.C_take (k := Kd.int .i64) (xs := l0) (m := j) (by rw [HN.out]; exact HM.out) (by rw [HN.out]; exact hj); rw [List.length_take, HN.out, Nat.min_eq_left hj] at h; exact h)
        have HCB := Aside0.mk (show Kd.C (Kd.int .i64) wr AB (n - j) (l0.drop j) from by have h := Kd.C_drop (k := Kd.int .i64) (xs := l0) (m := j) (c := c0) (by rw [HN.out]; exact HM.out) (by rw [HN.out]; exact hj) (by rw [HN.out]; exact HC.out); rw [List.length_drop, HN.out] at h; rw [hAB]; exact h)
        have HLT := Aside0.mk (show (l0.take j).length = j from by rw [List.length_take, HN.out, Nat.min_eq_left hj])
        have HLD := Aside0.mk (show (l0.drop j).length = n - j from by rw [List.length_drop, HN.out])
        clear hAB HCT HCF
        have hway : (j = n) ∨ (j < n ∧ ¬ l0.getD j 0 < a1 ∧ ¬ l0.getD j 0 = a1) := by
          by_cases h : j = n
          · exact .inl h
          · exact .inr ⟨by omega, fun h2 => hlt ⟨by omega, h2⟩, fun h2 => heq ⟨by omega, h2⟩⟩
        clear hlt heq
        have hj0 : (0 : Int) ≤ (j : Int) := by omega
        rcases hway with hway | ⟨hjl, hx, hy⟩
        focus (have hltz : ¬ (j : Int) < (n : Int) := (by omega); go_upto_region 6 with (fail); clear hltz hway)
        rotate_left
        focus (have hltz : (j : Int) < (n : Int) := (by omega); obtain ⟨ad, e1, hc⟩ := Kd.at_int HM.out (j : Int) hj0 hltz; cases e1; have e2 : rd l0 (j : Int) = l0.getD j 0 := (by simp [rd]); rw [e2, Int.toNat_natCast] at hc; obtain ⟨x, hxx⟩ : ∃ x, l0.getD j 0 = x := ⟨_, rfl⟩; rw [hxx] at hc hx hy; clear hxx e2; go_upto_region 6 with (fail); clear hc hx hy hltz hjl)
        all_goals
          have hjn : (j : Int) ≤ (n : Int) := by have := HJ.out; omega
          have hct := HCTJ.out
          have hcf := HCFJ.out
          refine start_ (n := 13) (S := fun _ => True) (ds := []) (bl 0 13) (by kernel_rfl) rfl rfl trivial (fun hHeld => ?_); refine with_tab spec_l1Put.tab6 (fun HT_ => ?_)
          have HB := Aside0.mk (below_drew1 (Below.refl wr.heap.size wr))
          generalize wr.drew = wz at HB hHeld ⊢
          refine pA_ 1 (some 34) (bx 0 [1] 13) HT_.out (h := ?_)
          refine pA_ 2 (some 35) (bx 0 [1, 2] 13) HT_.out (h := ?_)
          refine pA_ 3 (some 36) (bx 0 [1, 2, 3] 13) HT_.out (h := ?_)
          refine pA_ 5 (some 38) (bx 0 [1, 2, 3, 5] 13) HT_.out (h := ?_)
          refine pA_ 8 (some 41) (bx 0 [1, 2, 3, 5, 8] 13) HT_.out (h := ?_)
          refine pA_ 9 (some 42) (bx 0 [1, 2, 3, 5, 8, 9] 13) HT_.out (h := ?_)
          refine pA_ 10 (some 43) (bx 0 [1, 2, 3, 5, 8, 9, 10] 13) HT_.out (h := ?_)
          refine two_ (i := 0) (j := 6) (Ni := some 33) (Nj := some 39) (bx 4 [5, 8, 9, 10] 13) (bx 0 [1, 2, 3, 5, 6, 8, 9, 10] 13) rfl rfl rfl rfl (two_of HT_.out (by kernel_rfl)) (by decide) (by decide) (fun K hK => ?_) (fun K hK => ?_)
          · refine Kd.R_lit_step (Kd.int .i64) (w0 := wr) wr.heap.size 3 (by rfl) (N := 33) rfl (xs := ([] : List Int)) (inner := []) (ok := fun _ => True) (okp := fun _ => False) (by go_simp) (Reps.none _ _) (fun _ h => h.elim) trivial HB.out HB.out.size (by decide) ?_; intro v3 w3 ho hb hg hat; obtain ⟨A3, d3, e3⟩ := Kd.R_slice ho; subst e3; have HR := Aside0.mk ho; have HBn := Aside0.mk hb; clear ho hb hg hat; clear HB; have HB := HBn; clear HBn; refine hK.out _ _ trivial (fun hHeld => ?_); clear hK K; refine norm_ (a' := ?_) ?_ ?_; rotate_left; focus (show Act.put _ (some 33) _ = _; simp only [Act.put, List.setIfInBounds_toArray, List.set_cons_zero, List.set_cons_succ, i64_w, i32_w]; rfl)
            refine two_ (i := 4) (j := 6) (Ni := some 37) (Nj := some 39) (bx 6 [8, 9, 10] 13) (bx 4 [5, 6, 8, 9, 10] 13) rfl rfl rfl rfl (two_of HT_.out (by kernel_rfl)) (by decide) (by decide) (fun K hK => ?_) (fun K hK => ?_)
            · refine Kd.R_append_rows_step (Kd.int .i64) (w0 := wr) wr.heap.size (by rfl) (.tmp 33) (.tmp 36) 45 3 (.int .i64 0) 8 rfl Try.underlying45 info3 rfl (by decide) (by decide) (.slice A3 ([] : List Int).length d3) [] (l0.take j) _ _ _ (fun _ => True) (fun _ => False) rfl rfl HR.out (Kd.C_below HCA.out HB.out) (fun _ _ h => h) (fun _ h => h.elim) (fun _ _ => trivial) HB.out HB.out.size (by have := HL.out; have := HJ.out; simp only [List.length_nil]; omega) ?_; intro v4 w4 ho hb hg hat; rw [List.nil_append] at ho; obtain ⟨A4, d4, e4⟩ := Kd.R_slice ho; subst e4; clear HR; have HR := Aside0.mk ho; have HBn := Aside0.mk hb; clear ho hb hg hat; clear HB; have HB := HBn; clear HBn; refine hK.out _ _ trivial (fun hHeld => ?_); clear hK K; refine norm_ (a' := ?_) ?_ ?_; rotate_left; focus (show Act.put _ (some 37) _ = _; simp only [Act.put, List.setIfInBounds_toArray, List.set_cons_zero, List.set_cons_succ, i64_w, i32_w]; rfl)
              refine one_ (i := 6) (N := some 39) (bx 7 [8, 9, 10] 13) rfl rfl (one_of HT_.out (by kernel_rfl)) (by decide) (fun K hK => ?_); obtain ⟨b, hbw⟩ : ∃ b, w4.heap.size = b := ⟨_, rfl⟩; have HBK := Aside0.mk (show (w4.alloc (.cells #[.int .i64 a1] 3 (0, 0))).heap[b]? = some (.cells #[.int .i64 a1] 3 (0, 0)) from by rw [← hbw]; exact blk_new w4 (.cells #[.int .i64 a1] 3 (0, 0))); have HBn := Aside0.mk (below_chain (w := wr) HB.out (below_alloc (Below.refl w4.heap.size w4) (.cells #[.int .i64 a1] 3 (0, 0)))); have HRn := Aside0.mk (Kd.R_alloc (Kd.R_mono (ok' := fun q => q ≠ b) (Kd.R_bound HR.out) (fun q hq => by have h8 := hq.2.2.1; omega)) (.cells #[.int .i64 a1] 3 (0, 0))); clear HR; have HR := HRn; clear HRn; refine value_ (by rfl) rfl (by go_simp; constructor; rfl; rfl) ?_; (try rw [hbw]); clear HB; have HB := HBn; clear HBn; refine hK.out _ _ trivial (fun hHeld => ?_); clear hK K; refine norm_ (a' := ?_) ?_ ?_; rotate_left; focus (show Act.put _ (some 39) _ = _; simp only [Act.put, List.setIfInBounds_toArray, List.set_cons_zero, List.set_cons_succ, i64_w, i32_w]; rfl)
              generalize w4.alloc (.cells #[.int .i64 a1] 3 (0, 0)) = w2 at HBK HB HR ⊢; clear hbw
              refine one_ (i := 7) (N := some 40) (bl 11 13) rfl rfl (one_of HT_.out (by kernel_rfl)) (by decide) (fun K hK => ?_); refine Kd.R_append_rows_step (Kd.int .i64) (w0 := wr) wr.heap.size (by rfl) (.tmp 37) (.tmp 39) 45 3 (.int .i64 0) 8 rfl Try.underlying45 info3 rfl (by decide) (by decide) (.slice A4 (l0.take j).length d4) (l0.take j) [a1] _ 1 _ (fun q => q ≠ b) (fun _ => False) rfl rfl HR.out (c_one HBK.out) (fun _ _ h => h) (fun _ h => h.elim) (fun q hq h => by subst h; exact absurd hq (Nat.not_le.2 (blk_lt HBK.out))) HB.out HB.out.size (by rw [HLT.out]; have := HL.out; have := HJ.out; omega) ?_; intro v5 w5 ho hb hg hat; obtain ⟨A5, d5, e5⟩ := Kd.R_slice ho; subst e5; clear HR HBK; have HR := Aside0.mk (Kd.R_mono (ok' := fun _ => True) ho (fun _ _ => trivial)); have HBn := Aside0.mk hb; clear ho hb hg hat; clear HB; have HB := HBn; clear HBn; refine hK.out _ _ trivial (fun hHeld => ?_); clear hK K; refine norm_ (a' := ?_) ?_ ?_; rotate_left; focus (show Act.put _ (some 40) _ = _; simp only [Act.put, List.setIfInBounds_toArray, List.set_cons_zero, List.set_cons_succ, i64_w, i32_w]; rfl)
              refine one_ (i := 11) (N := some 44) (bl 12 13) rfl rfl (one_of HT_.out (by kernel_rfl)) (by decide) (fun K hK => ?_); refine Kd.R_append_rows_step (Kd.int .i64) (w0 := wr) wr.heap.size (by rfl) (.tmp 40) (.tmp 43) 45 3 (.int .i64 0) 8 rfl Try.underlying45 info3 rfl (by decide) (by decide) (.slice A5 (l0.take j ++ [a1]).length d5) (l0.take j ++ [a1]) (l0.drop j) _ _ _ (fun _ => True) (fun _ => False) rfl rfl HR.out (Kd.C_below HCB.out HB.out) (fun _ _ h => h) (fun _ h => h.elim) (fun _ _ => trivial) HB.out HB.out.size (by rw [List.length_append, HLT.out]; have := HL.out; have := HJ.out; simp only [List.length_singleton]; omega) ?_; intro v6 w6 ho hb hg hat; rw [← HP.out] at ho; obtain ⟨A6, d6, e6⟩ := Kd.R_slice ho; subst e6; clear HR; have HR := Aside0.mk ho; have HBn := Aside0.mk hb; clear ho hb hg hat; clear HB; have HB := HBn; clear HBn; refine hK.out _ _ trivial (fun hHeld => ?_); clear hK K; refine norm_ (a' := ?_) ?_ ?_; rotate_left; focus (show Act.put _ (some 44) _ = _; simp only [Act.put, List.setIfInBounds_toArray, List.set_cons_zero, List.set_cons_succ, i64_w, i32_w]; rfl)
              refine pA_ 12 (some 4) (bl 13 13) HT_.out (h := ?_)
              refine done_ (done_of HT_.out (by kernel_rfl)) ?_
              go_wp2
              go_ret
              exact ⟨_, rfl, .inr HR.out, HB.out⟩
            · obtain ⟨b, hbw⟩ : ∃ b, w3.heap.size = b := ⟨_, rfl⟩; have HBK := Aside0.mk (show (w3.alloc (.cells #[.int .i64 a1] 3 (0, 0))).heap[b]? = some (.cells #[.int .i64 a1] 3 (0, 0)) from by rw [← hbw]; exact blk_new w3 (.cells #[.int .i64 a1] 3 (0, 0))); have HBn := Aside0.mk (below_chain (w := wr) HB.out (below_alloc (Below.refl w3.heap.size w3) (.cells #[.int .i64 a1] 3 (0, 0)))); have HRn := Aside0.mk (Kd.R_alloc (Kd.R_mono (ok' := fun q => q ≠ b) (Kd.R_bound HR.out) (fun q hq => by have h8 := hq.2.2.1; omega)) (.cells #[.int .i64 a1] 3 (0, 0))); clear HR; have HR := HRn; clear HRn; refine value_ (by rfl) rfl (by go_simp; constructor; rfl; rfl) ?_; (try rw [hbw]); clear HB; have HB := HBn; clear HBn; refine hK.out _ _ trivial (fun hHeld => ?_); clear hK K; refine norm_ (a' := ?_) ?_ ?_; rotate_left; focus (show Act.put _ (some 39) _ = _; simp only [Act.put, List.setIfInBounds_toArray, List.set_cons_zero, List.set_cons_succ, i64_w, i32_w]; rfl)
              generalize w3.alloc (.cells #[.int .i64 a1] 3 (0, 0)) = w2 at HBK HB HR ⊢; clear hbw
              refine one_ (i := 4) (N := some 37) (bx 7 [8, 9, 10] 13) rfl rfl (one_of HT_.out (by kernel_rfl)) (by decide) (fun K hK => ?_); refine Kd.R_append_rows_step (Kd.int .i64) (w0 := wr) wr.heap.size (by rfl) (.tmp 33) (.tmp 36) 45 3 (.int .i64 0) 8 rfl Try.underlying45 info3 rfl (by decide) (by decide) (.slice A3 ([] : List Int).length d3) [] (l0.take j) _ _ _ (fun q => q ≠ b) (fun _ => False) rfl rfl HR.out (Kd.C_below HCA.out HB.out) (fun _ _ h => h) (fun _ h => h.elim) (fun q hq h => by subst h; exact absurd hq (Nat.not_le.2 (blk_lt HBK.out))) HB.out HB.out.size (by have := HL.out; have := HJ.out; simp only [List.length_nil]; omega) ?_; intro v4 w4 ho hb hg hat; rw [List.nil_append] at ho; obtain ⟨A4, d4, e4⟩ := Kd.R_slice ho; subst e4; have HBKn := Aside0.mk ((hg.block b (blk_lt HBK.out) (fun e => HR.out.1 b e.symm rfl)).trans HBK.out); clear HBK; have HBK := HBKn; clear HBKn; clear HR; have HR := Aside0.mk ho; have HBn := Aside0.mk hb; clear ho hb hg hat; clear HB; have HB := HBn; clear HBn; refine hK.out _ _ trivial (fun hHeld => ?_); clear hK K; refine norm_ (a' := ?_) ?_ ?_; rotate_left; focus (show Act.put _ (some 37) _ = _; simp only [Act.put, List.setIfInBounds_toArray, List.set_cons_zero, List.set_cons_succ, i64_w, i32_w]; rfl)
              refine one_ (i := 7) (N := some 40) (bl 11 13) rfl rfl (one_of HT_.out (by kernel_rfl)) (by decide) (fun K hK => ?_); refine Kd.R_append_rows_step (Kd.int .i64) (w0 := wr) wr.heap.size (by rfl) (.tmp 37) (.tmp 39) 45 3 (.int .i64 0) 8 rfl Try.underlying45 info3 rfl (by decide) (by decide) (.slice A4 (l0.take j).length d4) (l0.take j) [a1] _ 1 _ (fun q => q ≠ b) (fun _ => False) rfl rfl HR.out (c_one HBK.out) (fun _ _ h => h) (fun _ h => h.elim) (fun q hq h => by subst h; exact absurd hq (Nat.not_le.2 (blk_lt HBK.out))) HB.out HB.out.size (by rw [HLT.out]; have := HL.out; have := HJ.out; omega) ?_; intro v5 w5 ho hb hg hat; obtain ⟨A5, d5, e5⟩ := Kd.R_slice ho; subst e5; clear HR HBK; have HR := Aside0.mk (Kd.R_mono (ok' := fun _ => True) ho (fun _ _ => trivial)); have HBn := Aside0.mk hb; clear ho hb hg hat; clear HB; have HB := HBn; clear HBn; refine hK.out _ _ trivial (fun hHeld => ?_); clear hK K; refine norm_ (a' := ?_) ?_ ?_; rotate_left; focus (show Act.put _ (some 40) _ = _; simp only [Act.put, List.setIfInBounds_toArray, List.set_cons_zero, List.set_cons_succ, i64_w, i32_w]; rfl)
              refine one_ (i := 11) (N := some 44) (bl 12 13) rfl rfl (one_of HT_.out (by kernel_rfl)) (by decide) (fun K hK => ?_); refine Kd.R_append_rows_step (Kd.int .i64) (w0 := wr) wr.heap.size (by rfl) (.tmp 40) (.tmp 43) 45 3 (.int .i64 0) 8 rfl Try.underlying45 info3 rfl (by decide) (by decide) (.slice A5 (l0.take j ++ [a1]).length d5) (l0.take j ++ [a1]) (l0.drop j) _ _ _ (fun _ => True) (fun _ => False) rfl rfl HR.out (Kd.C_below HCB.out HB.out) (fun _ _ h => h) (fun _ h => h.elim) (fun _ _ => trivial) HB.out HB.out.size (by rw [List.length_append, HLT.out]; have := HL.out; have := HJ.out; simp only [List.length_singleton]; omega) ?_; intro v6 w6 ho hb hg hat; rw [← HP.out] at ho; obtain ⟨A6, d6, e6⟩ := Kd.R_slice ho; subst e6; clear HR; have HR := Aside0.mk ho; have HBn := Aside0.mk hb; clear ho hb hg hat; clear HB; have HB := HBn; clear HBn; refine hK.out _ _ trivial (fun hHeld => ?_); clear hK K; refine norm_ (a' := ?_) ?_ ?_; rotate_left; focus (show Act.put _ (some 44) _ = _; simp only [Act.put, List.setIfInBounds_toArray, List.set_cons_zero, List.set_cons_succ, i64_w, i32_w]; rfl)
              refine pA_ 12 (some 4) (bl 13 13) HT_.out (h := ?_)
              refine done_ (done_of HT_.out (by kernel_rfl)) ?_
              go_wp2
              go_ret
              exact ⟨_, rfl, .inr HR.out, HB.out⟩
          · obtain ⟨b, hbw⟩ : ∃ b, wz.heap.size = b := ⟨_, rfl⟩; have HBK := Aside0.mk (show (wz.alloc (.cells #[.int .i64 a1] 3 (0, 0))).heap[b]? = some (.cells #[.int .i64 a1] 3 (0, 0)) from by rw [← hbw]; exact blk_new wz (.cells #[.int .i64 a1] 3 (0, 0))); have HBn := Aside0.mk (below_chain (w := wr) HB.out (below_alloc (Below.refl wz.heap.size wz) (.cells #[.int .i64 a1] 3 (0, 0)))); refine value_ (by rfl) rfl (by go_simp; constructor; rfl; rfl) ?_; (try rw [hbw]); clear HB; have HB := HBn; clear HBn; refine hK.out _ _ trivial (fun hHeld => ?_); clear hK K; refine norm_ (a' := ?_) ?_ ?_; rotate_left; focus (show Act.put _ (some 39) _ = _; simp only [Act.put, List.setIfInBounds_toArray, List.set_cons_zero, List.set_cons_succ, i64_w, i32_w]; rfl)
            generalize wz.alloc (.cells #[.int .i64 a1] 3 (0, 0)) = w2 at HBK HB ⊢; clear hbw
            refine one_ (i := 0) (N := some 33) (bx 4 [5, 6, 8, 9, 10] 13) rfl rfl (one_of HT_.out (by kernel_rfl)) (by decide) (fun K hK => ?_); refine Kd.R_lit_step (Kd.int .i64) (w0 := wr) wr.heap.size 3 (by rfl) (N := 33) rfl (xs := ([] : List Int)) (inner := []) (ok := fun q => q ≠ b) (okp := fun _ => False) (by go_simp) (Reps.none _ _) (fun _ h => h.elim) (fun h => by have h8 := blk_lt HBK.out; omega) HB.out HB.out.size (by decide) ?_; intro v3 w3 ho hb hg hat; obtain ⟨A3, d3, e3⟩ := Kd.R_slice ho; subst e3; have HR := Aside0.mk ho; have HBn := Aside0.mk hb; have HBKn := Aside0.mk ((hg.block b (blk_lt HBK.out) (by simp)).trans HBK.out); clear HBK; have HBK := HBKn; clear HBKn; clear ho hb hg hat; clear HB; have HB := HBn; clear HBn; refine hK.out _ _ trivial (fun hHeld => ?_); clear hK K; refine norm_ (a' := ?_) ?_ ?_; rotate_left; focus (show Act.put _ (some 33) _ = _; simp only [Act.put, List.setIfInBounds_toArray, List.set_cons_zero, List.set_cons_succ, i64_w, i32_w]; rfl)
            refine one_ (i := 4) (N := some 37) (bx 7 [8, 9, 10] 13) rfl rfl (one_of HT_.out (by kernel_rfl)) (by decide) (fun K hK => ?_); refine Kd.R_append_rows_step (Kd.int .i64) (w0 := wr) wr.heap.size (by rfl) (.tmp 33) (.tmp 36) 45 3 (.int .i64 0) 8 rfl Try.underlying45 info3 rfl (by decide) (by decide) (.slice A3 ([] : List Int).length d3) [] (l0.take j) _ _ _ (fun q => q ≠ b) (fun _ => False) rfl rfl HR.out (Kd.C_below HCA.out HB.out) (fun _ _ h => h) (fun _ h => h.elim) (fun q hq h => by subst h; exact absurd hq (Nat.not_le.2 (blk_lt HBK.out))) HB.out HB.out.size (by have := HL.out; have := HJ.out; simp only [List.length_nil]; omega) ?_; intro v4 w4 ho hb hg hat; rw [List.nil_append] at ho; obtain ⟨A4, d4, e4⟩ := Kd.R_slice ho; subst e4; have HBKn := Aside0.mk ((hg.block b (blk_lt HBK.out) (fun e => HR.out.1 b e.symm rfl)).trans HBK.out); clear HBK; have HBK := HBKn; clear HBKn; clear HR; have HR := Aside0.mk ho; have HBn := Aside0.mk hb; clear ho hb hg hat; clear HB; have HB := HBn; clear HBn; refine hK.out _ _ trivial (fun hHeld => ?_); clear hK K; refine norm_ (a' := ?_) ?_ ?_; rotate_left; focus (show Act.put _ (some 37) _ = _; simp only [Act.put, List.setIfInBounds_toArray, List.set_cons_zero, List.set_cons_succ, i64_w, i32_w]; rfl)
            refine one_ (i := 7) (N := some 40) (bl 11 13) rfl rfl (one_of HT_.out (by kernel_rfl)) (by decide) (fun K hK => ?_); refine Kd.R_append_rows_step (Kd.int .i64) (w0 := wr) wr.heap.size (by rfl) (.tmp 37) (.tmp 39) 45 3 (.int .i64 0) 8 rfl Try.underlying45 info3 rfl (by decide) (by decide) (.slice A4 (l0.take j).length d4) (l0.take j) [a1] _ 1 _ (fun q => q ≠ b) (fun _ => False) rfl rfl HR.out (c_one HBK.out) (fun _ _ h => h) (fun _ h => h.elim) (fun q hq h => by subst h; exact absurd hq (Nat.not_le.2 (blk_lt HBK.out))) HB.out HB.out.size (by rw [HLT.out]; have := HL.out; have := HJ.out; omega) ?_; intro v5 w5 ho hb hg hat; obtain ⟨A5, d5, e5⟩ := Kd.R_slice ho; subst e5; clear HR HBK; have HR := Aside0.mk (Kd.R_mono (ok' := fun _ => True) ho (fun _ _ => trivial)); have HBn := Aside0.mk hb; clear ho hb hg hat; clear HB; have HB := HBn; clear HBn; refine hK.out _ _ trivial (fun hHeld => ?_); clear hK K; refine norm_ (a' := ?_) ?_ ?_; rotate_left; focus (show Act.put _ (some 40) _ = _; simp only [Act.put, List.setIfInBounds_toArray, List.set_cons_zero, List.set_cons_succ, i64_w, i32_w]; rfl)
            refine one_ (i := 11) (N := some 44) (bl 12 13) rfl rfl (one_of HT_.out (by kernel_rfl)) (by decide) (fun K hK => ?_); refine Kd.R_append_rows_step (Kd.int .i64) (w0 := wr) wr.heap.size (by rfl) (.tmp 40) (.tmp 43) 45 3 (.int .i64 0) 8 rfl Try.underlying45 info3 rfl (by decide) (by decide) (.slice A5 (l0.take j ++ [a1]).length d5) (l0.take j ++ [a1]) (l0.drop j) _ _ _ (fun _ => True) (fun _ => False) rfl rfl HR.out (Kd.C_below HCB.out HB.out) (fun _ _ h => h) (fun _ h => h.elim) (fun _ _ => trivial) HB.out HB.out.size (by rw [List.length_append, HLT.out]; have := HL.out; have := HJ.out; simp only [List.length_singleton]; omega) ?_; intro v6 w6 ho hb hg hat; rw [← HP.out] at ho; obtain ⟨A6, d6, e6⟩ := Kd.R_slice ho; subst e6; clear HR; have HR := Aside0.mk ho; have HBn := Aside0.mk hb; clear ho hb hg hat; clear HB; have HB := HBn; clear HBn; refine hK.out _ _ trivial (fun hHeld => ?_); clear hK K; refine norm_ (a' := ?_) ?_ ?_; rotate_left; focus (show Act.put _ (some 44) _ = _; simp only [Act.put, List.setIfInBounds_toArray, List.set_cons_zero, List.set_cons_succ, i64_w, i32_w]; rfl)
            refine pA_ 12 (some 4) (bl 13 13) HT_.out (h := ?_)
            refine done_ (done_of HT_.out (by kernel_rfl)) ?_
            go_wp2
            go_ret
            exact ⟨_, rfl, .inr HR.out, HB.out⟩

end Go.Proofs.Ytenphfagdpkjaaa.Q
