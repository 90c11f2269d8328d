-- Written by a program of this session (wip/xprint.py over the kit's printer).
import Derived.Test.YtlbkoejpjpcgaaaQ0
import Derived.Test.YtlbkoejpjpcgaaaQF85
import Derived.Test.YtlbkoejpjpcgaaaQP
namespace Go.Proofs.Ytlbkoejpjpcgaaa.Q
open Go.RowKit Go.Proofs.YtlbkoejpjpcgaaaW.PrintWords Go.Proofs.YtlbkoejpjpcgaaaW.PrintLast
set_option linter.unusedVariables false
set_option linter.unusedSimpArgs false

/-! ### impl_order_depths: function 95 -/
def dStep (M : Nat → Nat → Bool) (d : List Int) (i k : Nat) : List Int := if M i k then d.set k (mx (d.getD k 0) (d.getD i 0 + 1)) else d
def dRow (M : Nat → Nat → Bool) (d : List Int) (i m : Nat) : List Int := (List.range m).foldl (fun d k => dStep M d i k) d
def dRound (M : Nat → Nat → Bool) (n : Nat) (d : List Int) (m : Nat) : List Int := (List.range m).foldl (fun d i => dRow M d i n) d
def dAll (M : Nat → Nat → Bool) (n m : Nat) : List Int := (List.range m).foldl (fun d _ => dRound M n d n) (List.replicate n 0)
theorem dRow_succ (M : Nat → Nat → Bool) (d : List Int) (i m : Nat) : dRow M d i (m + 1) = dStep M (dRow M d i m) i m := by simp [dRow, List.range_succ, List.foldl_append]
theorem dRound_succ (M : Nat → Nat → Bool) (n : Nat) (d : List Int) (m : Nat) : dRound M n d (m + 1) = dRow M (dRound M n d m) m n := by simp [dRound, List.range_succ, List.foldl_append]
theorem dAll_succ (M : Nat → Nat → Bool) (n m : Nat) : dAll M n (m + 1) = dRound M n (dAll M n m) n := by simp [dAll, List.range_succ, List.foldl_append]
theorem dStep_len (M : Nat → Nat → Bool) (d : List Int) (i k : Nat) : (dStep M d i k).length = d.length := by unfold dStep; split <;> simp
theorem dRow_len (M : Nat → Nat → Bool) (d : List Int) (i m : Nat) : (dRow M d i m).length = d.length := by
  induction m with
  | zero => rfl
  | succ m ih => rw [dRow_succ, dStep_len, ih]
theorem dRound_len (M : Nat → Nat → Bool) (n : Nat) (d : List Int) (m : Nat) : (dRound M n d m).length = d.length := by
  induction m with
  | zero => rfl
  | succ m ih => rw [dRound_succ, dRow_len, ih]
theorem dAll_len (M : Nat → Nat → Bool) (n m : Nat) : (dAll M n m).length = n := by
  induction m with
  | zero => simp [dAll]
  | succ m ih => rw [dAll_succ, dRound_len, ih]
def upB (B : Nat) (d : List Int) : Prop := ∀ j, 0 ≤ d.getD j 0 ∧ d.getD j 0 ≤ (B : Int)
theorem upB_step {M : Nat → Nat → Bool} {d : List Int} {B : Nat} (h : upB B d) (i k : Nat) : upB (B + 1) (dStep M d i k) := by
  unfold dStep
  split
  · intro j
    by_cases e : j = k
    · subst e
      by_cases hl : j < d.length
      · have h1 := h j
        have h2 := h i
        have e1 : (d.set j (mx (d.getD j 0) (d.getD i 0 + 1))).getD j 0 = mx (d.getD j 0) (d.getD i 0 + 1) := by simp [List.getD_eq_getElem?_getD, hl]
        rw [e1]
        unfold mx
        split <;> omega
      · have h1 := h j
        have e1 : (d.set j (mx (d.getD j 0) (d.getD i 0 + 1))).getD j 0 = d.getD j 0 := by
          rw [List.getD_eq_getElem?_getD, List.getD_eq_getElem?_getD, List.getElem?_eq_none (by rw [List.length_set]; omega), List.getElem?_eq_none (by omega)]
        rw [e1]; omega
    · have h1 := h j
      have e1 : (d.set k (mx (d.getD k 0) (d.getD i 0 + 1))).getD j 0 = d.getD j 0 := by
        simp only [List.getD_eq_getElem?_getD, List.getElem?_set_ne (fun e2 : k = j => e e2.symm)]
      rw [e1]; omega
  · intro j; have := h j; omega
theorem upB_row {M : Nat → Nat → Bool} {d : List Int} {B : Nat} (h : upB B d) (i m : Nat) : upB (B + m) (dRow M d i m) := by
  induction m with
  | zero => exact h
  | succ m ih => rw [dRow_succ]; exact upB_step ih i m
theorem upB_round {M : Nat → Nat → Bool} {n : Nat} {d : List Int} {B : Nat} (h : upB B d) (m : Nat) : upB (B + m * n) (dRound M n d m) := by
  induction m with
  | zero => show upB (B + 0 * n) d; rw [Nat.zero_mul]; exact h
  | succ m ih =>
    rw [dRound_succ]
    have := upB_row (M := M) ih m n
    rw [show B + (m + 1) * n = B + m * n + n by rw [Nat.succ_mul]; omega]
    exact this
theorem upB_all {M : Nat → Nat → Bool} (n m : Nat) : upB (m * (n * n)) (dAll M n m) := by
  induction m with
  | zero =>
    intro j
    have : (dAll M n 0).getD j 0 = 0 := by
      simp only [dAll, List.range_zero, List.foldl_nil, List.getD_eq_getElem?_getD, List.getElem?_replicate]
      split <;> rfl
    rw [this]; simp
  | succ m ih =>
    rw [dAll_succ]
    have := upB_round (M := M) (n := n) ih n
    rw [Nat.succ_mul]
    exact this
/-- What the loops are at. -/
def dAt (M : Nat → Nat → Bool) (n r i k : Nat) : List Int := dRow M (dRound M n (dAll M n r) i) i k
theorem dAt_len (M : Nat → Nat → Bool) (n r i k : Nat) : (dAt M n r i k).length = n := by unfold dAt; rw [dRow_len, dRound_len, dAll_len]
theorem dAt_up {M : Nat → Nat → Bool} {n r i k : Nat} (hn : n ≤ 10) (hr : r ≤ n) (hi : i ≤ n) (hk : k ≤ n) : upB 2000 (dAt M n r i k) := by
  have h := upB_row (M := M) (upB_round (M := M) (n := n) (upB_all (M := M) n r) i) i k
  have h1 : n * n ≤ 10 * 10 := Nat.mul_le_mul hn hn
  have h2 : r * (n * n) ≤ 10 * (10 * 10) := Nat.mul_le_mul (by omega) (by omega)
  have h3 : i * n ≤ 10 * 10 := Nat.mul_le_mul (by omega) hn
  intro j
  have := h j
  unfold dAt
  omega
theorem dAt_row (M : Nat → Nat → Bool) (n r i : Nat) : dAt M n r i n = dAt M n r (i + 1) 0 := by
  unfold dAt
  rw [dRound_succ]
  rfl
theorem dAt_round (M : Nat → Nat → Bool) (n r : Nat) : dAt M n r n 0 = dAt M n (r + 1) 0 0 := by
  unfold dAt
  rw [dAll_succ]
  rfl
theorem dAt_succ (M : Nat → Nat → Bool) (n r i k : Nat) : dAt M n r i (k + 1) = dStep M (dAt M n r i k) i k := dRow_succ _ _ _ _
def impl_order_depths.T11 : Bool × List (List Nat × List Nat) := (true, [([], []), ([], []), ([], []), ([], []), ([2, 3], [2, 3]), ([4], [4]), ([], []), ([], []), ([6, 7], [6, 7]), ([8], [8]), ([9], [9]), ([5, 10], [5, 10]), ([0, 1, 0, 1, 2, 3, 4, 5, 6, 7, 8, 9, 10, 11], [0, 1]), ([12, 11, 0, 1, 2, 3, 4, 5, 6, 7, 8, 9, 10, 11], [11, 12])])
def impl_order_depths.B11 : List Nat := [0, 0, 0, 0, 12, 28, 0, 0, 192, 448, 960, 2044, 4095, 8191]
theorem impl_order_depths.tab11 : rtab .any (opsOf Try.f95 11) = impl_order_depths.T11 := by kernel_rfl
theorem impl_order_depths.bits11 : waitsOk impl_order_depths.T11.2 impl_order_depths.B11 = true := by kernel_rfl
set_option maxHeartbeats 8000000 in
set_option maxRecDepth 100000 in
theorem impl_order_depths.calls (w0 : World) (p N1 N2 n : Nat) (A : Option Addr) (c : Nat) (ns : List Int) (M1 M2 : Nat → Nat → Bool) (w : World) (H : OrdIn w0 w p N1 N2 n (.slice A n c) ns M1 M2) (h10 : n ≤ 10) :
    Calls Try.prog 95 #[.pointer (some ⟨p, 0, none⟩)] w fun e w' => ∃ v : Value, e = .returned v ∧ Kd.R (Kd.int .i64) 3 w' w.heap.size (fun _ => True) v (dAll M1 n n) ∧ Below w.heap.size w w' := by
  have HO := Aside0.mk H
  have HN := Aside0.mk h10
  clear H
  have g0 := HO.out.c0
  go_enter Try.func95, Try.ntmps95
  go_upto_region 2 with ((with_reducible refine gate_dst (N := 11) rfl ?_); refine Kd.R_make (Kd.int .i64) (w0 := w) w.heap.size 3 rfl (N := 11) rfl 54 (.tmp 10) (.tmp 10) rfl (n : Int) rfl rfl Try.underlying54 (.int .i64 0) 8 info3 rfl (by decide) (by omega) (0 : Int) (okp := fun _ => False) rfl (fun _ hk => hk.elim) (ok := fun _ => True) trivial (by omega) (by rw [Int.toNat_natCast]; omega) (Below.refl _ _) (Nat.le_refl _) ?_; intro v0 w1 ho hb hg_ hnew_; clear hg_ hnew_; rw [Int.toNat_natCast] at ho; have HR := Aside0.mk ho; have HB := Aside0.mk hb; have g0 := pw_cell_below hb g0; clear ho hb)
  obtain ⟨D, d, hv0, hd, hC⟩ := Kd.R_reads HR.out
  rw [List.length_replicate] at hv0
  subst hv0
  clear hd hC
  have HR := Aside0.mk (show Kd.R (Kd.int .i64) 3 w1 w.heap.size (fun _ => True) (.slice D n d) (dAt M1 n 0 0 0) from HR.out)
  go_wp2
  clear g0
  go_loopg [17] n (fun gg s17 wr => ∃ r : Nat, r ≤ n ∧ n - r ≤ gg ∧ s17 = .int .i64 r ∧ Aside0 (Below w.heap.size w wr) ∧ Aside0 (Kd.R (Kd.int .i64) 3 wr w.heap.size (fun _ => True) (.slice D n d) (dAt M1 n r 0 0)))
  case atStart => exact ⟨0, Nat.zero_le _, by omega, rfl, HB, HR⟩
  case round =>
    clear HR HB
    obtain ⟨r, hr, hgg, rfl, HB, HR⟩ := hrel
    by_cases hrl : r < n
    · have hrlz : (r : Int) < (n : Int) := by omega
      have g0 := (HO.out.step HB.out).c0
      go_wp2
      clear g0
      go_loopg [4, 24] n (fun gg _ s24 wr => ∃ i : Nat, i ≤ n ∧ n - i ≤ gg ∧ s24 = .int .i64 i ∧ Aside0 (Below w.heap.size w wr) ∧ Aside0 (Kd.R (Kd.int .i64) 3 wr w.heap.size (fun _ => True) (.slice D n d) (dAt M1 n r i 0)))
      case atStart => exact ⟨0, Nat.zero_le _, by omega, rfl, HB, HR⟩
      case round =>
        clear HR HB
        obtain ⟨i, hi, hgg2, rfl, HB, HR⟩ := hrel
        by_cases hil : i < n
        · have hilz : (i : Int) < (n : Int) := by omega
          have g0 := (HO.out.step HB.out).c0
          go_wp2
          clear g0
          go_loopg [5, 32] n (fun gg _ s32 wr => ∃ k : Nat, k ≤ n ∧ n - k ≤ gg ∧ s32 = .int .i64 k ∧ Aside0 (Below w.heap.size w wr) ∧ Aside0 (Kd.R (Kd.int .i64) 3 wr w.heap.size (fun _ => True) (.slice D n d) (dAt M1 n r i k)))
          case atStart => exact ⟨0, Nat.zero_le _, by omega, rfl, HB, HR⟩
          case round =>
            clear HR HB
            obtain ⟨k, hk, hgg3, rfl, HB, HR⟩ := hrel
            by_cases hkl : k < n
            · have hklz : (k : Int) < (n : Int) := by omega
              have g1 := (HO.out.step HB.out).c1
              have g2 := (HO.out.step HB.out).m1.topc hil
              have g3 := (HO.out.step HB.out).m1.cell hil hkl
              have HST := dAt_succ M1 n r i k
              unfold dStep at HST
              cases hm : M1 i k with
              | false =>
                rw [hm] at g3 HST
                rw [if_neg (by simp)] at HST
                have HSA := Aside0.mk HST
                clear hm HST
                go_wp2
                go_roundg (n - (k + 1))
                case measure => omega
                case rel => exact ⟨k + 1, by omega, by omega, by first | go_num | exact congrArg (Value.int .i64) (wrap_succ k (by omega)), HB, ⟨by rw [HSA.out]; exact HR.out⟩⟩
              | true =>
                rw [hm] at g3 HST
                rw [if_pos rfl] at HST
                obtain ⟨dk, hdk⟩ : ∃ x, (dAt M1 n r i k).getD k 0 = x := ⟨_, rfl⟩
                obtain ⟨di, hdi⟩ : ∃ x, (dAt M1 n r i k).getD i 0 = x := ⟨_, rfl⟩
                have hup := dAt_up (M := M1) HN.out hr hi hk
                have hu1 := hup k
                have hu2 := hup i
                rw [hdk] at hu1
                rw [hdi] at hu2
                rw [hdk, hdi] at HST
                have hlen := dAt_len M1 n r i k
                obtain ⟨gg0, cap, hv, hcap, hbase, hglt, hok⟩ := R_form HR.out (by omega)
                injection hv with hv1 hv2 hv3
                subst hv1; subst hv3
                have HRl : Kd.R (Kd.int .i64) 3 wr w.heap.size (fun _ => True) (.slice (some ⟨gg0, 0, none⟩) (dAt M1 n r i k).length d) (dAt M1 n r i k) := by rw [hlen]; exact HR.out
                have q1 := Kd.R_cell (0 : Int) HRl (k : Int) (by omega) (by omega)
                have q2 := Kd.R_cell (0 : Int) HRl (i : Int) (by omega) (by omega)
                have q3 := Kd.R_put HRl (k : Int) (mx dk (di + 1))
                simp only [Int.toNat_natCast, rdOf] at q1 q2 q3
                rw [hdk] at q1
                rw [hdi] at q2
                rw [← HST, hlen] at q3
                have hm1 : wrap64 (di + 1) = di + 1 := by unfold wrap64; omega
                have HMX := Aside0.mk (show (if dk < di + 1 then di + 1 else dk) = mx dk (di + 1) from rfl)
                have HBS := Aside0.mk hbase
                have HS0 := Aside0.mk (show (fun w' : World => w'.cell? ⟨gg0, k, none⟩ = some (.int .i64 dk) ∧ w'.cell? ⟨gg0, i, none⟩ = some (.int .i64 di) ∧ w'.frozen? ⟨gg0, k, none⟩ = false ∧ Aside0 (Below w.heap.size w w') ∧ Aside0 (Kd.R (Kd.int .i64) 3 (w'.setCell ⟨gg0, k, none⟩ (.int .i64 (mx dk (di + 1)))) w.heap.size (fun _ => True) (.slice (some ⟨gg0, 0, none⟩) n d) (dAt M1 n r i (k + 1)))) wr.drew from ⟨q1.1, q2.1, q1.2, ⟨below_drew1 HB.out⟩, ⟨q3.1⟩⟩)
                have HM1 := Aside0.mk hm1
                clear hm HST hup hu1 hu2 hdk hdi hlen HRl q1 q2 q3 hv2 hok hcap hbase hglt HB HR hm1
                go_upto_region 11 with (fail)
                have hm1 := HM1.out
                all_goals refine start_ (n := 14) (S := (fun w' => w'.cell? ⟨gg0, k, none⟩ = some (.int .i64 dk) ∧ w'.cell? ⟨gg0, i, none⟩ = some (.int .i64 di) ∧ w'.frozen? ⟨gg0, k, none⟩ = false ∧ Aside0 (Below w.heap.size w w') ∧ Aside0 (Kd.R (Kd.int .i64) 3 (w'.setCell ⟨gg0, k, none⟩ (.int .i64 (mx dk (di + 1)))) w.heap.size (fun _ => True) (.slice (some ⟨gg0, 0, none⟩) n d) (dAt M1 n r i (k + 1))))) (ds := [13]) (bl 0 14) (by kernel_rfl) rfl rfl HS0.out (fun hHeld => ?_); refine with_tabW impl_order_depths.tab11 impl_order_depths.bits11 (fun HT_ HW_ => ?_)
                all_goals generalize wr.drew = wv at hHeld ⊢
                all_goals first | refine pA_ 0 (some 45) (bl 1 14) HT_.out (h := ?_) | refine pO_ 0 (some 45) (bl 1 14) HT_.out (h := ?_)
                all_goals first | refine pA_ 1 (some 46) (bl 2 14) HT_.out (h := ?_) | refine pO_ 1 (some 46) (bl 2 14) HT_.out (h := ?_)
                all_goals first | refine pA_ 2 (some 47) (bl 3 14) HT_.out (h := ?_) | refine pO_ 2 (some 47) (bl 3 14) HT_.out (h := ?_)
                all_goals first | refine pA_ 3 (some 48) (bl 4 14) HT_.out (h := ?_) | refine pO_ 3 (some 48) (bl 4 14) HT_.out (h := ?_)
                all_goals first | refine pA_ 4 (some 49) (bl 5 14) HT_.out (h := ?_) | refine pO_ 4 (some 49) (bl 5 14) HT_.out (h := ?_)
                all_goals first | refine pA_ 6 (some 51) (bx 5 [6] 14) HT_.out (h := ?_) | refine pO_ 6 (some 51) (bx 5 [6] 14) HT_.out (h := ?_)
                all_goals first | refine pA_ 7 (some 52) (bx 5 [6, 7] 14) HT_.out (h := ?_) | refine pO_ 7 (some 52) (bx 5 [6, 7] 14) HT_.out (h := ?_)
                all_goals first | refine pA_ 8 (some 53) (bx 5 [6, 7, 8] 14) HT_.out (h := ?_) | refine pO_ 8 (some 53) (bx 5 [6, 7, 8] 14) HT_.out (h := ?_)
                all_goals first | refine tA_ 5 (some 50) (bl 9 14) HT_.out HW_.out hHeld (h := ?_) | refine pO_ 5 (some 50) (bl 9 14) HT_.out (h := ?_)
                all_goals first | refine tA_ 9 (some 54) (bl 10 14) HT_.out HW_.out hHeld (h := ?_) | refine pO_ 9 (some 54) (bl 10 14) HT_.out (h := ?_)
                all_goals first | refine pA_ 10 (some 55) (bl 11 14) HT_.out (h := ?_) | refine pO_ 10 (some 55) (bl 11 14) HT_.out (h := ?_)
                all_goals first | refine pA_ 11 (some 56) (bl 12 14) HT_.out (h := ?_) | refine pO_ 11 (some 56) (bl 12 14) HT_.out (h := ?_)
                all_goals first | refine pA_ 12 (some 57) (bl 13 14) HT_.out (h := ?_) | refine pO_ 12 (some 57) (bl 13 14) HT_.out (h := ?_)
                all_goals (refine last_ (i := 13) (N := none) (bl 14 14) rfl rfl (one_of HT_.out (by kernel_rfl)) (by decide) (fun K hK => ?_); refine skip_ (by rfl) rfl (by go_simp; rfl) ?_; refine hK.out _ _ ?_; clear hK K)
                all_goals refine done_ (done_of HT_.out (by kernel_rfl)) ?_
                have HB := hHeld.2.2.2.1
                have HR := hHeld.2.2.2.2
                clear hHeld hm1
                rw [show (if dk < di + 1 then di + 1 else dk) = mx dk (di + 1) from rfl]
                have HB5 := Aside0.mk (below_set HB.out (g := gg0) (j := k) (v := .int .i64 (mx dk (di + 1))) HBS.out)
                clear HB
                go_wp2
                go_roundg (n - (k + 1))
                case measure => omega
                case rel => exact ⟨k + 1, by omega, by omega, by first | go_num | exact congrArg (Value.int .i64) (wrap_succ k (by omega)), HB5, HR⟩
            · obtain rfl : k = n := by omega
              have hkz : ¬ ((k : Int) < (k : Int)) := by omega
              rw [dAt_row] at HR
              go_wp2
              go_roundg (k - (i + 1))
              case measure => omega
              case rel => exact ⟨i + 1, by omega, by omega, by first | go_num | exact congrArg (Value.int .i64) (wrap_succ i (by omega)), HB, HR⟩
        · obtain rfl : i = n := by omega
          have hkz : ¬ ((i : Int) < (i : Int)) := by omega
          rw [dAt_round] at HR
          go_wp2
          go_roundg (i - (r + 1))
          case measure => omega
          case rel => exact ⟨r + 1, by omega, by omega, by first | go_num | exact congrArg (Value.int .i64) (wrap_succ r (by omega)), HB, HR⟩
    · obtain rfl : r = n := by omega
      have hkz : ¬ ((r : Int) < (r : Int)) := by omega
      go_wp2
      go_ret
      exact ⟨_, rfl, HR.out, HB.out⟩

end Go.Proofs.Ytlbkoejpjpcgaaa.Q
