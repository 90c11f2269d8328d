-- Written by a program of this session (wip/xprint.py over the kit's printer).
import Derived.Test.YtdiejmhphhdcfaaQ0
import Derived.Test.YtdiejmhphhdcfaaQF128
import Derived.Test.YtdiejmhphhdcfaaQF131
import Derived.Test.YtdiejmhphhdcfaaQF61
import Derived.Test.YtdiejmhphhdcfaaQF67
import Derived.Test.YtdiejmhphhdcfaaQF76
import Derived.Test.YtdiejmhphhdcfaaQF79
import Derived.Test.YtdiejmhphhdcfaaQF90
import Derived.Test.YtdiejmhphhdcfaaQF91
import Derived.Test.YtdiejmhphhdcfaaQP
namespace Go.Proofs.Ytdiejmhphhdcfaa.Q
open Go.RowKit Go.Proofs.YtdiejmhphhdcfaaW.PrintWords Go.Proofs.YtdiejmhphhdcfaaW.PrintLast
set_option linter.unusedVariables false
set_option linter.unusedSimpArgs false

/-! ### impl_LongestChain: function 42 -/
def bStep (M : Nat → Nat → Bool) (d : List Int) (i k : Nat) : List Int := if M i k then d.set i (mx (d.getD i 0) (d.getD k 0 + 1)) else d
def bRow (M : Nat → Nat → Bool) (d : List Int) (i m : Nat) : List Int := (List.range m).foldl (fun d k => bStep M d i k) d
def bRound (M : Nat → Nat → Bool) (n : Nat) (d : List Int) (m : Nat) : List Int := (List.range m).foldl (fun d i => bRow M d i n) d
def bAll (M : Nat → Nat → Bool) (n m : Nat) : List Int := (List.range m).foldl (fun d _ => bRound M n d n) (List.replicate n 0)
theorem bRow_succ (M : Nat → Nat → Bool) (d : List Int) (i m : Nat) : bRow M d i (m + 1) = bStep M (bRow M d i m) i m := by simp [bRow, List.range_succ, List.foldl_append]
theorem bRound_succ (M : Nat → Nat → Bool) (n : Nat) (d : List Int) (m : Nat) : bRound M n d (m + 1) = bRow M (bRound M n d m) m n := by simp [bRound, List.range_succ, List.foldl_append]
theorem bAll_succ (M : Nat → Nat → Bool) (n m : Nat) : bAll M n (m + 1) = bRound M n (bAll M n m) n := by simp [bAll, List.range_succ, List.foldl_append]
theorem bStep_len (M : Nat → Nat → Bool) (d : List Int) (i k : Nat) : (bStep M d i k).length = d.length := by unfold bStep; split <;> simp
theorem bRow_len (M : Nat → Nat → Bool) (d : List Int) (i m : Nat) : (bRow M d i m).length = d.length := by
  induction m with
  | zero => rfl
  | succ m ih => rw [bRow_succ, bStep_len, ih]
theorem bRound_len (M : Nat → Nat → Bool) (n : Nat) (d : List Int) (m : Nat) : (bRound M n d m).length = d.length := by
  induction m with
  | zero => rfl
  | succ m ih => rw [bRound_succ, bRow_len, ih]
theorem bAll_len (M : Nat → Nat → Bool) (n m : Nat) : (bAll M n m).length = n := by
  induction m with
  | zero => simp [bAll]
  | succ m ih => rw [bAll_succ, bRound_len, ih]
theorem upC_step {M : Nat → Nat → Bool} {d : List Int} {B : Nat} (h : upB B d) (i k : Nat) : upB (B + 1) (bStep M d i k) := by
  have := upB_step (M := fun _ _ => true) h k i
  unfold bStep
  split
  · simpa [dStep] using this
  · intro j; have := h j; omega
theorem upC_row {M : Nat → Nat → Bool} {d : List Int} {B : Nat} (h : upB B d) (i m : Nat) : upB (B + m) (bRow M d i m) := by
  induction m with
  | zero => exact h
  | succ m ih => rw [bRow_succ]; exact upC_step ih i m
theorem upC_round {M : Nat → Nat → Bool} {n : Nat} {d : List Int} {B : Nat} (h : upB B d) (m : Nat) : upB (B + m * n) (bRound M n d m) := by
  induction m with
  | zero => show upB (B + 0 * n) d; rw [Nat.zero_mul]; exact h
  | succ m ih =>
    rw [bRound_succ]
    have := upC_row (M := M) ih m n
    rw [show B + (m + 1) * n = B + m * n + n by rw [Nat.succ_mul]; omega]
    exact this
theorem upC_all {M : Nat → Nat → Bool} (n m : Nat) : upB (m * (n * n)) (bAll M n m) := by
  induction m with
  | zero =>
    intro j
    have : (bAll M n 0).getD j 0 = 0 := by
      simp only [bAll, List.range_zero, List.foldl_nil, List.getD_eq_getElem?_getD, List.getElem?_replicate]
      split <;> rfl
    rw [this]; simp
  | succ m ih =>
    rw [bAll_succ]
    have := upC_round (M := M) (n := n) ih n
    rw [Nat.succ_mul]
    exact this
/-- What the loops are at. -/
def bAt (M : Nat → Nat → Bool) (n r i k : Nat) : List Int := bRow M (bRound M n (bAll M n r) i) i k
theorem bAt_len (M : Nat → Nat → Bool) (n r i k : Nat) : (bAt M n r i k).length = n := by unfold bAt; rw [bRow_len, bRound_len, bAll_len]
theorem bAt_up {M : Nat → Nat → Bool} {n r i k : Nat} (hn : n ≤ 10) (hr : r ≤ n) (hi : i ≤ n) (hk : k ≤ n) : upB 2000 (bAt M n r i k) := by
  have h := upC_row (M := M) (upC_round (M := M) (n := n) (upC_all (M := M) n r) i) i k
  have h1 : n * n ≤ 10 * 10 := Nat.mul_le_mul hn hn
  have h2 : r * (n * n) ≤ 10 * (10 * 10) := Nat.mul_le_mul (by omega) (by omega)
  have h3 : i * n ≤ 10 * 10 := Nat.mul_le_mul (by omega) hn
  intro j
  have := h j
  unfold bAt
  omega
theorem bAt_row (M : Nat → Nat → Bool) (n r i : Nat) : bAt M n r i n = bAt M n r (i + 1) 0 := by
  unfold bAt
  rw [bRound_succ]
  rfl
theorem bAt_round (M : Nat → Nat → Bool) (n r : Nat) : bAt M n r n 0 = bAt M n (r + 1) 0 0 := by
  unfold bAt
  rw [bAll_succ]
  rfl
theorem bAt_succ (M : Nat → Nat → Bool) (n r i k : Nat) : bAt M n r i (k + 1) = bStep M (bAt M n r i k) i k := bRow_succ _ _ _ _
def nxtB (M : Nat → Nat → Bool) (d : List Int) (a k : Nat) : Bool := M a k && (d.getD k 0 == d.getD a 0 - 1)
def stepOk (n : Nat) (M : Nat → Nat → Bool) (d : List Int) : Bool := (List.range n).all fun a => decide (d.getD a 0 ≤ 0) || (List.range n).any fun k => nxtB M d a k
def nxt (n : Nat) (M : Nat → Nat → Bool) (d : List Int) (a : Nat) : Nat := ((List.range n).find? (nxtB M d a)).getD a
def lcT (cs : List S86) (n : Nat) (M : Nat → Nat → Bool) (d : List Int) : Nat → Nat → List Int
  | 0, _ => []
  | v + 1, a => (cs.getD (nxt n M d a) z86).f0 :: lcT cs n M d v (nxt n M d a)
theorem lcT_len (cs : List S86) (n : Nat) (M : Nat → Nat → Bool) (d : List Int) (v : Nat) : ∀ a, (lcT cs n M d v a).length = v := by
  induction v with
  | zero => intro a; rfl
  | succ v ih => intro a; simp [lcT, ih]
theorem nxt_hit {n k a : Nat} {M : Nat → Nat → Bool} {d : List Int} (hk : k < n) (h : nxtB M d a k = true) (hb : ∀ j, j < k → nxtB M d a j = false) : nxt n M d a = k := by
  have : (List.range n).find? (nxtB M d a) = some k := by
    rw [List.find?_eq_some_iff_getElem]
    refine ⟨h, k, by simpa using hk, by simp, fun j hj => ?_⟩
    simp [hb j hj]
  unfold nxt
  rw [this]
  rfl
theorem stepOk_no {n a : Nat} {M : Nat → Nat → Bool} {d : List Int} (h : stepOk n M d = true) (ha : a < n) (hp : 0 < d.getD a 0) (hb : ∀ j, j < n → nxtB M d a j = false) : False := by
  unfold stepOk at h
  rw [List.all_eq_true] at h
  have h1 := h a (List.mem_range.2 ha)
  rw [Bool.or_eq_true] at h1
  rcases h1 with h1 | h1
  · have := of_decide_eq_true h1; omega
  · rw [List.any_eq_true] at h1
    obtain ⟨k, hk, h2⟩ := h1
    rw [hb k (List.mem_range.1 hk)] at h2
    cases h2
theorem maxTo_mem (l : List Int) (k : Nat) : ∃ j, j ≤ k ∧ maxTo l k = l.getD j 0 := by
  induction k with
  | zero => exact ⟨0, Nat.le_refl _, rfl⟩
  | succ k ih =>
    obtain ⟨j, hj, e⟩ := ih
    simp only [maxTo]
    unfold mx
    split
    · exact ⟨k + 1, Nat.le_refl _, rfl⟩
    · exact ⟨j, by omega, e⟩
def topI (d : List Int) : Nat := (idxI (fun y => maxTo d (d.length - 1) == y) d).toNat
theorem topI_at (d : List Int) (h : 0 < d.length) : idxI (fun y => maxTo d (d.length - 1) == y) d = (topI d : Int) ∧ topI d < d.length := by
  have hr := idxI_range (fun y => maxTo d (d.length - 1) == y) d
  have hn : idxI (fun y => maxTo d (d.length - 1) == y) d ≠ -1 := by
    intro e
    obtain ⟨j, hj, e2⟩ := maxTo_mem d (d.length - 1)
    have hl : j < d.length := by omega
    have := idxI_all _ 0 d e (d.getD j 0) (by rw [List.getD_eq_getElem?_getD, List.getElem?_eq_getElem hl]; exact List.getElem_mem hl)
    simp [e2] at this
  unfold topI
  omega
def longL (cs : List S86) (M : Nat → Nat → Bool) (d : List Int) : List Int := (cs.getD (topI d) z86).f0 :: lcT cs cs.length M d (d.getD (topI d) 0).toNat (topI d)
def impl_LongestChain.f (l0_0 : List S86) (l0_1 : List S95) : Option (List Int × Bool) :=
  if goodB l0_0 l0_1 && consB l0_0.length (lat l0_0 l0_1) then
    (if stepOk l0_0.length (abv l0_0 l0_1) (bAll (abv l0_0 l0_1) l0_0.length l0_0.length) then some (if l0_0.length = 0 then [] else longL l0_0 (abv l0_0 l0_1) (bAll (abv l0_0 l0_1) l0_0.length l0_0.length), true) else none)
  else some ([], false)
def impl_LongestChain.T15 : Bool × List (List Nat × List Nat) := (true, [([], []), ([], []), ([], []), ([], []), ([2, 3], [2, 3]), ([4], [4]), ([], []), ([], []), ([6, 7], [6, 7]), ([8], [8]), ([9], [9]), ([5, 10], [5, 10]), ([0, 1, 0, 1, 2, 3, 4, 5, 6, 7, 8, 9, 10, 11], [0, 1]), ([12, 11, 0, 1, 2, 3, 4, 5, 6, 7, 8, 9, 10, 11], [11, 12])])
def impl_LongestChain.B15 : List Nat := [0, 0, 0, 0, 12, 28, 0, 0, 192, 448, 960, 2044, 4095, 8191]
theorem impl_LongestChain.tab15 : rtab .any (opsOf Try.f42 15) = impl_LongestChain.T15 := by kernel_rfl
theorem impl_LongestChain.bits15 : waitsOk impl_LongestChain.T15.2 impl_LongestChain.B15 = true := by kernel_rfl
def impl_LongestChain.T28 : Bool × List (List Nat × List Nat) := (true, [([], []), ([0], [0]), ([1], [1]), ([2], [2]), ([], []), ([3, 4], [3, 4]), ([5], [5]), ([], []), ([6, 7], [6, 7]), ([8], [8]), ([9], [9]), ([10], [10]), ([10], [10]), ([11, 12, 10], [10, 11, 12]), ([13, 10], [10, 13]), ([10], [10]), ([10], [10]), ([15, 16, 10], [10, 15, 16]), ([17, 10], [10, 17]), ([18, 10], [10, 18]), ([14, 19, 10], [10, 14, 19]), ([10, 20], [10, 20])])
def impl_LongestChain.B28 : List Nat := [0, 1, 3, 7, 0, 31, 63, 0, 255, 511, 1023, 2047, 2047, 8191, 16383, 2047, 2047, 100351, 231423, 493567, 1048575, 2097151]
theorem impl_LongestChain.tab28 : rtab .any (opsOf Try.f42 28) = impl_LongestChain.T28 := by kernel_rfl
theorem impl_LongestChain.bits28 : waitsOk impl_LongestChain.T28.2 impl_LongestChain.B28 = true := by kernel_rfl
set_option maxHeartbeats 16000000 in
set_option maxRecDepth 100000 in
theorem impl_LongestChain.calls (A0_0 : Option Addr) (c0_0 : Nat) (l0_0 : List S86) (A0_1 : Option Addr) (c0_1 : Nat) (l0_1 : List S95) (r1 : List Int) (r2 : Bool) (w : World) (hr0_0 : Kd.C k86 w A0_0 l0_0.length l0_0) (hc0_0 : l0_0.length ≤ c0_0) (hr0_1 : Kd.C k95 w A0_1 l0_1.length l0_1) (hc0_1 : l0_1.length ≤ c0_1) (h : impl_LongestChain.f l0_0 l0_1 = some (r1, r2)) :
    Calls Try.prog 42 #[.agg #[.slice A0_0 l0_0.length c0_0, .slice A0_1 l0_1.length c0_1]] w fun e w' => ∃ v0_ : Value, e = .returned (.tuple #[v0_, .bool r2]) ∧ Kd.R (Kd.int .i64) 3 w' w.heap.size (fun _ => True) v0_ r1 ∧ Below w.heap.size w w' := by
  have H := h
  unfold impl_LongestChain.f at H
  clear h
  have HR0 := Aside0.mk hr0_0
  have HR1 := Aside0.mk hr0_1
  have HC0 := Aside0.mk hc0_0
  have HC1 := Aside0.mk hc0_1
  clear hr0_0 hr0_1 hc0_0 hc0_1
  obtain ⟨wb, hwb⟩ : ∃ wb, (w).alloc (.cells #[.slice A0_0 l0_0.length c0_0, .slice A0_1 l0_1.length c0_1] 33 (0, 0)) = wb := ⟨_, rfl⟩
  have HBw := Aside0.mk (show Below w.heap.size w wb from by rw [← hwb]; repeat (first | exact Below.refl _ _ | apply below_alloc))
  have HWB := HBw
  have hhr : wb.heap[w.heap.size]? = some (.cells #[.slice A0_0 l0_0.length c0_0, .slice A0_1 l0_1.length c0_1] 33 (0, 0)) := by rw [← hwb]; have h := blk_new (w) (.cells #[.slice A0_0 l0_0.length c0_0, .slice A0_1 l0_1.length c0_1] 33 (0, 0)); rw [show (w).heap.size = w.heap.size from by rfl] at h; exact h
  have hb0 : wb.cell? ⟨w.heap.size, 0, none⟩ = some (.slice A0_0 l0_0.length c0_0) := (blk_cell hhr 0).trans rfl
  have hb1 : wb.cell? ⟨w.heap.size, 1, none⟩ = some (.slice A0_1 l0_1.length c0_1) := (blk_cell hhr 1).trans rfl
  have hbs : w.heap.size < wb.heap.size := blk_lt hhr
  have HW := Aside0.mk hwb
  clear hwb hhr
  obtain ⟨b, hb⟩ : ∃ b, goodB l0_0 l0_1 = b := ⟨_, rfl⟩
  rw [hb] at H
  have HGB := Aside0.mk hb
  cases b with
  | false =>
    clear hb
    have H := Option.some.inj H
    injection H with H1 H2
    subst H1; subst H2
    go_enter Try.func42, Try.ntmps42
    go_upto_region 1 with (fail)
    try rw [HW.out]
    clear HW
    go_wp2_with (go_at_call 79; (refine (impl_readConsistent.bad _ _ l0_0 _ _ l0_1 _ (Kd.C_below HR0.out (by repeat (first | exact HBw.out | exact Below.refl _ _ | apply below_alloc | apply pw_below_drewN | apply below_drew1))) HC0.out (Kd.C_below HR1.out (by repeat (first | exact HBw.out | exact Below.refl _ _ | apply below_alloc | apply pw_below_drewN | apply below_drew1))) HC1.out HGB.out).mono ?_); rintro e w1 ⟨rfl, hb⟩; have HBw : Aside0 (Below w.heap.size w w1) := Aside0.mk (below_chain (w := w) (by repeat (first | exact HBw.out | exact Below.refl _ _ | apply below_alloc | apply pw_below_drewN | apply below_drew1)) hb); have hb0 := pw_cell_below hb hb0; clear hb)
    go_ret2
    exact ⟨_, rfl, Kd.R_nil _ _ _ _ _, (by repeat (first | exact HBw.out | exact Below.refl _ _ | apply below_alloc | apply pw_below_drewN | apply below_drew1))⟩
  | true =>
    have HG := Aside0.mk (goodB_parts hb)
    clear hb
    obtain ⟨b2, hb2⟩ : ∃ b, consB l0_0.length (lat l0_0 l0_1) = b := ⟨_, rfl⟩
    rw [hb2] at H
    have HCB := Aside0.mk hb2
    clear hb2
    cases b2 with
    | false =>
      have H := Option.some.inj H
      injection H with H1 H2
      subst H1; subst H2
      go_enter Try.func42, Try.ntmps42
      go_upto_region 1 with (fail)
      try rw [HW.out]
      clear HW
      go_wp2_with (go_at_call 79; (refine (impl_readConsistent.calls _ _ l0_0 _ _ l0_1 _ (Kd.C_below HR0.out (by repeat (first | exact HBw.out | exact Below.refl _ _ | apply below_alloc | apply pw_below_drewN | apply below_drew1))) HC0.out (Kd.C_below HR1.out (by repeat (first | exact HBw.out | exact Below.refl _ _ | apply below_alloc | apply pw_below_drewN | apply below_drew1))) HC1.out HGB.out).mono ?_); rintro e w1 ⟨p, rfl, N1, N2, A, c, HO⟩; rw [HCB.out]; have hb := HO.below; have HBw : Aside0 (Below w.heap.size w w1) := Aside0.mk (below_chain (w := w) (by repeat (first | exact HBw.out | exact Below.refl _ _ | apply below_alloc | apply pw_below_drewN | apply below_drew1)) hb); have hb0 := pw_cell_below hb hb0; clear hb HO)
      go_ret2
      exact ⟨_, rfl, Kd.R_nil _ _ _ _ _, (by repeat (first | exact HBw.out | exact Below.refl _ _ | apply below_alloc | apply pw_below_drewN | apply below_drew1))⟩
    | true =>
      rw [if_pos (by rfl)] at H
      obtain ⟨b3, hb3⟩ : ∃ b, stepOk l0_0.length (abv l0_0 l0_1) (bAll (abv l0_0 l0_1) l0_0.length l0_0.length) = b := ⟨_, rfl⟩
      rw [hb3] at H
      cases b3 with
      | false => exact absurd H (by simp)
      | true =>
      rw [if_pos rfl] at H
      have H := Option.some.inj H
      injection H with H1 H2
      subst H2
      have HR1_ := Aside0.mk H1
      have HSO := Aside0.mk hb3
      clear H1 hb3
      go_enter Try.func42, Try.ntmps42
      go_upto_region 1 with (fail)
      try rw [HW.out]
      clear HW
      go_upto_region 4 with (go_at_call 79; (refine (impl_readConsistent.calls _ _ l0_0 _ _ l0_1 _ (Kd.C_below HR0.out (by repeat (first | exact HBw.out | exact Below.refl _ _ | apply below_alloc | apply pw_below_drewN | apply below_drew1))) HC0.out (Kd.C_below HR1.out (by repeat (first | exact HBw.out | exact Below.refl _ _ | apply below_alloc | apply pw_below_drewN | apply below_drew1))) HC1.out HGB.out).mono ?_); rintro e w1 ⟨p, rfl, N1, N2, A, c, HO⟩; rw [HCB.out]; have hb := HO.below; have HBw : Aside0 (Below w.heap.size w w1) := Aside0.mk (below_chain (w := w) (by repeat (first | exact HBw.out | exact Below.refl _ _ | apply below_alloc | apply pw_below_drewN | apply below_drew1)) hb); have hb0 := pw_cell_below hb hb0; have HOA := Aside0.mk HO; clear hb HO)
      clear hb0
      generalize hM : abv l0_0 l0_1 = M at HOA HR1_ HSO ⊢
      clear hM
      have g0 := HOA.out.c0
      have HN := Aside0.mk HG.out.1
      go_upto_region 6 with ((with_reducible refine gate_dst (N := 26) rfl ?_); refine Kd.R_make (Kd.int .i64) (w0 := w1) w1.heap.size 3 rfl (N := 26) rfl 27 (.tmp 25) (.tmp 25) rfl (l0_0.length : Int) rfl rfl Try.underlying27 (.int .i64 0) 8 info3 rfl (by decide) (by omega) (0 : Int) (okp := fun _ => False) rfl (fun _ hk => hk.elim) (ok := fun _ => True) trivial (by omega) (by rw [Int.toNat_natCast]; have := HN.out; omega) (Below.refl _ _) (Nat.le_refl _) ?_; intro v0 w2 ho hb hg_ hnew_; clear hg_ hnew_; rw [Int.toNat_natCast] at ho; have HR := Aside0.mk ho; have HB := Aside0.mk hb; have g0 := pw_cell_below hb g0; clear ho hb)
      obtain ⟨D, d, hv0, hd, hC⟩ := Kd.R_reads HR.out
      rw [List.length_replicate] at hv0
      subst hv0
      rw [List.length_replicate] at hd
      have HDC := Aside0.mk hd
      clear hd hC g0
      replace HR := Aside0.mk (show Kd.R (Kd.int .i64) 3 w2 w1.heap.size (fun _ => True) (.slice D l0_0.length d) (bAt M l0_0.length 0 0 0) from HR.out)
      go_wp2
      go_loopg [28] l0_0.length (fun gg s28 wr => ∃ r : Nat, r ≤ l0_0.length ∧ l0_0.length - r ≤ gg ∧ s28 = .int .i64 r ∧ Aside0 (Below w1.heap.size w1 wr) ∧ Aside0 (Kd.R (Kd.int .i64) 3 wr w1.heap.size (fun _ => True) (.slice D l0_0.length d) (bAt M l0_0.length r 0 0)))
      case atStart => exact ⟨0, Nat.zero_le _, by omega, rfl, HB, HR⟩
      case round =>
        clear HR HB
        obtain ⟨r, hr, hgg, rfl, HB, HR⟩ := hrel
        by_cases hrl : r < l0_0.length
        · have hrlz : (r : Int) < (l0_0.length : Int) := by omega
          go_wp2
          go_loopg [8, 31] l0_0.length (fun gg _ s31 wr => ∃ i : Nat, i ≤ l0_0.length ∧ l0_0.length - i ≤ gg ∧ s31 = .int .i64 i ∧ Aside0 (Below w1.heap.size w1 wr) ∧ Aside0 (Kd.R (Kd.int .i64) 3 wr w1.heap.size (fun _ => True) (.slice D l0_0.length d) (bAt M l0_0.length r i 0)))
          case atStart => exact ⟨0, Nat.zero_le _, by omega, rfl, HB, HR⟩
          case round =>
            clear HR HB
            obtain ⟨i, hi, hgg2, rfl, HB, HR⟩ := hrel
            by_cases hil : i < l0_0.length
            · have hilz : (i : Int) < (l0_0.length : Int) := by omega
              go_wp2
              go_loopg [9, 35] l0_0.length (fun gg _ s35 wr => ∃ k : Nat, k ≤ l0_0.length ∧ l0_0.length - k ≤ gg ∧ s35 = .int .i64 k ∧ Aside0 (Below w1.heap.size w1 wr) ∧ Aside0 (Kd.R (Kd.int .i64) 3 wr w1.heap.size (fun _ => True) (.slice D l0_0.length d) (bAt M l0_0.length r i k)))
              case atStart => exact ⟨0, Nat.zero_le _, by omega, rfl, HB, HR⟩
              case round =>
                clear HR HB
                obtain ⟨k, hk, hgg3, rfl, HB, HR⟩ := hrel
                by_cases hkl : k < l0_0.length
                · have hklz : (k : Int) < (l0_0.length : Int) := by omega
                  have g1 := (HOA.out.step HB.out).c1
                  have g2 := (HOA.out.step HB.out).m1.topc hil
                  have g3 := (HOA.out.step HB.out).m1.cell hil hkl
                  have HST := bAt_succ M l0_0.length r i k
                  unfold bStep at HST
                  cases hm : M i k with
                  | false =>
                    rw [hm] at g3 HST
                    rw [if_neg (by simp)] at HST
                    have HSA := Aside0.mk HST
                    clear hm HST
                    go_wp2
                    go_roundg (l0_0.length - (k + 1))
                    case measure => omega
                    case rel => exact ⟨k + 1, by omega, by omega, by first | go_num | exact congrArg (Value.int .i64) (wrap_succ k (by have := HN.out; omega)), HB, ⟨by rw [HSA.out]; exact HR.out⟩⟩
                  | true =>
                    rw [hm] at g3 HST
                    rw [if_pos rfl] at HST
                    obtain ⟨dk, hdk⟩ : ∃ x, (bAt M l0_0.length r i k).getD k 0 = x := ⟨_, rfl⟩
                    obtain ⟨di, hdi⟩ : ∃ x, (bAt M l0_0.length r i k).getD i 0 = x := ⟨_, rfl⟩
                    have hup := bAt_up (M := M) HN.out hr hi hk
                    have hu1 := hup k
                    have hu2 := hup i
                    rw [hdk] at hu1
                    rw [hdi] at hu2
                    rw [hdk, hdi] at HST
                    have hlen := bAt_len M l0_0.length r i k
                    obtain ⟨gg0, cap, hv, hcap, hbase, hglt, hok⟩ := R_form HR.out (by omega)
                    injection hv with hv1 hv2 hv3
                    subst hv1; subst hv3
                    have q1 := Kd.R_celln (0 : Int) HR.out (k : Int) (by omega) hklz
                    have q2 := Kd.R_celln (0 : Int) HR.out (i : Int) (by omega) hilz
                    have q3 := Kd.R_putn HR.out (i : Int) (mx di (dk + 1))
                    simp only [Int.toNat_natCast, rdOf] at q1 q2 q3
                    rw [hdk] at q1
                    rw [hdi] at q2
                    rw [← HST] at q3
                    have hm1 : wrap64 (dk + 1) = dk + 1 := by unfold wrap64; omega
                    have HBS := Aside0.mk hbase
                    have HS0 := Aside0.mk (show (fun w' : World => w'.cell? ⟨gg0, k, none⟩ = some (.int .i64 dk) ∧ w'.cell? ⟨gg0, i, none⟩ = some (.int .i64 di) ∧ w'.frozen? ⟨gg0, i, none⟩ = false ∧ Aside0 (Below w1.heap.size w1 w') ∧ Aside0 (Kd.R (Kd.int .i64) 3 (w'.setCell ⟨gg0, i, none⟩ (.int .i64 (mx di (dk + 1)))) w1.heap.size (fun _ => True) (.slice (some ⟨gg0, 0, none⟩) l0_0.length d) (bAt M l0_0.length r i (k + 1)))) wr.drew from ⟨q1.1, q2.1, q2.2, ⟨below_drew1 HB.out⟩, ⟨q3⟩⟩)
                    have HM1 := Aside0.mk hm1
                    clear hm HST hup hu1 hu2 hdk hdi hlen q1 q2 q3 hv2 hok hcap hbase hglt HB HR hm1
                    go_upto_region 15 with (fail)
                    clear g1 g2 g3
                    have hm1 := HM1.out
                    all_goals refine start_ (n := 14) (S := (fun w' => w'.cell? ⟨gg0, k, none⟩ = some (.int .i64 dk) ∧ w'.cell? ⟨gg0, i, none⟩ = some (.int .i64 di) ∧ w'.frozen? ⟨gg0, i, none⟩ = false ∧ Aside0 (Below w1.heap.size w1 w') ∧ Aside0 (Kd.R (Kd.int .i64) 3 (w'.setCell ⟨gg0, i, none⟩ (.int .i64 (mx di (dk + 1)))) w1.heap.size (fun _ => True) (.slice (some ⟨gg0, 0, none⟩) l0_0.length d) (bAt M l0_0.length r i (k + 1))))) (ds := [13]) (bl 0 14) (by kernel_rfl) rfl rfl HS0.out (fun hHeld => ?_); refine with_tabW impl_LongestChain.tab15 impl_LongestChain.bits15 (fun HT_ HW_ => ?_)
                    all_goals generalize wr.drew = wv at hHeld ⊢
                    all_goals first | refine pA_ 0 (some 48) (bl 1 14) HT_.out (h := ?_) | refine pO_ 0 (some 48) (bl 1 14) HT_.out (h := ?_)
                    all_goals first | refine pA_ 1 (some 49) (bl 2 14) HT_.out (h := ?_) | refine pO_ 1 (some 49) (bl 2 14) HT_.out (h := ?_)
                    all_goals first | refine pA_ 2 (some 50) (bl 3 14) HT_.out (h := ?_) | refine pO_ 2 (some 50) (bl 3 14) HT_.out (h := ?_)
                    all_goals first | refine pA_ 3 (some 51) (bl 4 14) HT_.out (h := ?_) | refine pO_ 3 (some 51) (bl 4 14) HT_.out (h := ?_)
                    all_goals first | refine pA_ 4 (some 52) (bl 5 14) HT_.out (h := ?_) | refine pO_ 4 (some 52) (bl 5 14) HT_.out (h := ?_)
                    all_goals first | refine pA_ 6 (some 54) (bx 5 [6] 14) HT_.out (h := ?_) | refine pO_ 6 (some 54) (bx 5 [6] 14) HT_.out (h := ?_)
                    all_goals first | refine pA_ 7 (some 55) (bx 5 [6, 7] 14) HT_.out (h := ?_) | refine pO_ 7 (some 55) (bx 5 [6, 7] 14) HT_.out (h := ?_)
                    all_goals first | refine pA_ 8 (some 56) (bx 5 [6, 7, 8] 14) HT_.out (h := ?_) | refine pO_ 8 (some 56) (bx 5 [6, 7, 8] 14) HT_.out (h := ?_)
                    all_goals first | refine tA_ 5 (some 53) (bl 9 14) HT_.out HW_.out hHeld (h := ?_) | refine pO_ 5 (some 53) (bl 9 14) HT_.out (h := ?_)
                    all_goals first | refine tA_ 9 (some 57) (bl 10 14) HT_.out HW_.out hHeld (h := ?_) | refine pO_ 9 (some 57) (bl 10 14) HT_.out (h := ?_)
                    all_goals first | refine pA_ 10 (some 58) (bl 11 14) HT_.out (h := ?_) | refine pO_ 10 (some 58) (bl 11 14) HT_.out (h := ?_)
                    all_goals first | refine pA_ 11 (some 59) (bl 12 14) HT_.out (h := ?_) | refine pO_ 11 (some 59) (bl 12 14) HT_.out (h := ?_)
                    all_goals first | refine pA_ 12 (some 60) (bl 13 14) HT_.out (h := ?_) | refine pO_ 12 (some 60) (bl 13 14) HT_.out (h := ?_)
                    all_goals (refine last_ (i := 13) (N := none) (bl 14 14) rfl rfl (one_of HT_.out (by kernel_rfl)) (by decide) (fun K hK => ?_); refine skip_ (by rfl) rfl (by go_simp; rfl) ?_; refine hK.out _ _ ?_; clear hK K)
                    all_goals refine done_ (done_of HT_.out (by kernel_rfl)) ?_
                    have HB := hHeld.2.2.2.1
                    have HR := hHeld.2.2.2.2
                    clear hHeld hm1
                    rw [show (if di < dk + 1 then dk + 1 else di) = mx di (dk + 1) from rfl]
                    have HB5 := Aside0.mk (below_set HB.out (g := gg0) (j := i) (v := .int .i64 (mx di (dk + 1))) HBS.out)
                    clear HB
                    go_wp2
                    go_roundg (l0_0.length - (k + 1))
                    case measure => omega
                    case rel => exact ⟨k + 1, by omega, by omega, by first | go_num | exact congrArg (Value.int .i64) (wrap_succ k (by have := HN.out; omega)), HB5, HR⟩
                · obtain rfl : k = l0_0.length := by omega
                  have hkz : ¬ ((l0_0.length : Int) < (l0_0.length : Int)) := by omega
                  rw [bAt_row] at HR
                  go_wp2
                  go_roundg (l0_0.length - (i + 1))
                  case measure => omega
                  case rel => exact ⟨i + 1, by omega, by omega, by first | go_num | exact congrArg (Value.int .i64) (wrap_succ i (by have := HN.out; omega)), HB, HR⟩
            · obtain rfl : i = l0_0.length := by omega
              have hkz : ¬ ((l0_0.length : Int) < (l0_0.length : Int)) := by omega
              rw [bAt_round] at HR
              go_wp2
              go_roundg (l0_0.length - (r + 1))
              case measure => omega
              case rel => exact ⟨r + 1, by omega, by omega, by first | go_num | exact congrArg (Value.int .i64) (wrap_succ r (by have := HN.out; omega)), HB, HR⟩
        · obtain rfl : r = l0_0.length := by omega
          have hkz : ¬ ((l0_0.length : Int) < (l0_0.length : Int)) := by omega
          have HRD := Aside0.mk (show Kd.R (Kd.int .i64) 3 wr w1.heap.size (fun _ => True) (.slice D l0_0.length d) (bAll M l0_0.length l0_0.length) from HR.out)
          clear HR
          have HUP := Aside0.mk (show upB 2000 (bAll M l0_0.length l0_0.length) from by have h := bAt_up (M := M) (r := l0_0.length) (i := 0) (k := 0) HN.out (Nat.le_refl _) (Nat.zero_le _) (Nat.zero_le _); exact h)
          have HLN := Aside0.mk (bAll_len M l0_0.length l0_0.length)
          generalize bAll M l0_0.length l0_0.length = ds at HRD HR1_ HSO HUP HLN
          obtain ⟨w9, rfl⟩ : ∃ x, x = wr := ⟨_, rfl⟩
          have HO := Aside0.mk (HOA.out.step HB.out)
          have HD := Aside0.mk (show Kd.C (Kd.int .i64) w9 D l0_0.length ds from by have h := (Kd.R_reads' HRD.out).2.2; rw [HLN.out] at h; exact h)
          have HCN := Aside0.mk (show Kd.C (Kd.int .i64) w9 A l0_0.length (nums l0_0) from by have h := (Kd.R_reads' HO.out.ns).2.2; rw [nums_length] at h; exact h)
          have HW1 := Aside0.mk (below_chain HBw.out HB.out)
          clear HRD HB HOA HBw
          go_upto_region 20 with ((with_reducible refine gate_dst (N := 64) rfl ?_); refine Kd.R_lit (Kd.int .i64) (w0 := w9) w9.heap.size 3 ?hg (N := 64) ?hd (xs := ([] : List Int)) (inner := []) (ok := fun _ => True) (okp := fun _ => True) ?hr ?hp (fun _ hk => hk) trivial (Below.refl _ _) (Nat.le_refl _) (by simp) ?_; (case hd => rfl); (case hg => rfl); (case hr => first | (go_simp; done) | (go_simp; rfl)); (case hp => exact (Reps.none _ _)); intro v10 w3 ho hb hg_ hnew_; clear hg_ hnew_; have HR := Aside0.mk ho; have HB := Aside0.mk hb; clear ho hb)
          by_cases hn0 : l0_0.length = 0
          · have hz : (l0_0.length : Int) = 0 := by omega
            have hz1 : ((l0_0.length : Int) == 0) = true := by rw [hz]; rfl
            have HR2_ := HR1_.out
            rw [if_pos hn0] at HR2_
            go_wp2
            go_ret2
            exact ⟨_, rfl, by rw [← HR2_]; exact Kd.R_lower HR.out HW1.out.size, below_chain HW1.out HB.out⟩
          · have hz : ¬ (l0_0.length : Int) = 0 := by omega
            have hz1 : ((l0_0.length : Int) == 0) = false := beq_eq_false_iff_ne.2 hz
            have HR2_ := HR1_.out
            rw [if_neg hn0] at HR2_
            obtain ⟨htop, htl⟩ := topI_at ds (by rw [HLN.out]; omega)
            rw [HLN.out] at htop htl
            unfold longL at HR2_
            obtain ⟨a0, ha0⟩ : ∃ a, topI ds = a := ⟨_, rfl⟩
            rw [ha0] at HR2_ htop htl
            obtain ⟨m0, hm0⟩ : ∃ m, maxTo ds (l0_0.length - 1) = m := ⟨_, rfl⟩
            have HMAX := Aside0.mk (fun (W : World) (hC : Kd.C (Kd.int .i64) W D l0_0.length ds) => show Calls Try.prog 91 #[.slice D l0_0.length d] W (fun e w' => e = .returned (.int .i64 m0) ∧ Below W.heap.size W w') from by
              have h := slices_Max_int_int.calls D d ds m0 W (by rw [HLN.out]; exact hC) (by rw [HLN.out]; exact HDC.out) (by unfold slices_Max_int_int.f; rw [if_pos (by rw [HLN.out]; have := HN.out; omega), HLN.out, hm0])
              rw [HLN.out] at h
              exact h)
            have HIDX := Aside0.mk (fun (W : World) (hC : Kd.C (Kd.int .i64) W D l0_0.length ds) => show Calls Try.prog 90 #[.slice D l0_0.length d, .int .i64 m0] W (fun e w' => e = .returned (.int .i64 (a0 : Int)) ∧ Below W.heap.size W w') from by
              have h := slices_Index_int_int.calls D d ds m0 (a0 : Int) W (by rw [HLN.out]; exact hC) (by rw [HLN.out]; exact HDC.out) (by unfold slices_Index_int_int.f; rw [if_pos (by rw [HLN.out]; have := HN.out; omega), ← hm0, htop])
              rw [HLN.out] at h
              exact h)
            clear htop hm0 ha0
            obtain ⟨v, hv⟩ : ∃ v : Nat, ds.getD a0 0 = (v : Int) := ⟨(ds.getD a0 0).toNat, by have := HUP.out a0; omega⟩
            have HVU := Aside0.mk (show v ≤ 2000 from by have := HUP.out a0; omega)
            rw [hv, Int.toNat_natCast] at HR2_
            have HTOT := Aside0.mk HR2_
            have HTL := Aside0.mk (show r1.length = v + 1 from by rw [← HR2_, List.length_cons, lcT_len])
            have htlz : (a0 : Int) < (l0_0.length : Int) := by omega
            have HV := Aside0.mk hv
            clear HR2_ hv hn0
            go_upto_region 22 with (fail)
            clear hz hz1
            go_upto_region 23 with (first | (go_at_call 91; (refine (HMAX.out _ (Kd.C_below HD.out HB.out)).mono ?_); rintro e w4 ⟨rfl, hb⟩; have HB := Aside0.mk (below_chain HB.out hb); have HR := Aside0.mk (Kd.R_below HR.out hb); clear hb) | (go_at_call 90; (refine (HIDX.out _ (Kd.C_below HD.out HB.out)).mono ?_); rintro e w5 ⟨rfl, hb⟩; have HB := Aside0.mk (below_chain HB.out hb); have HR := Aside0.mk (Kd.R_below HR.out hb); clear hb))
            have g0 := (HO.out.step HB.out).c0
            obtain ⟨ad, e1, hx⟩ := Kd.at_int HCN.out (a0 : Int) (by omega) htlz
            cases e1
            rw [rd_nums l0_0 a0 htl, Int.toNat_natCast] at hx
            obtain ⟨y, hy⟩ : ∃ y, (l0_0.getD a0 z86).f0 = y := ⟨_, rfl⟩
            rw [hy] at hx HTOT
            replace hx := (HB.out.cell (World.block_lt_of_cell? w9 _ hx)).trans hx
            clear hy
            go_upto_region 24 with ((with_reducible refine gate_builtin (b := .append) (xs := #[.tmp 72, .tmp 80]) rfl ?_); at_builtin; refine Kd.R_append (Kd.int .i64) (w0 := w9) w9.heap.size rfl (.tmp 72) (.tmp 80) 27 3 (.int .i64 0) 8 rfl Try.underlying27 info3 rfl (by decide) (by omega) v10 ([]) y [.int .i64 y] (fun _ => True) (fun _ => False) rfl rfl rfl (fun _ hk => hk.elim) (fun _ _ => trivial) ?aO ?aB ?aS ?aL ?_; (case aO => exact (by (with_reducible repeat (first | apply Kd.R_alloc | apply Kd.R_drewN | apply Kd.R_drew)); exact HR.out)); (case aB => exact (by repeat (first | exact HB.out | apply below_alloc | apply pw_below_drewN | apply below_drew1))); (case aS => exact below_size (by repeat (first | exact HB.out | apply below_alloc | apply pw_below_drewN | apply below_drew1))); (case aL => (first | (simp only [List.length_nil]; omega) | (have := HXL.out; omega))); intro v11 w6 ho hb hg hat; have HB3 := Aside0.mk hb; have HR3 := Aside0.mk ho; clear hg hat ho hb)
            clear hx g0 HR HB
            go_wp2
            go_loopg [10, 11] v (fun gg s10 s11 wq => ∃ (a u : Nat) (xs : List Int), a < l0_0.length ∧ ds.getD a 0 = (u : Int) ∧ u ≤ gg ∧ s11 = .int .i64 a ∧ xs ++ lcT l0_0 l0_0.length M ds u a = r1 ∧ Aside0 (Below w9.heap.size w9 wq) ∧ Aside0 (Kd.R (Kd.int .i64) 3 wq w9.heap.size (fun _ => True) s10 xs))
            case atStart => exact ⟨a0, v, [y], htl, HV.out, Nat.le_refl _, rfl, HTOT.out, HB3, HR3⟩
            case round =>
              clear HR3 HB3 HTOT HV htlz htl
              obtain ⟨a, u, xs, hal, hu, hgg, rfl, htot, HB, HR⟩ := hrel
              have halz : (a : Int) < (l0_0.length : Int) := by omega
              obtain ⟨ad, e1, hx⟩ := Kd.at_int HD.out (a : Int) (by omega) halz
              cases e1
              rw [show rd ds (a : Int) = ds.getD a 0 from by simp [rd], hu, Int.toNat_natCast] at hx
              replace hx := (HB.out.cell (World.block_lt_of_cell? w9 _ hx)).trans hx
              have HXL := Aside0.mk (show xs.length ≤ 2001 from by have h1 := congrArg List.length htot; rw [List.length_append, lcT_len] at h1; have h2 := HTL.out; have h3 := HVU.out; omega)
              have HU := Aside0.mk hu
              have HT := Aside0.mk htot
              clear htot hu
              cases u with
              | zero =>
                have hz : ¬ (((0 : Nat) : Int) > 0) := by omega
                go_wp2
                go_ret2
                exact ⟨_, rfl, by have h := HT.out; simp only [lcT, List.append_nil] at h; rw [← h]; exact Kd.R_lower HR.out HW1.out.size, below_chain HW1.out HB.out⟩
              | succ u =>
                have hz : (((u + 1 : Nat) : Int) > 0) := by omega
                go_upto_region 25 with (fail)
                clear hx hz
                go_wp2
                go_loopg [11, 88] l0_0.length (fun gg s11 s88 wz => ∃ k : Nat, k ≤ l0_0.length ∧ l0_0.length - k ≤ gg ∧ s88 = .int .i64 k ∧ s11 = .int .i64 a ∧ Aside0 (Below w9.heap.size w9 wz) ∧ Aside0 (Kd.R (Kd.int .i64) 3 wz w9.heap.size (fun _ => True) u10 xs) ∧ Aside0 (∀ j, j < k → nxtB M ds a j = false))
                case atStart => exact ⟨0, Nat.zero_le _, by omega, rfl, rfl, HB, HR, ⟨fun j hj => absurd hj (Nat.not_lt_zero _)⟩⟩
                case round =>
                  clear HB HR
                  obtain ⟨k, hk, hgg3, rfl, rfl, HB, HR, HA⟩ := hrel
                  by_cases hkl : k < l0_0.length
                  · have hklz : (k : Int) < (l0_0.length : Int) := by omega
                    obtain ⟨adk, e1, hxk⟩ := Kd.at_int HD.out (k : Int) (by omega) hklz
                    cases e1
                    obtain ⟨ada, e1, hxa⟩ := Kd.at_int HD.out (a : Int) (by omega) halz
                    cases e1
                    rw [show rd ds (k : Int) = ds.getD k 0 from by simp [rd], Int.toNat_natCast] at hxk
                    rw [show rd ds (a : Int) = ds.getD a 0 from by simp [rd], Int.toNat_natCast] at hxa
                    obtain ⟨bk, hbk⟩ : ∃ x, ds.getD k 0 = x := ⟨_, rfl⟩
                    obtain ⟨ba, hba⟩ : ∃ x, ds.getD a 0 = x := ⟨_, rfl⟩
                    obtain ⟨mk, hmk⟩ : ∃ x, M a k = x := ⟨_, rfl⟩
                    obtain ⟨eb, heb⟩ : ∃ x, (bk == ba - 1) = x := ⟨_, rfl⟩
                    have HNB := Aside0.mk (show nxtB M ds a k = (mk && eb) from by unfold nxtB; rw [hbk, hba, hmk, heb])
                    have HEB := Aside0.mk heb
                    have HBA := Aside0.mk (show ba = ((u + 1 : Nat) : Int) from by rw [← hba]; exact HU.out)
                    have HBK := Aside0.mk hbk
                    rw [hbk] at hxk
                    rw [hba] at hxa
                    have HUB := HUP.out a
                    rw [hba] at HUB
                    have hm1 : wrap64 (ba - 1) = ba - 1 := by unfold wrap64; omega
                    have HM1 := Aside0.mk hm1
                    have g3 := (HO.out.step HB.out).drew.m1.cell hal hkl
                    rw [hmk] at g3
                    have HS0 := Aside0.mk (show (fun w' : World => w'.cell? ⟨p, 1, none⟩ = some (.slice (some ⟨N1, 0, none⟩) l0_0.length l0_0.length) ∧ w'.cell? ⟨N1, a, none⟩ = some (.slice (some ⟨N1 + 1 + a, 0, none⟩) l0_0.length l0_0.length) ∧ w'.cell? ⟨N1 + 1 + a, k, none⟩ = some (.bool mk) ∧ w'.cell? (ad.add k) = some (.int .i64 bk) ∧ w'.cell? (ad.add a) = some (.int .i64 ba) ∧ Aside0 (Below w9.heap.size w9 w') ∧ Aside0 (Kd.R (Kd.int .i64) 3 w' w9.heap.size (fun _ => True) u10 xs)) wr.drew from ⟨(HO.out.step HB.out).drew.c1, (HO.out.step HB.out).drew.m1.topc hal, g3, ((below_drew1 HB.out).cell (World.block_lt_of_cell? w9 _ hxk)).trans hxk, ((below_drew1 HB.out).cell (World.block_lt_of_cell? w9 _ hxa)).trans hxa, ⟨below_drew1 HB.out⟩, ⟨Kd.R_drew HR.out⟩⟩)
                    clear g3 hbk hba hmk HUB hxk hxa HB HR hm1 heb
                    go_upto_region 28 with (fail)
                    have hm1 := HM1.out
                    have heb := HEB.out
                    cases mk <;> cases eb
                    all_goals refine start_ (n := 22) (S := (fun w' => w'.cell? ⟨p, 1, none⟩ = some (.slice (some ⟨N1, 0, none⟩) l0_0.length l0_0.length) ∧ w'.cell? ⟨N1, a, none⟩ = some (.slice (some ⟨N1 + 1 + a, 0, none⟩) l0_0.length l0_0.length) ∧ w'.cell? ⟨N1 + 1 + a, k, none⟩ = some (.bool _) ∧ w'.cell? (ad.add k) = some (.int .i64 bk) ∧ w'.cell? (ad.add a) = some (.int .i64 ba) ∧ Aside0 (Below w9.heap.size w9 w') ∧ Aside0 (Kd.R (Kd.int .i64) 3 w' w9.heap.size (fun _ => True) u10 xs))) (ds := []) (bl 0 22) (by kernel_rfl) rfl rfl HS0.out (fun hHeld => ?_); refine with_tabW impl_LongestChain.tab28 impl_LongestChain.bits28 (fun HT_ HW_ => ?_)
                    all_goals generalize wr.drew = wv at hHeld ⊢
                    all_goals first | refine pA_ 0 (some 91) (bl 1 22) HT_.out (h := ?_) | refine pO_ 0 (some 91) (bl 1 22) HT_.out (h := ?_)
                    all_goals first | refine pA_ 1 (some 92) (bl 2 22) HT_.out (h := ?_) | refine pO_ 1 (some 92) (bl 2 22) HT_.out (h := ?_)
                    all_goals first | refine pA_ 2 (some 93) (bl 3 22) HT_.out (h := ?_) | refine pO_ 2 (some 93) (bl 3 22) HT_.out (h := ?_)
                    all_goals first | refine pA_ 4 (some 95) (bx 3 [4] 22) HT_.out (h := ?_) | refine pO_ 4 (some 95) (bx 3 [4] 22) HT_.out (h := ?_)
                    all_goals first | refine pA_ 7 (some 98) (bx 3 [4, 7] 22) HT_.out (h := ?_) | refine pO_ 7 (some 98) (bx 3 [4, 7] 22) HT_.out (h := ?_)
                    all_goals first | refine tA_ 3 (some 94) (bx 5 [7] 22) HT_.out HW_.out hHeld (h := ?_) | refine pO_ 3 (some 94) (bx 5 [7] 22) HT_.out (h := ?_)
                    all_goals first | refine pA_ 5 (some 96) (bx 6 [7] 22) HT_.out (h := ?_) | refine pO_ 5 (some 96) (bx 6 [7] 22) HT_.out (h := ?_)
                    all_goals first | refine tA_ 6 (some 97) (bl 8 22) HT_.out HW_.out hHeld (h := ?_) | refine pO_ 6 (some 97) (bl 8 22) HT_.out (h := ?_)
                    all_goals first | refine pA_ 8 (some 99) (bl 9 22) HT_.out (h := ?_) | refine pO_ 8 (some 99) (bl 9 22) HT_.out (h := ?_)
                    all_goals first | refine tA_ 9 (some 100) (bl 10 22) HT_.out HW_.out hHeld (h := ?_) | refine pO_ 9 (some 100) (bl 10 22) HT_.out (h := ?_)
                    all_goals first | refine pA_ 10 (some 101) (bl 11 22) HT_.out (h := ?_) | refine pO_ 10 (some 101) (bl 11 22) HT_.out (h := ?_)
                    all_goals first | refine pA_ 11 (some 102) (bl 12 22) HT_.out (h := ?_) | refine pO_ 11 (some 102) (bl 12 22) HT_.out (h := ?_)
                    all_goals first | refine pA_ 12 (some 103) (bl 13 22) HT_.out (h := ?_) | refine pO_ 12 (some 103) (bl 13 22) HT_.out (h := ?_)
                    all_goals first | refine pA_ 13 (some 104) (bl 14 22) HT_.out (h := ?_) | refine pO_ 13 (some 104) (bl 14 22) HT_.out (h := ?_)
                    all_goals first | refine pA_ 15 (some 106) (bx 14 [15] 22) HT_.out (h := ?_) | refine pO_ 15 (some 106) (bx 14 [15] 22) HT_.out (h := ?_)
                    all_goals first | refine pA_ 16 (some 107) (bx 14 [15, 16] 22) HT_.out (h := ?_) | refine pO_ 16 (some 107) (bx 14 [15, 16] 22) HT_.out (h := ?_)
                    all_goals first | refine pA_ 17 (some 108) (bx 14 [15, 16, 17] 22) HT_.out (h := ?_) | refine pO_ 17 (some 108) (bx 14 [15, 16, 17] 22) HT_.out (h := ?_)
                    all_goals first | refine tA_ 14 (some 105) (bl 18 22) HT_.out HW_.out hHeld (h := ?_) | refine pO_ 14 (some 105) (bl 18 22) HT_.out (h := ?_)
                    all_goals first | refine tA_ 18 (some 109) (bl 19 22) HT_.out HW_.out hHeld (h := ?_) | refine pO_ 18 (some 109) (bl 19 22) HT_.out (h := ?_)
                    all_goals first | refine pA_ 19 (some 110) (bl 20 22) HT_.out (h := ?_) | refine pO_ 19 (some 110) (bl 20 22) HT_.out (h := ?_)
                    all_goals first | refine pA_ 20 (some 111) (bl 21 22) HT_.out (h := ?_) | refine pO_ 20 (some 111) (bl 21 22) HT_.out (h := ?_)
                    all_goals first | refine pA_ 21 (some 112) (bl 22 22) HT_.out (h := ?_) | refine pO_ 21 (some 112) (bl 22 22) HT_.out (h := ?_)
                    all_goals refine done_ (done_of HT_.out (by kernel_rfl)) ?_
                    all_goals have HB := hHeld.2.2.2.2.2.1
                    all_goals have HR := hHeld.2.2.2.2.2.2
                    all_goals clear hHeld hm1 heb HS0
                    rotate_left 3
                    · have HNX := Aside0.mk (nxt_hit hkl (by rw [HNB.out]; rfl) HA.out)
                      obtain ⟨y2, hy2⟩ : ∃ x, (l0_0.getD k z86).f0 = x := ⟨_, rfl⟩
                      have HT2 := Aside0.mk (show (xs ++ [y2]) ++ lcT l0_0 l0_0.length M ds u k = r1 from by rw [← HT.out, List.append_assoc]; simp only [lcT, HNX.out, hy2, List.singleton_append])
                      have HU2 := Aside0.mk (show ds.getD k 0 = (u : Int) from by have h1 := beq_iff_eq.1 HEB.out; have h2 := HBA.out; have h3 := HBK.out; omega)
                      go_upto_region 31 with (fail)
                      have g0 := (HO.out.step HB.out).c0
                      obtain ⟨adn, e1, hx⟩ := Kd.at_int HCN.out (k : Int) (by omega) hklz
                      cases e1
                      rw [rd_nums l0_0 k hkl, Int.toNat_natCast, hy2] at hx
                      replace hx := (HB.out.cell (World.block_lt_of_cell? w9 _ hx)).trans hx
                      clear hy2
                      go_wp2_with ((with_reducible refine gate_builtin (b := .append) (xs := #[.tmp 115, .tmp 123]) rfl ?_); at_builtin; refine Kd.R_append (Kd.int .i64) (w0 := w9) w9.heap.size rfl (.tmp 115) (.tmp 123) 27 3 (.int .i64 0) 8 rfl Try.underlying27 info3 rfl (by decide) (by omega) u10 (xs) y2 [.int .i64 y2] (fun _ => True) (fun _ => False) rfl rfl rfl (fun _ hk => hk.elim) (fun _ _ => trivial) ?aO ?aB ?aS ?aL ?_; (case aO => exact (by (with_reducible repeat (first | apply Kd.R_alloc | apply Kd.R_drewN | apply Kd.R_drew)); exact HR.out)); (case aB => exact (by repeat (first | exact HB.out | apply below_alloc | apply pw_below_drewN | apply below_drew1))); (case aS => exact below_size (by repeat (first | exact HB.out | apply below_alloc | apply pw_below_drewN | apply below_drew1))); (case aL => (first | (simp only [List.length_nil]; omega) | (have := HXL.out; omega))); intro v9 wk ho hb hg hat; have HB9 := Aside0.mk hb; have HR9 := Aside0.mk ho; clear hg hat ho hb)
                      go_roundg u
                      case measure => omega
                      case rel => exact ⟨k, u, xs ++ [y2], hkl, HU2.out, Nat.le_refl _, rfl, HT2.out, HB9, HR9⟩
                    all_goals (go_wp2; go_roundg (l0_0.length - (k + 1)); (case measure => omega); (case rel => exact ⟨k + 1, by omega, by omega, by first | go_num | exact congrArg (Value.int .i64) (wrap_succ k (by have := HN.out; omega)), rfl, HB, HR, ⟨fun j hj => by
                      by_cases e : j = k
                      · subst e; rw [HNB.out]; rfl
                      · exact HA.out j (by omega)⟩⟩))
                  · obtain rfl : k = l0_0.length := by omega
                    exact (stepOk_no HSO.out hal (by rw [HU.out]; omega) HA.out).elim

end Go.Proofs.Ytdiejmhphhdcfaa.Q
