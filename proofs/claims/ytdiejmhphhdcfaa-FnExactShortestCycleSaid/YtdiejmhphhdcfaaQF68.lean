-- Written by a program of this session (wip/xprint.py over the kit's printer).
import Derived.Test.YtdiejmhphhdcfaaQ0
import Derived.Test.YtdiejmhphhdcfaaQF67
import Derived.Test.YtdiejmhphhdcfaaQP
namespace Go.Proofs.Ytdiejmhphhdcfaa.Q
open Go.RowKit Go.Proofs.YtdiejmhphhdcfaaW.PrintWords Go.Proofs.YtdiejmhphhdcfaaW.PrintLast
set_option linter.unusedVariables false
set_option linter.unusedSimpArgs false

/-! ### impl_order_chain: function 68 -/
def fStep (M : Nat → Nat → Bool) (b : Nat) (d : List Int) (i k : Nat) : List Int := if M i k && !(i == b) then d.set i (mn (d.getD i 0) (d.getD k 0 + 1)) else d
def fRow (M : Nat → Nat → Bool) (b lo : Nat) (d : List Int) (i m : Nat) : List Int := (List.range' lo m).foldl (fun d k => fStep M b d i k) d
def fRound (M : Nat → Nat → Bool) (b lo n : Nat) (d : List Int) (m : Nat) : List Int := (List.range' lo m).foldl (fun d i => fRow M b lo d i (n - lo)) d
def fInit (n b : Nat) : List Int := (List.replicate n ((n : Int) + 1)).set b 0
def fAll (M : Nat → Nat → Bool) (b lo n m : Nat) : List Int := (List.range m).foldl (fun d _ => fRound M b lo n d (n - lo)) (fInit n b)
theorem fRow_succ (M : Nat → Nat → Bool) (b lo : Nat) (d : List Int) (i m : Nat) : fRow M b lo d i (m + 1) = fStep M b (fRow M b lo d i m) i (lo + m) := by simp [fRow, List.range'_concat, List.foldl_append]
theorem fRound_succ (M : Nat → Nat → Bool) (b lo n : Nat) (d : List Int) (m : Nat) : fRound M b lo n d (m + 1) = fRow M b lo (fRound M b lo n d m) (lo + m) (n - lo) := by simp [fRound, List.range'_concat, List.foldl_append]
theorem fAll_succ (M : Nat → Nat → Bool) (b lo n m : Nat) : fAll M b lo n (m + 1) = fRound M b lo n (fAll M b lo n m) (n - lo) := by simp [fAll, List.range_succ, List.foldl_append]
structure fB (n : Nat) (d : List Int) : Prop where
  len : d.length = n
  up : ∀ j, 0 ≤ d.getD j 0 ∧ d.getD j 0 ≤ (n : Int) + 1
theorem fB_step {M : Nat → Nat → Bool} {n b : Nat} {d : List Int} (h : fB n d) (i k : Nat) : fB n (fStep M b d i k) := by
  unfold fStep
  split
  · refine ⟨by rw [List.length_set, h.len], fun j => ?_⟩
    have h1 := h.up j
    by_cases e : j = i
    · subst e
      by_cases hl : j < d.length
      · have h2 := h.up k
        have e1 : (d.set j (mn (d.getD j 0) (d.getD k 0 + 1))).getD j 0 = mn (d.getD j 0) (d.getD k 0 + 1) := by simp [List.getD_eq_getElem?_getD, hl]
        rw [e1]
        unfold mn
        split <;> omega
      · have e1 : (d.set j (mn (d.getD j 0) (d.getD k 0 + 1))).getD j 0 = d.getD j 0 := by
          rw [List.getD_eq_getElem?_getD, List.getD_eq_getElem?_getD, List.getElem?_eq_none (by rw [List.length_set]; omega), List.getElem?_eq_none (by omega)]
        rw [e1]; exact h1
    · have e1 : (d.set i (mn (d.getD i 0) (d.getD k 0 + 1))).getD j 0 = d.getD j 0 := by
        simp only [List.getD_eq_getElem?_getD, List.getElem?_set_ne (fun e2 : i = j => e e2.symm)]
      rw [e1]; exact h1
  · exact h
theorem fB_row {M : Nat → Nat → Bool} {n b lo : Nat} {d : List Int} (h : fB n d) (i m : Nat) : fB n (fRow M b lo d i m) := by
  induction m with
  | zero => exact h
  | succ m ih => rw [fRow_succ]; exact fB_step ih i _
theorem fB_round {M : Nat → Nat → Bool} {n b lo : Nat} {d : List Int} (h : fB n d) (m : Nat) : fB n (fRound M b lo n d m) := by
  induction m with
  | zero => exact h
  | succ m ih => rw [fRound_succ]; exact fB_row ih _ _
theorem fB_init (n b : Nat) : fB n (fInit n b) := by
  refine ⟨by simp [fInit], fun j => ?_⟩
  unfold fInit
  rw [List.getD_eq_getElem?_getD, List.getElem?_set]
  split
  · split <;> simp <;> omega
  · rw [List.getElem?_replicate]
    split <;> simp <;> omega
theorem fB_all (M : Nat → Nat → Bool) (b lo n m : Nat) : fB n (fAll M b lo n m) := by
  induction m with
  | zero => exact fB_init n b
  | succ m ih => rw [fAll_succ]; exact fB_round ih _
def fAt (M : Nat → Nat → Bool) (b lo n r i k : Nat) : List Int := fRow M b lo (fRound M b lo n (fAll M b lo n r) i) (lo + i) k
theorem fAt_B (M : Nat → Nat → Bool) (b lo n r i k : Nat) : fB n (fAt M b lo n r i k) := fB_row (fB_round (fB_all M b lo n r) i) _ k
theorem fAt_row (M : Nat → Nat → Bool) (b lo n r i : Nat) : fAt M b lo n r i (n - lo) = fAt M b lo n r (i + 1) 0 := by
  unfold fAt
  rw [fRound_succ]
  rfl
theorem fAt_round (M : Nat → Nat → Bool) (b lo n r : Nat) : fAt M b lo n r (n - lo) 0 = fAt M b lo n (r + 1) 0 0 := by
  unfold fAt
  rw [fAll_succ]
  rfl
theorem fAt_succ (M : Nat → Nat → Bool) (b lo n r i k : Nat) : fAt M b lo n r i (k + 1) = fStep M b (fAt M b lo n r i k) (lo + i) (lo + k) := fRow_succ _ _ _ _ _ _
def fFill (n i : Nat) : List Int := (List.range n).map fun j => if j < i then (n : Int) + 1 else 0
theorem fFill_zero (n : Nat) : fFill n 0 = List.replicate n 0 := by
  apply List.ext_getElem (by simp [fFill])
  intro j h1 h2
  simp [fFill]
theorem fFill_len (n i : Nat) : (fFill n i).length = n := by simp [fFill]
theorem fFill_end (n : Nat) : fFill n n = List.replicate n ((n : Int) + 1) := by
  apply List.ext_getElem (by simp [fFill])
  intro j h1 h2
  have : j < n := by simpa [fFill] using h1
  simp [fFill, this]
theorem fFill_set (n i : Nat) : (fFill n i).set i ((n : Int) + 1) = fFill n (i + 1) := by
  apply List.ext_getElem (by simp [fFill])
  intro j h1 h2
  simp only [fFill, List.getElem_set, List.getElem_map, List.getElem_range]
  by_cases e : i = j
  · subst e; simp
  · have e1 : (j < i + 1) ↔ (j < i) := by omega
    simp [e, e1]
def selStep (M : Nat → Nat → Bool) (d : List Int) (n a : Nat) (s : Int) (k : Nat) : Int := if M a k && decide (d.getD k 0 ≤ (n : Int)) && (decide (s < 0) || decide (d.getD k 0 < d.getD s.toNat 0)) then (k : Int) else s
def selTo (M : Nat → Nat → Bool) (d : List Int) (n a lo m : Nat) : Int := (List.range' lo m).foldl (fun s k => selStep M d n a s k) (-1)
theorem selTo_succ (M : Nat → Nat → Bool) (d : List Int) (n a lo m : Nat) : selTo M d n a lo (m + 1) = selStep M d n a (selTo M d n a lo m) (lo + m) := by simp [selTo, List.range'_concat, List.foldl_append]
theorem selTo_range (M : Nat → Nat → Bool) (d : List Int) (n a lo m : Nat) : selTo M d n a lo m = -1 ∨ ∃ q : Nat, q < lo + m ∧ selTo M d n a lo m = (q : Int) := by
  induction m with
  | zero => exact .inl rfl
  | succ m ih =>
    rw [selTo_succ]
    unfold selStep
    split
    · exact .inr ⟨lo + m, by omega, rfl⟩
    · rcases ih with h | ⟨q, hq, h⟩
      · exact .inl h
      · exact .inr ⟨q, by omega, h⟩
def chainGo (M : Nat → Nat → Bool) (d : List Int) (n b lo : Nat) : Nat → Nat → Option (Option (List Int))
  | 0, _ => none
  | F + 1, a => if selTo M d n a lo (n - lo) < 0 then some none else if selTo M d n a lo (n - lo) = (b : Int) then some (some [selTo M d n a lo (n - lo)]) else (chainGo M d n b lo F (selTo M d n a lo (n - lo)).toNat).map (fun o => o.map (selTo M d n a lo (n - lo) :: ·))
def impl_order_chain.T18 : Bool × List (List Nat × List Nat) := (true, [([], []), ([], []), ([], []), ([], []), ([2, 3], [2, 3]), ([4], [4]), ([], []), ([], []), ([6, 7], [6, 7]), ([8], [8]), ([9], [9]), ([5, 10], [5, 10]), ([0, 1, 0, 1, 2, 3, 4, 5, 6, 7, 8, 9, 10, 11], [0, 1]), ([12, 11, 0, 1, 2, 3, 4, 5, 6, 7, 8, 9, 10, 11], [11, 12])])
def impl_order_chain.B18 : List Nat := [0, 0, 0, 0, 12, 28, 0, 0, 192, 448, 960, 2044, 4095, 8191]
theorem impl_order_chain.tab18 : rtab .any (opsOf Try.f68 18) = impl_order_chain.T18 := by kernel_rfl
theorem impl_order_chain.bits18 : waitsOk impl_order_chain.T18.2 impl_order_chain.B18 = true := by kernel_rfl
set_option maxHeartbeats 16000000 in
set_option maxRecDepth 100000 in
theorem impl_order_chain.calls (w0 : World) (p N1 N2 n : Nat) (A : Option Addr) (c : Nat) (ns : List Int) (M1 M2 : Nat → Nat → Bool) (w : World) (H : OrdIn w0 w p N1 N2 n (.slice A n c) ns M1 M2) (h10 : n ≤ 10) (a0 b lo F : Nat) (res : Option (List Int)) (ha : a0 < n) (hb : b < n) (hlo : lo ≤ n) (hF : F ≤ 1000) (hres : chainGo M1 (fAll M1 b lo n n) n b lo F a0 = some res) :
    Calls Try.prog 68 #[.pointer (some ⟨p, 0, none⟩), .int .i64 a0, .int .i64 b, .int .i64 lo] w fun e w' => ∃ v : Value, e = .returned v ∧ Below w.heap.size w w' ∧ (res = none → v = .slice none 0 0) ∧ (∀ t, res = some t → Kd.R (Kd.int .i64) 3 w' w.heap.size (fun _ => True) v ((a0 : Int) :: t)) := by
  have HO := Aside0.mk H
  have HN := Aside0.mk h10
  have HRES := Aside0.mk hres
  have HFF := Aside0.mk hF
  clear H hres hF
  have g0 := HO.out.c0
  have hbz : (b : Int) < (n : Int) := by omega
  have haz : (a0 : Int) < (n : Int) := by omega
  go_enter Try.func68, Try.ntmps68
  go_upto_region 3 with ((with_reducible refine gate_dst (N := 24) rfl ?_); refine Kd.R_make (Kd.int .i64) (w0 := w) w.heap.size 3 rfl (N := 24) rfl 27 (.tmp 23) (.tmp 23) rfl (n : Int) rfl rfl Try.underlying27 (.int .i64 0) 8 info3 rfl (by decide) (by omega) (0 : Int) (okp := fun _ => False) rfl (fun _ hk => hk.elim) (ok := fun _ => True) trivial (by omega) (by rw [Int.toNat_natCast]; omega) (Below.refl _ _) (Nat.le_refl _) ?_; intro v0 w1 ho hb_ hg_ hnew_; clear hg_ hnew_; rw [Int.toNat_natCast] at ho; have HR := Aside0.mk ho; have HB := Aside0.mk hb_; have g0 := pw_cell_below hb_ g0; clear ho hb_)
  obtain ⟨D, d, hv0, hd, hC⟩ := Kd.R_reads HR.out
  rw [List.length_replicate] at hv0
  subst hv0
  clear hd hC g0
  replace HR := Aside0.mk (show Kd.R (Kd.int .i64) 3 w1 w.heap.size (fun _ => True) (.slice D n d) (fFill n 0) from by rw [fFill_zero]; exact HR.out)
  obtain ⟨gg0, cap, hv, hcap, hbase, hglt, hok⟩ := R_form HR.out (by rw [fFill_len]; omega)
  rw [fFill_len] at hv
  injection hv with hv1 hv2 hv3
  subst hv1; subst hv3
  have HBS := Aside0.mk hbase
  clear hv2 hok hcap hbase hglt
  have hm1 : wrap64 ((n : Int) + 1) = (n : Int) + 1 := by unfold wrap64; omega
  have HM1 := Aside0.mk hm1
  clear hm1
  go_wp2
  go_loopg [27] n (fun gg s27 wr => ∃ i : Nat, i ≤ n ∧ n - i ≤ gg ∧ s27 = .int .i64 i ∧ Aside0 (Below w.heap.size w wr) ∧ Aside0 (Kd.R (Kd.int .i64) 3 wr w.heap.size (fun _ => True) (.slice (some ⟨gg0, 0, none⟩) n d) (fFill n i)))
  case atStart => exact ⟨0, Nat.zero_le _, by omega, rfl, HB, HR⟩
  case round =>
    clear HR HB
    obtain ⟨i, hi, hgg, rfl, HB, HR⟩ := hrel
    by_cases hil : i < n
    · have hilz : (i : Int) < (n : Int) := by omega
      have q1 := Kd.R_celln (0 : Int) HR.out (i : Int) (by omega) hilz
      have q3 := Kd.R_putn HR.out (i : Int) ((n : Int) + 1)
      simp only [Int.toNat_natCast, rdOf] at q1 q3
      rw [fFill_set] at q3
      obtain ⟨q1, q2⟩ := q1
      have HQ3 := Aside0.mk q3
      have HB5 := Aside0.mk (below_set HB.out (g := gg0) (j := i) (v := .int .i64 ((n : Int) + 1)) HBS.out)
      clear q3 HR HB
      have hm1 := HM1.out
      go_wp2
      go_roundg (n - (i + 1))
      case measure => omega
      case rel => exact ⟨i + 1, by omega, by omega, by first | go_num | exact congrArg (Value.int .i64) (wrap_succ i (by omega)), HB5, HQ3⟩
    · obtain rfl : i = n := by omega
      have hkz : ¬ ((i : Int) < (i : Int)) := by omega
      rw [fFill_end] at HR
      have q1 := Kd.R_celln (0 : Int) HR.out (b : Int) (by omega) hbz
      have q3 := Kd.R_putn HR.out (b : Int) 0
      simp only [Int.toNat_natCast, rdOf] at q1 q3
      obtain ⟨q1, q2⟩ := q1
      have HQ3 := Aside0.mk (show Kd.R (Kd.int .i64) 3 (wr.setCell ⟨gg0, b, none⟩ (.int .i64 0)) w.heap.size (fun _ => True) (.slice (some ⟨gg0, 0, none⟩) i d) (fAt M1 b lo i 0 0 0) from q3)
      have HB5 := Aside0.mk (below_set HB.out (g := gg0) (j := b) (v := .int .i64 0) HBS.out)
      clear q3 HR HB
      go_upto_region 9 with (fail)
      clear q1 q2
      generalize wr.setCell ⟨gg0, b, none⟩ (.int .i64 0) = wy at HQ3 HB5 ⊢
      have HR := HQ3
      have HB := HB5
      clear HQ3 HB5
      go_wp2
      go_loopg [40] i (fun gg s40 wr => ∃ r : Nat, r ≤ i ∧ i - r ≤ gg ∧ s40 = .int .i64 r ∧ Aside0 (Below w.heap.size w wr) ∧ Aside0 (Kd.R (Kd.int .i64) 3 wr w.heap.size (fun _ => True) (.slice (some ⟨gg0, 0, none⟩) i d) (fAt M1 b lo i r 0 0)))
      case atStart => exact ⟨0, Nat.zero_le _, by omega, rfl, HB, HR⟩
      case round =>
        clear HR HB
        obtain ⟨r, hr, hgg, rfl, HB, HR⟩ := hrel
        by_cases hrl : r < i
        · have hrlz : (r : Int) < (i : Int) := by omega
          go_wp2
          go_loopg [12] i (fun gg s12 wr => ∃ e : Nat, lo + e ≤ i ∧ i - e ≤ gg ∧ s12 = .int .i64 ((lo + e : Nat) : Int) ∧ Aside0 (Below w.heap.size w wr) ∧ Aside0 (Kd.R (Kd.int .i64) 3 wr w.heap.size (fun _ => True) (.slice (some ⟨gg0, 0, none⟩) i d) (fAt M1 b lo i r e 0)))
          case atStart => exact ⟨0, by omega, by omega, rfl, HB, HR⟩
          case round =>
            clear HR HB
            obtain ⟨e, he, hgg2, rfl, HB, HR⟩ := hrel
            by_cases hel : lo + e < i
            · have helz : ((lo + e : Nat) : Int) < (i : Int) := by omega
              have HSX := Aside0.mk (fun k => fAt_succ M1 b lo i r e k)
              obtain ⟨x, hx⟩ : ∃ x, lo + e = x := ⟨_, rfl⟩
              have HX := Aside0.mk hx
              rw [hx] at helz hel HSX ⊢
              clear hx
              go_wp2
              go_loopg [13] i (fun gg s13 wr => ∃ k : Nat, lo + k ≤ i ∧ i - k ≤ gg ∧ s13 = .int .i64 ((lo + k : Nat) : Int) ∧ Aside0 (Below w.heap.size w wr) ∧ Aside0 (Kd.R (Kd.int .i64) 3 wr w.heap.size (fun _ => True) (.slice (some ⟨gg0, 0, none⟩) i d) (fAt M1 b lo i r e k)))
              case atStart => exact ⟨0, by omega, by omega, rfl, HB, HR⟩
              case round =>
                clear HR HB
                obtain ⟨k, hk, hgg3, rfl, HB, HR⟩ := hrel
                by_cases hkl : lo + k < i
                · have hklz : ((lo + k : Nat) : Int) < (i : Int) := by omega
                  have HST := HSX.out k
                  unfold fStep at HST
                  obtain ⟨y, hy⟩ : ∃ y, lo + k = y := ⟨_, rfl⟩
                  have HY := Aside0.mk hy
                  rw [hy] at hklz hkl HST ⊢
                  have g1 := (HO.out.step HB.out).c1
                  have g2 := (HO.out.step HB.out).m1.topc hel
                  have g3 := (HO.out.step HB.out).m1.cell hel hkl
                  cases hm : M1 x y with
                  | false =>
                    rw [hm] at g3 HST
                    rw [if_neg (by simp)] at HST
                    have HSA := Aside0.mk HST
                    clear hm HST
                    go_wp2
                    go_roundg (i - (k + 1))
                    case measure => omega
                    case rel => exact ⟨k + 1, by omega, by omega, by rw [← HY.out]; first | go_num | exact congrArg (Value.int .i64) (by have := HN.out; unfold wrap64; omega), HB, ⟨by rw [HSA.out]; exact HR.out⟩⟩
                  | true =>
                    rw [hm] at g3 HST
                    by_cases hxb : x = b
                    · have hxz : (x : Int) = (b : Int) := by omega
                      have hxe : ((x : Int) == (b : Int)) = true := by rw [hxz]; exact beq_self_eq_true _
                      rw [if_neg (by simp [hxb])] at HST
                      have HSA := Aside0.mk HST
                      clear hm HST hxz hxe
                      subst hxb
                      have hxe : ((x : Int) == (x : Int)) = true := beq_self_eq_true _
                      go_wp2
                      go_roundg (i - (k + 1))
                      case measure => omega
                      case rel => exact ⟨k + 1, by omega, by omega, by rw [← HY.out]; first | go_num | exact congrArg (Value.int .i64) (by have := HN.out; unfold wrap64; omega), HB, ⟨by rw [HSA.out]; exact HR.out⟩⟩
                    · have hxz : ¬ (x : Int) = (b : Int) := by omega
                      have hxe : ((x : Int) == (b : Int)) = false := beq_eq_false_iff_ne.2 hxz
                      rw [if_pos (by simp [hxb])] at HST
                      have hup := fAt_B M1 b lo i r e k
                      have hu1 := hup.up x
                      have hu2 := hup.up y
                      have q1 := Kd.R_celln (0 : Int) HR.out (y : Int) (by omega) hklz
                      have q2 := Kd.R_celln (0 : Int) HR.out (x : Int) (by omega) helz
                      obtain ⟨dx, hdx⟩ : ∃ z, (fAt M1 b lo i r e k).getD x 0 = z := ⟨_, rfl⟩
                      obtain ⟨dy, hdy⟩ : ∃ z, (fAt M1 b lo i r e k).getD y 0 = z := ⟨_, rfl⟩
                      have q3 := Kd.R_putn HR.out (x : Int) (mn dx (dy + 1))
                      simp only [Int.toNat_natCast, rdOf] at q1 q2 q3
                      rw [hdy] at q1 hu2
                      rw [hdx] at q2 hu1
                      rw [hdx, hdy] at HST
                      rw [← HST] at q3
                      have hm1 : wrap64 (dy + 1) = dy + 1 := by have := HN.out; unfold wrap64; omega
                      have HS0 := Aside0.mk (show (fun w' : World => w'.cell? ⟨gg0, y, none⟩ = some (.int .i64 dy) ∧ w'.cell? ⟨gg0, x, none⟩ = some (.int .i64 dx) ∧ w'.frozen? ⟨gg0, x, none⟩ = false ∧ Aside0 (Below w.heap.size w w') ∧ Aside0 (Kd.R (Kd.int .i64) 3 (w'.setCell ⟨gg0, x, none⟩ (.int .i64 (mn dx (dy + 1)))) w.heap.size (fun _ => True) (.slice (some ⟨gg0, 0, none⟩) i d) (fAt M1 b lo i r e (k + 1)))) wr.drew from ⟨q1.1, q2.1, q2.2, ⟨below_drew1 HB.out⟩, ⟨q3⟩⟩)
                      have HM3 := Aside0.mk hm1
                      clear hm HST hup hu1 hu2 hdx hdy q1 q2 q3 HB HR hm1
                      go_upto_region 18 with (fail)
                      clear g1 g2 g3 hxz hxe hxb
                      have hm1 := HM3.out
                      all_goals refine start_ (n := 14) (S := (fun w' => w'.cell? ⟨gg0, y, none⟩ = some (.int .i64 dy) ∧ w'.cell? ⟨gg0, x, none⟩ = some (.int .i64 dx) ∧ w'.frozen? ⟨gg0, x, none⟩ = false ∧ Aside0 (Below w.heap.size w w') ∧ Aside0 (Kd.R (Kd.int .i64) 3 (w'.setCell ⟨gg0, x, none⟩ (.int .i64 (mn dx (dy + 1)))) w.heap.size (fun _ => True) (.slice (some ⟨gg0, 0, none⟩) i d) (fAt M1 b lo i r e (k + 1))))) (ds := [13]) (bl 0 14) (by kernel_rfl) rfl rfl HS0.out (fun hHeld => ?_); refine with_tabW impl_order_chain.tab18 impl_order_chain.bits18 (fun HT_ HW_ => ?_)
                      all_goals generalize wr.drew = wv at hHeld ⊢
                      all_goals first | refine pA_ 0 (some 69) (bl 1 14) HT_.out (h := ?_) | refine pO_ 0 (some 69) (bl 1 14) HT_.out (h := ?_)
                      all_goals first | refine pA_ 1 (some 70) (bl 2 14) HT_.out (h := ?_) | refine pO_ 1 (some 70) (bl 2 14) HT_.out (h := ?_)
                      all_goals first | refine pA_ 2 (some 71) (bl 3 14) HT_.out (h := ?_) | refine pO_ 2 (some 71) (bl 3 14) HT_.out (h := ?_)
                      all_goals first | refine pA_ 3 (some 72) (bl 4 14) HT_.out (h := ?_) | refine pO_ 3 (some 72) (bl 4 14) HT_.out (h := ?_)
                      all_goals first | refine pA_ 4 (some 73) (bl 5 14) HT_.out (h := ?_) | refine pO_ 4 (some 73) (bl 5 14) HT_.out (h := ?_)
                      all_goals first | refine pA_ 6 (some 75) (bx 5 [6] 14) HT_.out (h := ?_) | refine pO_ 6 (some 75) (bx 5 [6] 14) HT_.out (h := ?_)
                      all_goals first | refine pA_ 7 (some 76) (bx 5 [6, 7] 14) HT_.out (h := ?_) | refine pO_ 7 (some 76) (bx 5 [6, 7] 14) HT_.out (h := ?_)
                      all_goals first | refine pA_ 8 (some 77) (bx 5 [6, 7, 8] 14) HT_.out (h := ?_) | refine pO_ 8 (some 77) (bx 5 [6, 7, 8] 14) HT_.out (h := ?_)
                      all_goals first | refine tA_ 5 (some 74) (bl 9 14) HT_.out HW_.out hHeld (h := ?_) | refine pO_ 5 (some 74) (bl 9 14) HT_.out (h := ?_)
                      all_goals first | refine tA_ 9 (some 78) (bl 10 14) HT_.out HW_.out hHeld (h := ?_) | refine pO_ 9 (some 78) (bl 10 14) HT_.out (h := ?_)
                      all_goals first | refine pA_ 10 (some 79) (bl 11 14) HT_.out (h := ?_) | refine pO_ 10 (some 79) (bl 11 14) HT_.out (h := ?_)
                      all_goals first | refine pA_ 11 (some 80) (bl 12 14) HT_.out (h := ?_) | refine pO_ 11 (some 80) (bl 12 14) HT_.out (h := ?_)
                      all_goals first | refine pA_ 12 (some 81) (bl 13 14) HT_.out (h := ?_) | refine pO_ 12 (some 81) (bl 13 14) HT_.out (h := ?_)
                      all_goals (refine last_ (i := 13) (N := none) (bl 14 14) rfl rfl (one_of HT_.out (by kernel_rfl)) (by decide) (fun K hK => ?_); refine skip_ (by rfl) rfl (by go_simp; rfl) ?_; refine hK.out _ _ ?_; clear hK K)
                      all_goals refine done_ (done_of HT_.out (by kernel_rfl)) ?_
                      have HB := hHeld.2.2.2.1
                      have HR := hHeld.2.2.2.2
                      clear hHeld hm1
                      rw [show (if dy + 1 < dx then dy + 1 else dx) = mn dx (dy + 1) from rfl]
                      have HB5 := Aside0.mk (below_set HB.out (g := gg0) (j := x) (v := .int .i64 (mn dx (dy + 1))) HBS.out)
                      clear HB
                      go_wp2
                      go_roundg (i - (k + 1))
                      case measure => omega
                      case rel => exact ⟨k + 1, by omega, by omega, by rw [← HY.out]; first | go_num | exact congrArg (Value.int .i64) (by have := HN.out; unfold wrap64; omega), HB5, HR⟩
                · obtain rfl : k = i - lo := by omega
                  have hkz : ¬ (((lo + (i - lo) : Nat) : Int) < (i : Int)) := by omega
                  rw [fAt_row] at HR
                  go_wp2
                  go_roundg (i - (e + 1))
                  case measure => (have := HX.out; omega)
                  case rel => exact ⟨e + 1, by have := HX.out; omega, by omega, by rw [← HX.out]; first | go_num | exact congrArg (Value.int .i64) (by have := HN.out; have := HX.out; unfold wrap64; omega), HB, HR⟩
            · obtain rfl : e = i - lo := by omega
              have hkz : ¬ (((lo + (i - lo) : Nat) : Int) < (i : Int)) := by omega
              rw [fAt_round] at HR
              go_wp2
              go_roundg (i - (r + 1))
              case measure => omega
              case rel => exact ⟨r + 1, by omega, by omega, by first | go_num | exact congrArg (Value.int .i64) (wrap_succ r (by omega)), HB, HR⟩
        · obtain rfl : r = i := by omega
          have hkz : ¬ ((r : Int) < (r : Int)) := by omega
          have HRD := Aside0.mk (show Kd.R (Kd.int .i64) 3 wr w.heap.size (fun _ => True) (.slice (some ⟨gg0, 0, none⟩) r d) (fAll M1 b lo r r) from HR.out)
          clear HR
          have HUP := Aside0.mk (fB_all M1 b lo r r)
          generalize fAll M1 b lo r r = ds at HRD HRES HUP
          obtain ⟨w8, rfl⟩ : ∃ x, x = wr := ⟨_, rfl⟩
          have HO2 := Aside0.mk (HO.out.step HB.out)
          have HD := Aside0.mk (show Kd.C (Kd.int .i64) w8 (some ⟨gg0, 0, none⟩) r ds from by have h := (Kd.R_reads' HRD.out).2.2; rw [HUP.out.len] at h; exact h)
          have HW1 := Aside0.mk HB.out
          clear HRD HB HO
          obtain ⟨ad0, had0⟩ : ∃ ad0 : Addr, (⟨gg0, 0, none⟩ : Addr) = ad0 := ⟨_, rfl⟩
          rw [had0] at HD ⊢
          clear had0
          go_upto_region 21 with ((with_reducible refine gate_dst (N := 84) rfl ?_); refine Kd.R_lit (Kd.int .i64) (w0 := w8) w8.heap.size 3 ?hg (N := 84) ?hd (xs := [(a0 : Int)]) (inner := [.int .i64 (a0 : Int)]) (ok := fun _ => True) (okp := fun _ => True) ?hr ?hp (fun _ hk => hk) trivial (Below.refl _ _) (Nat.le_refl _) (by simp) ?_; (case hd => rfl); (case hg => rfl); (case hr => first | (go_simp; done) | (go_simp; rfl)); (case hp => exact Kd.reps_scalar [(a0 : Int)]); intro v10 w3 ho hb_ hg_ hnew_; clear hg_ hnew_; have HR := Aside0.mk ho; have HB := Aside0.mk hb_; clear ho hb_)
          go_wp2
          go_loopg [14, 15] F (fun gg s14 s15 wq => ∃ (a u : Nat) (ys : List Int) (q : Option (List Int)), a < r ∧ u ≤ gg ∧ s15 = .int .i64 a ∧ chainGo M1 ds r b lo u a = some q ∧ res.map ((a0 : Int) :: ·) = q.map (ys ++ ·) ∧ 0 < ys.length ∧ ys.length + u ≤ F + 1 ∧ Aside0 (Below w8.heap.size w8 wq) ∧ Aside0 (Kd.R (Kd.int .i64) 3 wq w8.heap.size (fun _ => True) s14 ys))
          case atStart => exact ⟨a0, F, [(a0 : Int)], res, ha, Nat.le_refl _, rfl, HRES.out, by cases res <;> rfl, by simp, by simp; omega, HB, HR⟩
          case round =>
            clear HR HB
            obtain ⟨a, u, ys, q, hal, hgg, rfl, hgo, hq, hyp, hyu, HB, HR⟩ := hrel
            have halz : (a : Int) < (r : Int) := by omega
            have HQ := Aside0.mk hq
            have HYP := Aside0.mk hyp
            have HXL := Aside0.mk (show ys.length ≤ 1001 from by have := HFF.out; omega)
            cases u with
            | zero => simp [chainGo] at hgo
            | succ u =>
            have HYU := Aside0.mk hyu
            simp only [chainGo] at hgo
            have HGO := Aside0.mk hgo
            clear hgo hq hyp hyu
            go_wp2
            go_loopg [16, 17] r (fun gg s16 s17 wz => ∃ k : Nat, lo + k ≤ r ∧ r - k ≤ gg ∧ s17 = .int .i64 ((lo + k : Nat) : Int) ∧ s16 = .int .i64 (selTo M1 ds r a lo k) ∧ Aside0 (Below w8.heap.size w8 wz) ∧ Aside0 (Kd.R (Kd.int .i64) 3 wz w8.heap.size (fun _ => True) u14 ys))
            case atStart => exact ⟨0, by omega, by omega, rfl, rfl, HB, HR⟩
            case round =>
              clear HB HR
              obtain ⟨k, hk, hgg3, rfl, rfl, HB, HR⟩ := hrel
              have hsr := selTo_range M1 ds r a lo k
              have HSS := Aside0.mk (selTo_succ M1 ds r a lo k)
              by_cases hkl : lo + k < r
              · generalize selTo M1 ds r a lo k = s at hsr HSS ⊢
                obtain ⟨y, hy⟩ : ∃ y, lo + k = y := ⟨_, rfl⟩
                have HY := Aside0.mk hy
                rw [hy] at HSS hkl ⊢
                have hklz : (y : Int) < (r : Int) := by omega
                have g1 := (HO2.out.step HB.out).c1
                have g2 := (HO2.out.step HB.out).m1.topc hal
                have g3 := (HO2.out.step HB.out).m1.cell hal hkl
                obtain ⟨mk, hmk⟩ : ∃ x, M1 a y = x := ⟨_, rfl⟩
                rw [hmk] at g3
                obtain ⟨adk, e1, hxk⟩ := Kd.at_int HD.out (y : Int) (by omega) hklz
                cases e1
                rw [show rd ds (y : Int) = ds.getD y 0 from by simp [rd], Int.toNat_natCast] at hxk
                obtain ⟨dy, hdy⟩ : ∃ x, ds.getD y 0 = x := ⟨_, rfl⟩
                rw [hdy] at hxk
                replace hxk := (HB.out.cell (World.block_lt_of_cell? w8 _ hxk)).trans hxk
                have HSS := Aside0.mk (show selTo M1 ds r a lo (k + 1) = if (mk && decide (dy ≤ (r : Int)) && (decide (s < 0) || decide (dy < ds.getD s.toNat 0))) = true then (y : Int) else s from by rw [HSS.out]; unfold selStep; rw [hmk, hdy])
                clear hmk hdy
                cases mk with
                | false =>
                  have HSL := Aside0.mk (HSS.out.trans (if_neg (by simp)))
                  clear hxk
                  go_wp2
                  repeat (go_quiet (fail); try go_wp2)
                  go_roundg (r - (k + 1))
                  case measure => omega
                  case rel => exact ⟨k + 1, by omega, by omega, by rw [← HY.out]; first | go_num | exact congrArg (Value.int .i64) (by have := HN.out; unfold wrap64; omega), by rw [HSL.out], ⟨by repeat (first | exact HB.out | apply below_alloc | apply pw_below_drewN | apply below_drew1)⟩, ⟨by (with_reducible repeat (first | apply Kd.R_alloc | apply Kd.R_drewN | apply Kd.R_drew)); exact HR.out⟩⟩
                | true =>
                  by_cases hle : dy ≤ (r : Int)
                  · have hle2 : decide (dy ≤ (r : Int)) = true := decide_eq_true hle
                    rcases hsr with hs | ⟨sq, hsq, hs⟩
                    · have HSL := Aside0.mk (HSS.out.trans (if_pos (by rw [hle2, hs]; rfl)))
                      subst hs
                      have hs1 : decide ((-1 : Int) < 0) = true := by decide
                      go_wp2
                      repeat (go_quiet (fail); try go_wp2)
                      go_roundg (r - (k + 1))
                      case measure => omega
                      case rel => exact ⟨k + 1, by omega, by omega, by rw [← HY.out]; first | go_num | exact congrArg (Value.int .i64) (by have := HN.out; unfold wrap64; omega), by rw [HSL.out], ⟨by repeat (first | exact HB.out | apply below_alloc | apply pw_below_drewN | apply below_drew1)⟩, ⟨by (with_reducible repeat (first | apply Kd.R_alloc | apply Kd.R_drewN | apply Kd.R_drew)); exact HR.out⟩⟩
                    · subst hs
                      have hs1 : ¬ ((sq : Int) < 0) := by omega
                      have hs2 : decide ((sq : Int) < 0) = false := decide_eq_false hs1
                      have hsqz : (sq : Int) < (r : Int) := by omega
                      obtain ⟨ads, e1, hxs⟩ := Kd.at_int HD.out (sq : Int) (by omega) hsqz
                      cases e1
                      rw [show rd ds (sq : Int) = ds.getD sq 0 from by simp [rd], Int.toNat_natCast] at hxs
                      replace hxs := (HB.out.cell (World.block_lt_of_cell? w8 _ hxs)).trans hxs
                      rw [Int.toNat_natCast] at HSS
                      obtain ⟨dq, hdq⟩ : ∃ x, ds.getD sq 0 = x := ⟨_, rfl⟩
                      rw [hdq] at hxs HSS
                      clear hdq
                      by_cases hlt : dy < dq
                      · have hlt2 : decide (dy < dq) = true := decide_eq_true hlt
                        have HSL := Aside0.mk (HSS.out.trans (if_pos (by rw [hle2, hlt2]; simp)))
                        go_wp2
                        repeat (go_quiet (fail); try go_wp2)
                        go_roundg (r - (k + 1))
                        case measure => omega
                        case rel => exact ⟨k + 1, by omega, by omega, by rw [← HY.out]; first | go_num | exact congrArg (Value.int .i64) (by have := HN.out; unfold wrap64; omega), by rw [HSL.out], ⟨by repeat (first | exact HB.out | apply below_alloc | apply pw_below_drewN | apply below_drew1)⟩, ⟨by (with_reducible repeat (first | apply Kd.R_alloc | apply Kd.R_drewN | apply Kd.R_drew)); exact HR.out⟩⟩
                      · have hlt2 : decide (dy < dq) = false := decide_eq_false hlt
                        have HSL := Aside0.mk (HSS.out.trans (if_neg (by rw [hlt2, hs2]; simp)))
                        go_wp2
                        repeat (go_quiet (fail); try go_wp2)
                        go_roundg (r - (k + 1))
                        case measure => omega
                        case rel => exact ⟨k + 1, by omega, by omega, by rw [← HY.out]; first | go_num | exact congrArg (Value.int .i64) (by have := HN.out; unfold wrap64; omega), by rw [HSL.out], ⟨by repeat (first | exact HB.out | apply below_alloc | apply pw_below_drewN | apply below_drew1)⟩, ⟨by (with_reducible repeat (first | apply Kd.R_alloc | apply Kd.R_drewN | apply Kd.R_drew)); exact HR.out⟩⟩
                  · have hle2 : decide (dy ≤ (r : Int)) = false := decide_eq_false hle
                    have HSL := Aside0.mk (HSS.out.trans (if_neg (by rw [hle2]; simp)))
                    go_wp2
                    repeat (go_quiet (fail); try go_wp2)
                    go_roundg (r - (k + 1))
                    case measure => omega
                    case rel => exact ⟨k + 1, by omega, by omega, by rw [← HY.out]; first | go_num | exact congrArg (Value.int .i64) (by have := HN.out; unfold wrap64; omega), by rw [HSL.out], ⟨by repeat (first | exact HB.out | apply below_alloc | apply pw_below_drewN | apply below_drew1)⟩, ⟨by (with_reducible repeat (first | apply Kd.R_alloc | apply Kd.R_drewN | apply Kd.R_drew)); exact HR.out⟩⟩
              · obtain rfl : k = r - lo := by omega
                have hkz : ¬ (((lo + (r - lo) : Nat) : Int) < (r : Int)) := by omega
                clear HSS
                generalize selTo M1 ds r a lo (r - lo) = s at hsr HGO ⊢
                rcases hsr with hs | ⟨sq, hsq, hs⟩
                · subst hs
                  have hs1 : ((-1 : Int) < 0) := by decide
                  have h1 := HGO.out
                  rw [if_pos (by decide)] at h1
                  obtain rfl := Option.some.inj h1
                  have HRN := Aside0.mk (show res = none from by have := HQ.out; cases res with | none => rfl | some t => cases this)
                  clear h1
                  go_wp2
                  go_ret
                  exact ⟨_, rfl, below_chain HW1.out HB.out, fun _ => rfl, fun t ht => by rw [HRN.out] at ht; cases ht⟩
                · subst hs
                  have hs1 : ¬ ((sq : Int) < 0) := by omega
                  have h1 := HGO.out
                  rw [if_neg hs1] at h1
                  have hsqz : (sq : Int) < (r : Int) := by omega
                  by_cases hsb : sq = b
                  · subst hsb
                    rw [if_pos rfl] at h1
                    obtain rfl := Option.some.inj h1
                    have hxe : ((sq : Int) == (sq : Int)) = true := beq_self_eq_true _
                    clear h1
                    go_wp2_with ((with_reducible refine gate_builtin (b := .append) (xs := #[.tmp 128, .tmp 130]) rfl ?_); at_builtin; refine Kd.R_append (Kd.int .i64) (w0 := w8) w8.heap.size rfl (.tmp 128) (.tmp 130) 27 3 (.int .i64 0) 8 rfl Try.underlying27 info3 rfl (by decide) (by omega) u14 (ys) (sq : Int) [.int .i64 (sq : Int)] (fun _ => True) (fun _ => False) rfl rfl rfl (fun _ hk => hk.elim) (fun _ _ => trivial) ?aO ?aB ?aS ?aL ?_; (case aO => exact (by (with_reducible repeat (first | apply Kd.R_alloc | apply Kd.R_drewN | apply Kd.R_drew)); exact HR.out)); (case aB => exact (by repeat (first | exact HB.out | apply below_alloc | apply pw_below_drewN | apply below_drew1))); (case aS => exact below_size (by repeat (first | exact HB.out | apply below_alloc | apply pw_below_drewN | apply below_drew1))); (case aL => (first | (simp only [List.length_nil]; omega) | (have := HXL.out; omega))); intro v9 w9 ho hb hg hat; have HB9 := Aside0.mk hb; have HR9 := Aside0.mk ho; clear hg hat ho hb)
                    go_ret
                    have hq2 := HQ.out
                    exact ⟨_, rfl, below_chain HW1.out HB9.out, fun h => (by rw [h] at hq2; cases hq2), fun t ht => (by
                      rw [ht] at hq2
                      rw [show ((a0 : Int) :: t) = ys ++ [(sq : Int)] from Option.some.inj hq2]
                      exact Kd.R_lower HR9.out HW1.out.size)⟩
                  · have hsz : ¬ (sq : Int) = (b : Int) := by omega
                    have hxe : ((sq : Int) == (b : Int)) = false := beq_eq_false_iff_ne.2 hsz
                    rw [if_neg hsz, Int.toNat_natCast] at h1
                    obtain ⟨q2, hq2, hq3⟩ := Option.map_eq_some_iff.1 h1
                    have HQ2 := Aside0.mk hq2
                    have HQ3 := Aside0.mk hq3
                    clear h1 hq2 hq3 hsb
                    go_wp2_with ((with_reducible refine gate_builtin (b := .append) (xs := #[.tmp 128, .tmp 130]) rfl ?_); at_builtin; refine Kd.R_append (Kd.int .i64) (w0 := w8) w8.heap.size rfl (.tmp 128) (.tmp 130) 27 3 (.int .i64 0) 8 rfl Try.underlying27 info3 rfl (by decide) (by omega) u14 (ys) (sq : Int) [.int .i64 (sq : Int)] (fun _ => True) (fun _ => False) rfl rfl rfl (fun _ hk => hk.elim) (fun _ _ => trivial) ?aO ?aB ?aS ?aL ?_; (case aO => exact (by (with_reducible repeat (first | apply Kd.R_alloc | apply Kd.R_drewN | apply Kd.R_drew)); exact HR.out)); (case aB => exact (by repeat (first | exact HB.out | apply below_alloc | apply pw_below_drewN | apply below_drew1))); (case aS => exact below_size (by repeat (first | exact HB.out | apply below_alloc | apply pw_below_drewN | apply below_drew1))); (case aL => (first | (simp only [List.length_nil]; omega) | (have := HXL.out; omega))); intro v9 w9 ho hb hg hat; have HB9 := Aside0.mk hb; have HR9 := Aside0.mk ho; clear hg hat ho hb)
                    go_roundg u
                    case measure => omega
                    case rel => exact ⟨sq, u, ys ++ [(sq : Int)], q2, by omega, Nat.le_refl _, rfl, HQ2.out, by rw [HQ.out, ← HQ3.out]; cases q2 <;> simp, by simp, by have := HYU.out; simp; omega, HB9, HR9⟩

end Go.Proofs.Ytdiejmhphhdcfaa.Q
