-- Written by a program of this session (wip/xprint.py over the kit's printer).
import Derived.Test.YtdmbboijcaelcaaDoorQ0
import Derived.Test.YtdmbboijcaelcaaDoorQF116
import Derived.Test.YtdmbboijcaelcaaDoorQF117
import Derived.Test.YtdmbboijcaelcaaDoorQP
namespace Go.Proofs.YtdmbboijcaelcaaDoor.Q
open Go.RowKit Go.Proofs.YtdmbboijcaelcaaDoorW.PrintWords Go.Proofs.YtdmbboijcaelcaaDoorW.PrintLast
set_option linter.unusedVariables false
set_option linter.unusedSimpArgs false

/-! ### impl_recordLines: function 79 -/
/-- What is asked of a predicate on numbers that is handed over as a function value. -/
def PredK (P : Program) (g : Nat) (lb : Array Value) (p : List Int → Bool) (w : World) : Prop :=
  ∀ (W : World) (A : Option Addr) (c : Nat) (ns : List Int), Below w.heap.size w W → Kd.C (Kd.int .i64) W A ns.length ns → ns.length ≤ c → Calls P g (#[.slice A ns.length c] ++ lb) W fun e w' => e = .returned (.bool (p ns)) ∧ Below W.heap.size W w'
def keepC (p : List Int → Bool) (l : List S94) : List ByteArray := (l.filter fun x => p [x.f0]).map ctxB
def keepR (p : List Int → Bool) (cs : List S94) (l : List S96) : List ByteArray := keepC p cs ++ (l.filter fun x => p [x.f0, x.f1]).map relB
theorem keepC_snoc (p : List Int → Bool) (l : List S94) (i : Nat) (hi : i < l.length) : keepC p (l.take (i + 1)) = if p [(l.getD i z94).f0] = true then keepC p (l.take i) ++ [ctxB (l.getD i z94)] else keepC p (l.take i) := by
  unfold keepC
  rw [List.take_succ_eq_append_getElem hi, List.getD_eq_getElem?_getD, List.getElem?_eq_getElem hi, Option.getD_some, List.filter_append, List.filter_cons, List.filter_nil]
  cases h : p [(l[i]).f0] <;> simp
theorem keepR_snoc (p : List Int → Bool) (cs : List S94) (l : List S96) (i : Nat) (hi : i < l.length) : keepR p cs (l.take (i + 1)) = if p [(l.getD i z96).f0, (l.getD i z96).f1] = true then keepR p cs (l.take i) ++ [relB (l.getD i z96)] else keepR p cs (l.take i) := by
  unfold keepR
  rw [List.take_succ_eq_append_getElem hi, List.getD_eq_getElem?_getD, List.getElem?_eq_getElem hi, Option.getD_some, List.filter_append, List.filter_cons, List.filter_nil]
  cases h : p [(l[i]).f0, (l[i]).f1] <;> simp [List.append_assoc]
theorem keepC_le (p : List Int → Bool) (l : List S94) : (keepC p l).length ≤ l.length := by
  unfold keepC
  rw [List.length_map]
  exact List.length_filter_le _ _
theorem keepR_len (p : List Int → Bool) (cs : List S94) (l : List S96) : (keepR p cs l).length ≤ cs.length + l.length := by
  unfold keepR
  rw [List.length_append, List.length_map]
  exact Nat.add_le_add (keepC_le p cs) (List.length_filter_le _ _)
/-- What the lines of a context want. -/
structure OkC (x : S94) : Prop where
  a : -9223372036854775808 ≤ x.f0
  b : x.f0 ≤ 9223372036854775807
  c : 0 ≤ x.f1
  d : x.f1 < 5
  e : (itB x.f0).size ≤ 1048576
  f : (rdOf ByteArray.empty kws x.f1).size ≤ 1048576
structure OkR (x : S96) : Prop where
  a : -9223372036854775808 ≤ x.f0
  b : x.f0 ≤ 9223372036854775807
  c : -9223372036854775808 ≤ x.f1
  d : x.f1 ≤ 9223372036854775807
  e : (itB x.f0).size ≤ 1048576
  f : (itB x.f1).size ≤ 1048576
set_option maxHeartbeats 2000000 in
set_option maxRecDepth 100000 in
theorem impl_recordLines.calls (g : Nat) (lb : Array Value) (eg : ∀ args w, (callFunc g args).run Tryd.prog w = .ok (.enter g args) w) (p : List Int → Bool) (A0_0 : Option Addr) (c0_0 : Nat) (l0_0 : List S94) (A0_1 : Option Addr) (c0_1 : Nat) (l0_1 : List S96) (w : World) (hr0_0 : Kd.C k94 w A0_0 l0_0.length l0_0) (hc0_0 : l0_0.length ≤ c0_0) (hr0_1 : Kd.C k96 w A0_1 l0_1.length l0_1) (hc0_1 : l0_1.length ≤ c0_1) (hn0 : l0_0.length ≤ 1000) (hn1 : l0_1.length ≤ 1000) (hv0 : ∀ x ∈ l0_0, OkC x) (hv1 : ∀ x ∈ l0_1, OkR x) (hp : PredK Tryd.prog g lb p w) (hl : LW w) :
    Calls Tryd.prog 79 #[.agg #[.slice A0_0 l0_0.length c0_0, .slice A0_1 l0_1.length c0_1], .func (.func g) #[] lb] w fun e w' => ∃ v : Value, e = .returned v ∧ Kd.R Kd.string 9 w' w.heap.size (fun _ => True) v (keepR p l0_0 l0_1) ∧ Below w.heap.size w w' := by
  have HN0 := Aside0.mk hn0
  have HN1 := Aside0.mk hn1
  have HV0 := Aside0.mk hv0
  have HV1 := Aside0.mk hv1
  have HP := Aside0.mk hp
  have HL := Aside0.mk hl
  clear hn0 hn1 hv0 hv1 hp hl
  have HR0 := Aside0.mk hr0_0
  have HR1 := Aside0.mk hr0_1
  have HC0 := Aside0.mk hc0_0
  have HC1 := Aside0.mk hc0_1
  clear hr0_0 hr0_1 hc0_0 hc0_1
  obtain ⟨wb, hwb⟩ : ∃ wb, (w).alloc (.cells #[.slice A0_0 l0_0.length c0_0, .slice A0_1 l0_1.length c0_1] 52 (0, 0)) = wb := ⟨_, rfl⟩
  have HBw := Aside0.mk (show Below w.heap.size w wb from by rw [← hwb]; repeat (first | exact Below.refl _ _ | apply below_alloc))
  have HWB := HBw
  have hhr : wb.heap[w.heap.size]? = some (.cells #[.slice A0_0 l0_0.length c0_0, .slice A0_1 l0_1.length c0_1] 52 (0, 0)) := by rw [← hwb]; have h := blk_new (w) (.cells #[.slice A0_0 l0_0.length c0_0, .slice A0_1 l0_1.length c0_1] 52 (0, 0)); rw [show (w).heap.size = w.heap.size from by rfl] at h; exact h
  have hb0 : wb.cell? ⟨w.heap.size, 0, none⟩ = some (.slice A0_0 l0_0.length c0_0) := (blk_cell hhr 0).trans rfl
  have hb1 : wb.cell? ⟨w.heap.size, 1, none⟩ = some (.slice A0_1 l0_1.length c0_1) := (blk_cell hhr 1).trans rfl
  have hbs : w.heap.size < wb.heap.size := blk_lt hhr
  have HW := Aside0.mk hwb
  clear hwb
  go_enter Tryd.func79, Tryd.ntmps79
  go_upto_region 1 with (fail)
  try rw [HW.out]
  clear HW
  go_upto_region 2 with ((with_reducible refine gate_dst (N := 10) rfl ?_); refine Kd.R_lit Kd.string _ 9 ?hg (N := 10) ?hd (xs := ([] : List ByteArray)) (inner := []) (ok := fun _ => True) (okp := fun _ => True) ?hr ?hp (fun _ hk => hk) trivial (Below.refl _ _) (Nat.le_refl _) (by simp) ?_; (case hd => rfl); (case hg => rfl); (case hr => first | (go_simp; done) | (go_simp; rfl)); (case hp => exact (Reps.none _ _)); intro v0 w1 ho hb hg_ hnew_; clear hg_ hnew_; have HR := Aside0.mk (Kd.R_lower ho HBw.out.size); have HBw : Aside0 (Below w.heap.size w w1) := Aside0.mk (below_chain (w := w) (by repeat (first | exact HBw.out | exact Below.refl _ _ | apply below_alloc | apply pw_below_drewN | apply below_drew1)) hb); have hb0 := pw_cell_below hb hb0; have hb1 := pw_cell_below hb hb1; have HZ := Aside0.mk (blk_below hhr hb); clear ho hb hhr)
  go_wp2
  go_loopg [5, 7, 14] l0_0.length (fun gg s5 _ s14 wr => ∃ i : Nat, i ≤ l0_0.length ∧ l0_0.length - i ≤ gg ∧ s14 = .int .i64 i ∧ Aside0 (Below w.heap.size w wr) ∧ Aside0 (wr.heap[w.heap.size]? = some (.cells #[.slice A0_0 l0_0.length c0_0, .slice A0_1 l0_1.length c0_1] 52 (0, 0))) ∧ Aside0 (Kd.R Kd.string 9 wr w.heap.size (fun _ => True) s5 (keepC p (l0_0.take i))))
  case atStart => exact ⟨0, Nat.zero_le _, by omega, rfl, HBw, HZ, ⟨HR.out⟩⟩
  case round =>
    clear HR hb0 hb1 HBw HZ
    obtain ⟨i, hi, hgg, rfl, HB, HZ, HR⟩ := hrel
    by_cases hlt : i < l0_0.length
    · have hltz : (i : Int) < (l0_0.length : Int) := by omega
      obtain ⟨ad, e1, hx0, hx1⟩ := at_T94 HR0.out (i : Int) (by omega) hltz
      cases e1
      have e6 : rd_T94 l0_0 (i : Int) = l0_0.getD i z94 := by simp [rd_T94]
      rw [e6] at hx0 hx1
      simp only [Int.toNat_natCast] at hx0 hx1
      replace hx0 := (HB.out.cell (World.block_lt_of_cell? w _ hx0)).trans hx0
      replace hx1 := (HB.out.cell (World.block_lt_of_cell? w _ hx1)).trans hx1
      have hmem : l0_0.getD i z94 ∈ l0_0 := by rw [List.getD_eq_getElem?_getD, List.getElem?_eq_getElem hlt]; exact List.getElem_mem hlt
      have HS := keepC_snoc p l0_0 i hlt
      generalize l0_0.getD i z94 = y at hx0 hx1 HS hmem
      have HY := Aside0.mk (HV0.out y hmem)
      have HSA := Aside0.mk HS
      have HLE := Aside0.mk (Nat.le_trans (keepC_le p (l0_0.take i)) (Nat.le_trans (List.length_take_le _ _) (Nat.le_trans hi HN0.out)))
      clear e6 hmem HS
      go_upto_region 5 with (fail)
      have hal1 := below_alloc (Below.refl wr.heap.size wr) (.cells #[.int .i64 y.f0, .int .i64 y.f1] 94 (0, 0))
      have BK3 := Aside0.mk (heap_alloc_new wr (.cells #[.int .i64 y.f0, .int .i64 y.f1] 94 (0, 0)))
      have HB := Aside0.mk (below_chain (w := w) HB.out hal1)
      have HR := Aside0.mk (Kd.R_below HR.out hal1)
      have HZ := Aside0.mk (blk_below HZ.out hal1)
      clear hx0 hx1 hal1
      generalize wr.alloc (.cells #[.int .i64 y.f0, .int .i64 y.f1] 94 (0, 0)) = wq2 at HB HR BK3 HZ ⊢
      generalize wr.heap.size = gy at BK3 ⊢
      have z0 : wq2.cell? ⟨gy, 0, none⟩ = some (.int .i64 y.f0) := (blk_cell BK3.out 0).trans rfl
      have z1 : wq2.cell? ⟨gy, 1, none⟩ = some (.int .i64 y.f1) := (blk_cell BK3.out 1).trans rfl
      clear BK3
      cases hq : p [y.f0] with
      | true =>
        have HSB := Aside0.mk (show (keepC p (l0_0.take (i + 1))) = (keepC p (l0_0.take i)) ++ [ctxB y] from by rw [HSA.out, if_pos hq])
        have HPK := Aside0.mk (fun (W : World) (A : Option Addr) (c : Nat) (hB : Below w.heap.size w W) (hC : Kd.C (Kd.int .i64) W A [y.f0].length [y.f0]) (hc : [y.f0].length ≤ c) => show Calls Tryd.prog g (#[.slice A [y.f0].length c] ++ lb) W (fun e w' => e = .returned (.bool true) ∧ Below W.heap.size W w') from by have h := HP.out W A c [y.f0] hB hC hc; rw [hq] at h; exact h)
        clear hq
        go_wp2_with (first | ((with_reducible refine gate_dst (N := 21) rfl ?_); refine Kd.R_lit (Kd.int .i64) _ 3 ?hg (N := 21) ?hd (xs := ([y.f0] : List Int)) (inner := [.int .i64 y.f0]) (ok := fun _ => True) (okp := fun _ => True) ?hr ?hp (fun _ hk => hk) trivial (Below.refl _ _) (Nat.le_refl _) (by simp) ?_; (case hd => rfl); (case hg => rfl); (case hr => first | (go_simp; done) | (go_simp; rfl)); (case hp => exact (Reps.one (show Kd.M (Kd.int .i64) _ _ _ y.f0 [.int .i64 y.f0] from rfl) (Reps.none _ _))); intro v5 w5 ho hb hg_ hnew_; clear hg_ hnew_; obtain ⟨D, d, rfl, hd5, hC5⟩ := Kd.R_reads ho; have HCX := Aside0.mk hC5; have z0 := pw_cell_below hb z0; have z1 := pw_cell_below hb z1; have HR := Aside0.mk (Kd.R_below HR.out (below_chain (by repeat (first | exact Below.refl _ _ | apply below_alloc | apply pw_below_drewN | apply below_drew1)) hb)); have HZ := Aside0.mk (blk_below HZ.out (below_chain (by repeat (first | exact Below.refl _ _ | apply below_alloc | apply pw_below_drewN | apply below_drew1)) hb)); have HB := Aside0.mk (below_chain (w := w) (by repeat (first | exact HB.out | apply below_alloc | apply pw_below_drewN | apply below_drew1)) hb); clear ho hb hC5) | (go_at_fn g; refine (HPK.out _ D d (by repeat (first | exact HB.out | apply below_alloc | apply pw_below_drewN | apply below_drew1)) (Kd.C_below HCX.out (by repeat (first | exact Below.refl _ _ | apply below_alloc | apply pw_below_drewN | apply below_drew1))) hd5).mono ?_; rintro e w6 ⟨rfl, hb⟩; have z0 := pw_cell_below hb z0; have z1 := pw_cell_below hb z1; have HR := Aside0.mk (Kd.R_below HR.out (below_chain (by repeat (first | exact Below.refl _ _ | apply below_alloc | apply pw_below_drewN | apply below_drew1)) hb)); have HZ := Aside0.mk (blk_below HZ.out (below_chain (by repeat (first | exact Below.refl _ _ | apply below_alloc | apply pw_below_drewN | apply below_drew1)) hb)); have HB := Aside0.mk (below_chain (w := w) (by repeat (first | exact HB.out | apply below_alloc | apply pw_below_drewN | apply below_drew1)) hb); clear hb HCX hd5) | (go_at_call 116; refine (impl_contextLine.calls y _ HY.out.a HY.out.b HY.out.c HY.out.d HY.out.e HY.out.f (LW.below HL.out (by repeat (first | exact HB.out | apply below_alloc | apply pw_below_drewN | apply below_drew1)))).mono ?_; rintro e w7 ⟨rfl, hb⟩; have HR := Aside0.mk (Kd.R_below HR.out (below_chain (by repeat (first | exact Below.refl _ _ | apply below_alloc | apply pw_below_drewN | apply below_drew1)) hb)); have HZ := Aside0.mk (blk_below HZ.out (below_chain (by repeat (first | exact Below.refl _ _ | apply below_alloc | apply pw_below_drewN | apply below_drew1)) hb)); have HB := Aside0.mk (below_chain (w := w) (by repeat (first | exact HB.out | apply below_alloc | apply pw_below_drewN | apply below_drew1)) hb); clear hb z0 z1) | ((with_reducible refine gate_builtin (b := .append) (xs := #[.tmp 23, .tmp 26]) rfl ?_); at_builtin; refine Kd.R_append Kd.string (w0 := w) w.heap.size rfl (.tmp 23) (.tmp 26) 25 9 (.string ByteArray.empty) 16 rfl Tryd.underlying25 info9 rfl (by decide) (by omega) _ (keepC p (l0_0.take i)) (ctxB y) [.string (ctxB y)] (fun _ => True) (fun _ => False) rfl rfl rfl (fun _ hk => hk.elim) (fun _ _ => trivial) ?aO ?aB ?aS ?aL ?_; (case aO => exact (by (with_reducible repeat (first | apply Kd.R_alloc | apply Kd.R_drewN | apply Kd.R_drew)); exact HR.out)); (case aB => exact (by repeat (first | exact HB.out | apply below_alloc | apply pw_below_drewN | apply below_drew1))); (case aS => exact below_size (by repeat (first | exact HB.out | apply below_alloc | apply pw_below_drewN | apply below_drew1))); (case aL => have h1 := HLE.out; omega); intro v1 w8 ho hb hg hat; have HZ4 := Aside0.mk (blk_grown (by (with_reducible repeat (first | refine blk_drewN ?_ _ | refine blk_drew ?_ | refine blk_alloc ?_ _)); exact HZ.out) hg (Kd.R_ne HR.out HZ.out (by decide))); have HB4 := Aside0.mk hb; have HR4 := Aside0.mk (show Kd.R Kd.string 9 w8 w.heap.size (fun _ => True) v1 (keepC p (l0_0.take (i + 1))) from by rw [HSB.out]; exact ho); clear ho hb hg hat))
        go_roundg (l0_0.length - (i + 1))
        case measure => omega
        case rel => exact ⟨i + 1, by omega, by omega, congrArg (Value.int .i64) (wsucc i (by have := HN0.out; omega)), HB4, HZ4, HR4⟩
      | false =>
        have HR4 := Aside0.mk (show Kd.R Kd.string 9 wq2 w.heap.size (fun _ => True) _ (keepC p (l0_0.take (i + 1))) from by rw [HSA.out, if_neg (by rw [hq]; simp)]; exact HR.out)
        have HPK := Aside0.mk (fun (W : World) (A : Option Addr) (c : Nat) (hB : Below w.heap.size w W) (hC : Kd.C (Kd.int .i64) W A [y.f0].length [y.f0]) (hc : [y.f0].length ≤ c) => show Calls Tryd.prog g (#[.slice A [y.f0].length c] ++ lb) W (fun e w' => e = .returned (.bool false) ∧ Below W.heap.size W w') from by have h := HP.out W A c [y.f0] hB hC hc; rw [hq] at h; exact h)
        clear hq HR
        have HR := HR4
        clear HR4
        go_wp2_with (first | ((with_reducible refine gate_dst (N := 21) rfl ?_); refine Kd.R_lit (Kd.int .i64) _ 3 ?hg (N := 21) ?hd (xs := ([y.f0] : List Int)) (inner := [.int .i64 y.f0]) (ok := fun _ => True) (okp := fun _ => True) ?hr ?hp (fun _ hk => hk) trivial (Below.refl _ _) (Nat.le_refl _) (by simp) ?_; (case hd => rfl); (case hg => rfl); (case hr => first | (go_simp; done) | (go_simp; rfl)); (case hp => exact (Reps.one (show Kd.M (Kd.int .i64) _ _ _ y.f0 [.int .i64 y.f0] from rfl) (Reps.none _ _))); intro v5 w5 ho hb hg_ hnew_; clear hg_ hnew_; obtain ⟨D, d, rfl, hd5, hC5⟩ := Kd.R_reads ho; have HCX := Aside0.mk hC5; have z0 := pw_cell_below hb z0; have z1 := pw_cell_below hb z1; have HR := Aside0.mk (Kd.R_below HR.out (below_chain (by repeat (first | exact Below.refl _ _ | apply below_alloc | apply pw_below_drewN | apply below_drew1)) hb)); have HZ := Aside0.mk (blk_below HZ.out (below_chain (by repeat (first | exact Below.refl _ _ | apply below_alloc | apply pw_below_drewN | apply below_drew1)) hb)); have HB := Aside0.mk (below_chain (w := w) (by repeat (first | exact HB.out | apply below_alloc | apply pw_below_drewN | apply below_drew1)) hb); clear ho hb hC5) | (go_at_fn g; refine (HPK.out _ D d (by repeat (first | exact HB.out | apply below_alloc | apply pw_below_drewN | apply below_drew1)) (Kd.C_below HCX.out (by repeat (first | exact Below.refl _ _ | apply below_alloc | apply pw_below_drewN | apply below_drew1))) hd5).mono ?_; rintro e w6 ⟨rfl, hb⟩; have z0 := pw_cell_below hb z0; have z1 := pw_cell_below hb z1; have HR := Aside0.mk (Kd.R_below HR.out (below_chain (by repeat (first | exact Below.refl _ _ | apply below_alloc | apply pw_below_drewN | apply below_drew1)) hb)); have HZ := Aside0.mk (blk_below HZ.out (below_chain (by repeat (first | exact Below.refl _ _ | apply below_alloc | apply pw_below_drewN | apply below_drew1)) hb)); have HB := Aside0.mk (below_chain (w := w) (by repeat (first | exact HB.out | apply below_alloc | apply pw_below_drewN | apply below_drew1)) hb); clear hb HCX hd5))
        go_roundg (l0_0.length - (i + 1))
        case measure => omega
        case rel => exact ⟨i + 1, by omega, by omega, congrArg (Value.int .i64) (wsucc i (by have := HN0.out; omega)), HB, HZ, HR⟩
    · obtain rfl : i = l0_0.length := by omega
      have hltz : ¬ ((l0_0.length : Int) < (l0_0.length : Int)) := by omega
      rw [List.take_length] at HR
      have hb0 := (blk_cell HZ.out 0).trans rfl
      have hb1 := (blk_cell HZ.out 1).trans rfl
      have HR := Aside0.mk (show Kd.R Kd.string 9 wr w.heap.size (fun _ => True) _ (keepR p l0_0 (l0_1.take 0)) from by show Kd.R Kd.string 9 wr w.heap.size (fun _ => True) _ (keepC p l0_0 ++ []); rw [List.append_nil]; exact HR.out)
      have HBw := HB
      clear HB
      obtain ⟨wk, hwk⟩ : ∃ x, wr = x := ⟨_, rfl⟩
      rw [hwk] at hb0 hb1 HR HBw HZ ⊢
      clear hwk
      go_wp2
      go_loopg [5, 9, 32] l0_1.length (fun gg s5 _ s32 wr => ∃ i : Nat, i ≤ l0_1.length ∧ l0_1.length - i ≤ gg ∧ s32 = .int .i64 i ∧ Aside0 (Below w.heap.size w wr) ∧ Aside0 (wr.heap[w.heap.size]? = some (.cells #[.slice A0_0 l0_0.length c0_0, .slice A0_1 l0_1.length c0_1] 52 (0, 0))) ∧ Aside0 (Kd.R Kd.string 9 wr w.heap.size (fun _ => True) s5 (keepR p l0_0 (l0_1.take i))))
      case atStart => exact ⟨0, Nat.zero_le _, by omega, rfl, HBw, HZ, ⟨HR.out⟩⟩
      case round =>
        clear HR hb0 hb1 HBw HZ
        obtain ⟨i, hi, hgg, rfl, HB, HZ, HR⟩ := hrel
        by_cases hlt : i < l0_1.length
        · have hltz : (i : Int) < (l0_1.length : Int) := by omega
          obtain ⟨ad, e1, hx0, hx1⟩ := at_T96 HR1.out (i : Int) (by omega) hltz
          cases e1
          have e6 : rd_T96 l0_1 (i : Int) = l0_1.getD i z96 := by simp [rd_T96]
          rw [e6] at hx0 hx1
          simp only [Int.toNat_natCast] at hx0 hx1
          replace hx0 := (HB.out.cell (World.block_lt_of_cell? w _ hx0)).trans hx0
          replace hx1 := (HB.out.cell (World.block_lt_of_cell? w _ hx1)).trans hx1
          have hmem : l0_1.getD i z96 ∈ l0_1 := by rw [List.getD_eq_getElem?_getD, List.getElem?_eq_getElem hlt]; exact List.getElem_mem hlt
          have HS := keepR_snoc p l0_0 l0_1 i hlt
          generalize l0_1.getD i z96 = y at hx0 hx1 HS hmem
          have HY := Aside0.mk (HV1.out y hmem)
          have HSA := Aside0.mk HS
          have HLE := Aside0.mk (show (keepR p l0_0 (l0_1.take i)).length ≤ 2000 from by have h1 := keepR_len p l0_0 (l0_1.take i); have h2 := HN0.out; have h3 := HN1.out; have h4 : (l0_1.take i).length ≤ l0_1.length := (by rw [List.length_take]; omega); omega)
          clear e6 hmem HS
          go_upto_region 11 with (fail)
          have hal1 := below_alloc (Below.refl wr.heap.size wr) (.cells #[.int .i64 y.f0, .int .i64 y.f1] 96 (0, 0))
          have BK3 := Aside0.mk (heap_alloc_new wr (.cells #[.int .i64 y.f0, .int .i64 y.f1] 96 (0, 0)))
          have HB := Aside0.mk (below_chain (w := w) HB.out hal1)
          have HR := Aside0.mk (Kd.R_below HR.out hal1)
          have HZ := Aside0.mk (blk_below HZ.out hal1)
          clear hx0 hx1 hal1
          generalize wr.alloc (.cells #[.int .i64 y.f0, .int .i64 y.f1] 96 (0, 0)) = wq2 at HB HR BK3 HZ ⊢
          generalize wr.heap.size = gy at BK3 ⊢
          have z0 : wq2.cell? ⟨gy, 0, none⟩ = some (.int .i64 y.f0) := (blk_cell BK3.out 0).trans rfl
          have z1 : wq2.cell? ⟨gy, 1, none⟩ = some (.int .i64 y.f1) := (blk_cell BK3.out 1).trans rfl
          clear BK3
          cases hq : p [y.f0, y.f1] with
          | true =>
            have HSB := Aside0.mk (show (keepR p l0_0 (l0_1.take (i + 1))) = (keepR p l0_0 (l0_1.take i)) ++ [relB y] from by rw [HSA.out, if_pos hq])
            have HPK := Aside0.mk (fun (W : World) (A : Option Addr) (c : Nat) (hB : Below w.heap.size w W) (hC : Kd.C (Kd.int .i64) W A [y.f0, y.f1].length [y.f0, y.f1]) (hc : [y.f0, y.f1].length ≤ c) => show Calls Tryd.prog g (#[.slice A [y.f0, y.f1].length c] ++ lb) W (fun e w' => e = .returned (.bool true) ∧ Below W.heap.size W w') from by have h := HP.out W A c [y.f0, y.f1] hB hC hc; rw [hq] at h; exact h)
            clear hq
            go_wp2_with (first | ((with_reducible refine gate_dst (N := 41) rfl ?_); refine Kd.R_lit (Kd.int .i64) _ 3 ?hg (N := 41) ?hd (xs := ([y.f0, y.f1] : List Int)) (inner := [.int .i64 y.f0, .int .i64 y.f1]) (ok := fun _ => True) (okp := fun _ => True) ?hr ?hp (fun _ hk => hk) trivial (Below.refl _ _) (Nat.le_refl _) (by simp) ?_; (case hd => rfl); (case hg => rfl); (case hr => first | (go_simp; done) | (go_simp; rfl)); (case hp => exact (Reps.one (show Kd.M (Kd.int .i64) _ _ _ y.f0 [.int .i64 y.f0] from rfl) (Reps.one (show Kd.M (Kd.int .i64) _ _ _ y.f1 [.int .i64 y.f1] from rfl) (Reps.none _ _)))); intro v5 w5 ho hb hg_ hnew_; clear hg_ hnew_; obtain ⟨D, d, rfl, hd5, hC5⟩ := Kd.R_reads ho; have HCX := Aside0.mk hC5; have z0 := pw_cell_below hb z0; have z1 := pw_cell_below hb z1; have HR := Aside0.mk (Kd.R_below HR.out (below_chain (by repeat (first | exact Below.refl _ _ | apply below_alloc | apply pw_below_drewN | apply below_drew1)) hb)); have HZ := Aside0.mk (blk_below HZ.out (below_chain (by repeat (first | exact Below.refl _ _ | apply below_alloc | apply pw_below_drewN | apply below_drew1)) hb)); have HB := Aside0.mk (below_chain (w := w) (by repeat (first | exact HB.out | apply below_alloc | apply pw_below_drewN | apply below_drew1)) hb); clear ho hb hC5) | (go_at_fn g; refine (HPK.out _ D d (by repeat (first | exact HB.out | apply below_alloc | apply pw_below_drewN | apply below_drew1)) (Kd.C_below HCX.out (by repeat (first | exact Below.refl _ _ | apply below_alloc | apply pw_below_drewN | apply below_drew1))) hd5).mono ?_; rintro e w6 ⟨rfl, hb⟩; have z0 := pw_cell_below hb z0; have z1 := pw_cell_below hb z1; have HR := Aside0.mk (Kd.R_below HR.out (below_chain (by repeat (first | exact Below.refl _ _ | apply below_alloc | apply pw_below_drewN | apply below_drew1)) hb)); have HZ := Aside0.mk (blk_below HZ.out (below_chain (by repeat (first | exact Below.refl _ _ | apply below_alloc | apply pw_below_drewN | apply below_drew1)) hb)); have HB := Aside0.mk (below_chain (w := w) (by repeat (first | exact HB.out | apply below_alloc | apply pw_below_drewN | apply below_drew1)) hb); clear hb HCX hd5) | (go_at_call 117; refine (impl_relationLine.calls y _ HY.out.a HY.out.b HY.out.c HY.out.d HY.out.e HY.out.f (LW.below HL.out (by repeat (first | exact HB.out | apply below_alloc | apply pw_below_drewN | apply below_drew1)))).mono ?_; rintro e w7 ⟨rfl, hb⟩; have HR := Aside0.mk (Kd.R_below HR.out (below_chain (by repeat (first | exact Below.refl _ _ | apply below_alloc | apply pw_below_drewN | apply below_drew1)) hb)); have HZ := Aside0.mk (blk_below HZ.out (below_chain (by repeat (first | exact Below.refl _ _ | apply below_alloc | apply pw_below_drewN | apply below_drew1)) hb)); have HB := Aside0.mk (below_chain (w := w) (by repeat (first | exact HB.out | apply below_alloc | apply pw_below_drewN | apply below_drew1)) hb); clear hb z0 z1) | ((with_reducible refine gate_builtin (b := .append) (xs := #[.tmp 43, .tmp 46]) rfl ?_); at_builtin; refine Kd.R_append Kd.string (w0 := w) w.heap.size rfl (.tmp 43) (.tmp 46) 25 9 (.string ByteArray.empty) 16 rfl Tryd.underlying25 info9 rfl (by decide) (by omega) _ (keepR p l0_0 (l0_1.take i)) (relB y) [.string (relB y)] (fun _ => True) (fun _ => False) rfl rfl rfl (fun _ hk => hk.elim) (fun _ _ => trivial) ?aO ?aB ?aS ?aL ?_; (case aO => exact (by (with_reducible repeat (first | apply Kd.R_alloc | apply Kd.R_drewN | apply Kd.R_drew)); exact HR.out)); (case aB => exact (by repeat (first | exact HB.out | apply below_alloc | apply pw_below_drewN | apply below_drew1))); (case aS => exact below_size (by repeat (first | exact HB.out | apply below_alloc | apply pw_below_drewN | apply below_drew1))); (case aL => have h1 := HLE.out; omega); intro v1 w8 ho hb hg hat; have HZ4 := Aside0.mk (blk_grown (by (with_reducible repeat (first | refine blk_drewN ?_ _ | refine blk_drew ?_ | refine blk_alloc ?_ _)); exact HZ.out) hg (Kd.R_ne HR.out HZ.out (by decide))); have HB4 := Aside0.mk hb; have HR4 := Aside0.mk (show Kd.R Kd.string 9 w8 w.heap.size (fun _ => True) v1 (keepR p l0_0 (l0_1.take (i + 1))) from by rw [HSB.out]; exact ho); clear ho hb hg hat))
            go_roundg (l0_1.length - (i + 1))
            case measure => omega
            case rel => exact ⟨i + 1, by omega, by omega, congrArg (Value.int .i64) (wsucc i (by have := HN1.out; omega)), HB4, HZ4, HR4⟩
          | false =>
            have HR4 := Aside0.mk (show Kd.R Kd.string 9 wq2 w.heap.size (fun _ => True) _ (keepR p l0_0 (l0_1.take (i + 1))) from by rw [HSA.out, if_neg (by rw [hq]; simp)]; exact HR.out)
            have HPK := Aside0.mk (fun (W : World) (A : Option Addr) (c : Nat) (hB : Below w.heap.size w W) (hC : Kd.C (Kd.int .i64) W A [y.f0, y.f1].length [y.f0, y.f1]) (hc : [y.f0, y.f1].length ≤ c) => show Calls Tryd.prog g (#[.slice A [y.f0, y.f1].length c] ++ lb) W (fun e w' => e = .returned (.bool false) ∧ Below W.heap.size W w') from by have h := HP.out W A c [y.f0, y.f1] hB hC hc; rw [hq] at h; exact h)
            clear hq HR
            have HR := HR4
            clear HR4
            go_wp2_with (first | ((with_reducible refine gate_dst (N := 41) rfl ?_); refine Kd.R_lit (Kd.int .i64) _ 3 ?hg (N := 41) ?hd (xs := ([y.f0, y.f1] : List Int)) (inner := [.int .i64 y.f0, .int .i64 y.f1]) (ok := fun _ => True) (okp := fun _ => True) ?hr ?hp (fun _ hk => hk) trivial (Below.refl _ _) (Nat.le_refl _) (by simp) ?_; (case hd => rfl); (case hg => rfl); (case hr => first | (go_simp; done) | (go_simp; rfl)); (case hp => exact (Reps.one (show Kd.M (Kd.int .i64) _ _ _ y.f0 [.int .i64 y.f0] from rfl) (Reps.one (show Kd.M (Kd.int .i64) _ _ _ y.f1 [.int .i64 y.f1] from rfl) (Reps.none _ _)))); intro v5 w5 ho hb hg_ hnew_; clear hg_ hnew_; obtain ⟨D, d, rfl, hd5, hC5⟩ := Kd.R_reads ho; have HCX := Aside0.mk hC5; have z0 := pw_cell_below hb z0; have z1 := pw_cell_below hb z1; have HR := Aside0.mk (Kd.R_below HR.out (below_chain (by repeat (first | exact Below.refl _ _ | apply below_alloc | apply pw_below_drewN | apply below_drew1)) hb)); have HZ := Aside0.mk (blk_below HZ.out (below_chain (by repeat (first | exact Below.refl _ _ | apply below_alloc | apply pw_below_drewN | apply below_drew1)) hb)); have HB := Aside0.mk (below_chain (w := w) (by repeat (first | exact HB.out | apply below_alloc | apply pw_below_drewN | apply below_drew1)) hb); clear ho hb hC5) | (go_at_fn g; refine (HPK.out _ D d (by repeat (first | exact HB.out | apply below_alloc | apply pw_below_drewN | apply below_drew1)) (Kd.C_below HCX.out (by repeat (first | exact Below.refl _ _ | apply below_alloc | apply pw_below_drewN | apply below_drew1))) hd5).mono ?_; rintro e w6 ⟨rfl, hb⟩; have z0 := pw_cell_below hb z0; have z1 := pw_cell_below hb z1; have HR := Aside0.mk (Kd.R_below HR.out (below_chain (by repeat (first | exact Below.refl _ _ | apply below_alloc | apply pw_below_drewN | apply below_drew1)) hb)); have HZ := Aside0.mk (blk_below HZ.out (below_chain (by repeat (first | exact Below.refl _ _ | apply below_alloc | apply pw_below_drewN | apply below_drew1)) hb)); have HB := Aside0.mk (below_chain (w := w) (by repeat (first | exact HB.out | apply below_alloc | apply pw_below_drewN | apply below_drew1)) hb); clear hb HCX hd5))
            go_roundg (l0_1.length - (i + 1))
            case measure => omega
            case rel => exact ⟨i + 1, by omega, by omega, congrArg (Value.int .i64) (wsucc i (by have := HN1.out; omega)), HB, HZ, HR⟩
        · obtain rfl : i = l0_1.length := by omega
          have hltz : ¬ ((l0_1.length : Int) < (l0_1.length : Int)) := by omega
          rw [List.take_length] at HR
          go_wp2
          go_ret
          exact ⟨_, rfl, HR.out, HB.out⟩

end Go.Proofs.YtdmbboijcaelcaaDoor.Q
