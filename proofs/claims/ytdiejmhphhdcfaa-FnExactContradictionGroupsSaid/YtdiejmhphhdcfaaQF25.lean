-- Written by a program of this session (wip/xprint.py over the kit's printer).
import Derived.Test.YtdiejmhphhdcfaaQ0
import Derived.Test.YtdiejmhphhdcfaaQF128
import Derived.Test.YtdiejmhphhdcfaaQF61
import Derived.Test.YtdiejmhphhdcfaaQF67
import Derived.Test.YtdiejmhphhdcfaaQF75
import Derived.Test.YtdiejmhphhdcfaaQF76
import Derived.Test.YtdiejmhphhdcfaaQP
namespace Go.Proofs.Ytdiejmhphhdcfaa.Q
open Go.RowKit Go.Proofs.YtdiejmhphhdcfaaW.PrintWords Go.Proofs.YtdiejmhphhdcfaaW.PrintLast
set_option linter.unusedVariables false
set_option linter.unusedSimpArgs false

/-! ### impl_ContradictionGroups: function 25 -/
theorem grown_in {w wr w1 : World} {gd : Nat} {row : Option Nat} (h : w.grownBy wr (some gd)) (hg : wr.grownBy w1 row) (hr : ∀ b, row = some b → b = gd ∨ w.heap.size ≤ b) : w.grownBy w1 (some gd) :=
  ⟨hg.os.trans h.os, hg.tape.trans h.tape, hg.output.trans h.output, Nat.le_trans h.size hg.size, fun i hi hn => (hg.block i (Nat.lt_of_lt_of_le hi h.size) (fun e => by
    rcases hr i e.symm with h1 | h1
    · exact hn (by rw [h1])
    · omega)).trans (h.block i hi hn)⟩
theorem grown_in_below {w wr w1 : World} {gd : Nat} (h : w.grownBy wr (some gd)) (hb : Below wr.heap.size wr w1) : w.grownBy w1 (some gd) := grown_in h (grown_of_below hb none) (fun _ e => by cases e)
/-- What is asked of a function value that is handed over and writes into block gd alone. -/
def PredI (P : Program) (g : Nat) (lb : Array Value) (q : Nat → Bool) (n gd : Nat) (I : Nat → World → Prop) (w : World) : Prop :=
  ∀ (W : World) (i : Nat), i < n → w.grownBy W (some gd) → I i W → Calls P g (#[.int .i64 i] ++ lb) W fun e w' => e = .returned (.bool (q i)) ∧ W.grownBy w' (some gd) ∧ I (i + 1) w'
set_option maxHeartbeats 8000000 in
set_option maxRecDepth 100000 in
theorem numbersOf_calls (g : Nat) (lb : Array Value) (eg : ∀ args w, (callFunc g args).run Try.prog w = .ok (.enter g args) w) (q : Nat → Bool) (w0 : World) (p N1 N2 : Nat) (A : Option Addr) (c : Nat) (cs : List S86) (M1 M2 : Nat → Nat → Bool) (w : World) (H : OrdIn w0 w p N1 N2 cs.length (.slice A cs.length c) (nums cs) M1 M2) (h10 : cs.length ≤ 1000) (gd : Nat) (gcc : Array Value) (hgt : w.heap[gd]? = some (.cells gcc 4 (0, 0))) (I : Nat → World → Prop) (hI : ∀ W W' i, I i W → W'.heap[gd]? = W.heap[gd]? → I i W') (hI0 : I 0 w) (hp : PredI Try.prog g lb q cs.length gd I w) :
    Calls Try.prog 76 #[.pointer (some ⟨p, 0, none⟩), .func (.func g) #[] lb] w fun e w' => ∃ v : Value, e = .returned v ∧ Kd.R (Kd.int .i64) 3 w' w.heap.size (fun _ => True) v (numsTo cs q cs.length) ∧ w.grownBy w' (some gd) ∧ I cs.length w' := by
  have HGL := Aside0.mk (blk_lt hgt)
  have HP := Aside0.mk hp
  have HI := Aside0.mk hI0
  have HII := Aside0.mk hI
  have HNT := Aside0.mk (Kd.R_types H.ns hgt (by decide))
  have g0 := H.c0
  clear H hp hI0 hI hgt
  go_enter Try.func76, Try.ntmps76
  go_upto_region 2 with ((with_reducible refine gate_dst (N := 8) rfl ?_); refine Kd.R_lit (Kd.int .i64) (w0 := w) w.heap.size 3 ?hg (N := 8) ?hd (xs := ([] : List Int)) (inner := []) (ok := fun _ => True) (okp := fun _ => True) ?hr ?hp (fun _ hk => hk) trivial (Below.refl _ _) (Nat.le_refl _) (by simp) ?_; (case hd => rfl); (case hg => rfl); (case hr => first | (go_simp; done) | (go_simp; rfl)); (case hp => exact (Reps.none _ _)); intro v0 w1 ho hb hg_ hnew_; clear hg_ hnew_; have HR := Aside0.mk ho; have HB := Aside0.mk hb; clear ho hb)
  have g0 := pw_cell_below HB.out g0
  have HG := Aside0.mk (grown_in_below (grown_refl w (some gd)) HB.out)
  have HI := Aside0.mk (HII.out _ _ _ HI.out (HB.out.block gd HGL.out))
  clear HB
  go_wp2
  clear g0
  go_loopg [5, 6, 7, 14] cs.length (fun gg s5 _ _ s14 wr => ∃ i : Nat, i ≤ cs.length ∧ cs.length - i ≤ gg ∧ s14 = .int .i64 i ∧ Aside0 (w.grownBy wr (some gd)) ∧ Aside0 (I i wr) ∧ Aside0 (Kd.R (Kd.int .i64) 3 wr w.heap.size (fun _ => True) s5 (numsTo cs q i)))
  case atStart => exact ⟨0, Nat.zero_le _, by omega, rfl, HG, HI, ⟨by rw [numsTo_zero]; exact HR.out⟩⟩
  case round =>
    clear HR HG HI
    obtain ⟨i, hi, hgg, rfl, HG, HI, HR⟩ := hrel
    by_cases hlt : i < cs.length
    · have hltz : (i : Int) < (cs.length : Int) := by omega
      have hC := (Kd.R_reads' (Kd.R_step HNT.out (fun k hk hlt => HG.out.block k hlt (fun e => hk.2 (Option.some.inj e))))).2.2
      rw [nums_length] at hC
      obtain ⟨ad, e1, hx⟩ := Kd.at_int hC (i : Int) (by omega) hltz
      cases e1
      rw [rd_nums cs i hlt, Int.toNat_natCast] at hx
      obtain ⟨y, hy⟩ : ∃ y, (cs.getD i z86).f0 = y := ⟨_, rfl⟩
      rw [hy] at hx
      have HS := numsTo_succ cs q i
      rw [hy] at HS
      clear hy hC
      have hcall := HP.out wr i hlt HG.out HI.out
      cases hq : q i with
      | true =>
        rw [hq] at hcall HS
        rw [if_pos rfl] at HS
        have HCL := Aside0.mk hcall
        have HSA := Aside0.mk HS
        clear hq hcall HS
        go_upto_region 6 with (go_at_fn g; refine HCL.out.mono ?_; rintro e w' ⟨rfl, hg, hi2⟩; have HR := Aside0.mk (Kd.R_mono (ok' := fun _ => True) (Kd.R_step (Kd.R_bound HR.out) (fun k hk hlt => hg.block k hlt (fun e => by have h1 := Option.some.inj e; have h2 := hk.2.1; have h3 := HGL.out; omega))) (fun _ _ => trivial)); have HG := Aside0.mk (grown_in HG.out hg (fun b e => .inl (Option.some.inj e).symm)); have HI := Aside0.mk hi2; clear hg hi2 hx)
        obtain ⟨w5, hw5⟩ : ∃ x, x = w' := ⟨_, rfl⟩
        subst hw5
        have HSZ := Aside0.mk HG.out.size
        go_wp2_with ((with_reducible refine gate_builtin (b := .append) (xs := #[.tmp 22, .tmp 24]) rfl ?_); at_builtin; refine Kd.R_append (Kd.int .i64) (w0 := w5) w.heap.size rfl (.tmp 22) (.tmp 24) 27 3 (.int .i64 0) 8 rfl Try.underlying27 info3 rfl (by decide) (by omega) u5 (numsTo cs q i) y [.int .i64 y] (fun _ => True) (fun _ => False) rfl rfl rfl (fun _ hk => hk.elim) (fun _ _ => trivial) ?aO ?aB ?aS ?aL ?_; (case aO => exact (by (with_reducible repeat (first | apply Kd.R_alloc | apply Kd.R_drewN | apply Kd.R_drew)); exact HR.out)); (case aB => exact Below.refl _ _); (case aS => exact HSZ.out); (case aL => have h1 := numsTo_le cs q i; omega); intro v1 w6 ho hb hg hat; have HR6 := Aside0.mk (show Kd.R (Kd.int .i64) 3 w6 w.heap.size (fun _ => True) v1 (numsTo cs q (i + 1)) from by rw [HSA.out]; exact ho); have HG6 := Aside0.mk (grown_in HG.out hg (fun b e => .inr (Kd.R_base HR.out b e))); have HI6 := Aside0.mk (HII.out _ _ _ HI.out (hg.block gd (Nat.lt_of_lt_of_le HGL.out HSZ.out) (fun e => by have h1 := Kd.R_base HR.out gd e.symm; have h2 := HGL.out; omega))); clear ho hb hg hat)
        go_roundg (cs.length - (i + 1))
        case measure => omega
        case rel => exact ⟨i + 1, by omega, by omega, by first | go_num | exact congrArg (Value.int .i64) (wrap_succ i (by omega)), HG6, HI6, HR6⟩
      | false =>
        rw [hq] at hcall HS
        rw [if_neg (by simp)] at HS
        have HCL := Aside0.mk hcall
        have HSA := Aside0.mk HS
        clear hq hcall HS
        go_wp2_with (go_at_fn g; refine HCL.out.mono ?_; rintro e w' ⟨rfl, hg, hi2⟩; have HR := Aside0.mk (Kd.R_mono (ok' := fun _ => True) (Kd.R_step (Kd.R_bound HR.out) (fun k hk hlt => hg.block k hlt (fun e => by have h1 := Option.some.inj e; have h2 := hk.2.1; have h3 := HGL.out; omega))) (fun _ _ => trivial)); have HG := Aside0.mk (grown_in HG.out hg (fun b e => .inl (Option.some.inj e).symm)); have HI := Aside0.mk hi2; clear hg hi2 hx)
        go_roundg (cs.length - (i + 1))
        case measure => omega
        case rel => exact ⟨i + 1, by omega, by omega, by first | go_num | exact congrArg (Value.int .i64) (wrap_succ i (by omega)), HG, HI, by rw [HSA.out]; exact HR⟩
    · obtain rfl : i = cs.length := by omega
      have hltz : ¬ ((cs.length : Int) < (cs.length : Int)) := by omega
      go_wp2
      go_ret
      exact ⟨_, rfl, HR.out, HG.out, HI.out⟩
theorem cell_block {w W : World} {b o : Nat} (h : W.heap[b]? = w.heap[b]?) : W.cell? ⟨b, o, none⟩ = w.cell? ⟨b, o, none⟩ := by simp [World.cell?, h]
theorem grown_row (w : World) (gd j : Nat) (u : Value) : w.grownBy (w.setCell ⟨gd, j, none⟩ u) (some gd) :=
  ⟨rfl, rfl, rfl, by simp [World.setCell], fun k _ hn => Below.heap_setCell w ⟨gd, j, none⟩ u k (fun e => hn (by rw [e]))⟩
def grB (M : Nat → Nat → Bool) (i k : Nat) : Bool := M i k && M k i
def grDone (dl : List Bool) (q : Nat → Bool) (m : Nat) : List Bool := (List.range dl.length).map fun k => if k < m then (dl.getD k false || q k) else dl.getD k false
theorem grDone_len (dl : List Bool) (q : Nat → Bool) (m : Nat) : (grDone dl q m).length = dl.length := by simp [grDone]
theorem grDone_zero (dl : List Bool) (q : Nat → Bool) : grDone dl q 0 = dl := by
  apply List.ext_getElem (by simp [grDone])
  intro j h1 h2
  simp [grDone, List.getD_eq_getElem?_getD, List.getElem?_eq_getElem h2]
theorem grDone_at (dl : List Bool) (q : Nat → Bool) (m : Nat) (h : m < dl.length) : rdOf false (grDone dl q m) (m : Int) = dl.getD m false := by
  simp [rdOf, grDone, List.getD_eq_getElem?_getD, h]
theorem grDone_set (dl : List Bool) (q : Nat → Bool) (m : Nat) : (grDone dl q m).set m (dl.getD m false || q m) = grDone dl q (m + 1) := by
  apply List.ext_getElem (by simp [grDone])
  intro j h1 h2
  simp only [grDone, List.getElem_set, List.getElem_map, List.getElem_range]
  by_cases e : m = j
  · subst e; simp
  · have e1 : (j < m + 1) ↔ (j < m) := by omega
    simp only [e, if_false, e1]
def grTo (cs : List S86) (M : Nat → Nat → Bool) : Nat → List (List Int) × List Bool
  | 0 => ([], List.replicate cs.length false)
  | m + 1 => if (grTo cs M m).2.getD m false || !(M m m) then grTo cs M m else ((grTo cs M m).1 ++ [numsTo cs (grB M m) cs.length], grDone (grTo cs M m).2 (grB M m) cs.length)
theorem grTo_len (cs : List S86) (M : Nat → Nat → Bool) (m : Nat) : (grTo cs M m).2.length = cs.length := by
  induction m with
  | zero => simp [grTo]
  | succ m ih => simp only [grTo]; split <;> simp [ih, grDone_len]
theorem grTo_le (cs : List S86) (M : Nat → Nat → Bool) (m : Nat) : (grTo cs M m).1.length ≤ m := by
  induction m with
  | zero => simp [grTo]
  | succ m ih =>
    simp only [grTo]
    split
    · omega
    · rw [List.length_append, List.length_singleton]; omega
theorem grTo_rows (cs : List S86) (M : Nat → Nat → Bool) (m : Nat) : ∀ r ∈ (grTo cs M m).1, r.length ≤ cs.length := by
  induction m with
  | zero => intro r hr; simp [grTo] at hr
  | succ m ih =>
    simp only [grTo]
    split
    · exact ih
    · intro r hr
      rcases List.mem_append.1 hr with hr | hr
      · exact ih r hr
      · rw [List.mem_singleton.1 hr]; exact numsTo_le cs _ _
def impl_ContradictionGroups.T2 : Bool × List (List Nat × List Nat) := (true, [([], []), ([], []), ([], []), ([], []), ([2, 3], [2, 3]), ([4], [4]), ([5], [5]), ([6], [6]), ([6, 7], [6, 7]), ([0, 1, 0, 1, 2, 3, 4, 5, 6, 7, 8], [0, 1]), ([9, 8, 6, 0, 1, 2, 3, 4, 5, 6, 7, 8], [8, 9])])
def impl_ContradictionGroups.B2 : List Nat := [0, 0, 0, 0, 12, 28, 60, 124, 252, 511, 1023]
theorem impl_ContradictionGroups.tab2 : rtab .any (opsOf Try.f77 2) = impl_ContradictionGroups.T2 := by kernel_rfl
theorem impl_ContradictionGroups.bits2 : waitsOk impl_ContradictionGroups.T2.2 impl_ContradictionGroups.B2 = true := by kernel_rfl
set_option maxHeartbeats 8000000 in
set_option maxRecDepth 100000 in
theorem grp_pred (w0 wb : World) (p N1 N2 n : Nat) (v : Value) (ns : List Int) (M1 M2 : Nat → Nat → Bool) (H : OrdIn w0 wb p N1 N2 n v ns M1 M2) (hn : n ≤ 1000) (bo bi bdv i gd d b0 : Nat) (dl : List Bool) (hdl : dl.length = n) (w : World) (hBw : Below wb.heap.size wb w) (hgd : wb.heap.size ≤ gd) (ho : w.cell? ⟨bo, 0, none⟩ = some (.pointer (some ⟨p, 0, none⟩))) (hi : w.cell? ⟨bi, 0, none⟩ = some (.int .i64 i)) (hdv : w.cell? ⟨bdv, 0, none⟩ = some (.slice (some ⟨gd, 0, none⟩) n d)) (n1 : bo ≠ gd) (n2 : bi ≠ gd) (n3 : bdv ≠ gd) (hil : i < n) :
    PredI Try.prog 77 #[.pointer (some ⟨bo, 0, none⟩), .pointer (some ⟨bi, 0, none⟩), .pointer (some ⟨bdv, 0, none⟩)] (grB M2 i) n gd (fun m W => Kd.R Kd.bool 4 W b0 (fun k => k = gd) (.slice (some ⟨gd, 0, none⟩) n d) (grDone dl (grB M2 i) m)) w := by
  intro W k hk hG hI
  have ho' := (cell_block (o := 0) (hG.block bo (World.block_lt_of_cell? w _ ho) (fun e => n1 (Option.some.inj e)))).trans ho
  have hi' := (cell_block (o := 0) (hG.block bi (World.block_lt_of_cell? w _ hi) (fun e => n2 (Option.some.inj e)))).trans hi
  have hd' := (cell_block (o := 0) (hG.block bdv (World.block_lt_of_cell? w _ hdv) (fun e => n3 (Option.some.inj e)))).trans hdv
  have HB := below_of_grown hBw hG (fun b e => by rw [← Option.some.inj e]; exact hgd)
  have HO := H.step HB
  have g1 := HO.c2
  have g2 := HO.m2.topc hil
  have g3 := HO.m2.cell hil hk
  have g4 := HO.m2.topc hk
  have g5 := HO.m2.cell hk hil
  have hkz : (k : Int) < (n : Int) := by omega
  have hiz : (i : Int) < (n : Int) := by omega
  have q1 := Kd.R_celln false hI (k : Int) (by omega) hkz
  rw [grDone_at dl _ k (by omega), Int.toNat_natCast] at q1
  have q3 := Kd.R_putn hI (k : Int) (dl.getD k false || grB M2 i k)
  rw [Int.toNat_natCast, grDone_set] at q3
  obtain ⟨b1, hb1⟩ : ∃ x, M2 i k = x := ⟨_, rfl⟩
  obtain ⟨b2, hb2⟩ : ∃ x, M2 k i = x := ⟨_, rfl⟩
  obtain ⟨dk, hdk⟩ : ∃ x, dl.getD k false = x := ⟨_, rfl⟩
  have hqk : grB M2 i k = (b1 && b2) := by unfold grB; rw [hb1, hb2]
  rw [hb1] at g3
  rw [hb2] at g5
  rw [hdk] at q1
  rw [hdk, hqk] at q3
  rw [hqk]
  have HQ := Aside0.mk q3
  have HS0 := Aside0.mk (show (fun w' : World => w'.cell? ⟨bdv, 0, none⟩ = some (.slice (some ⟨gd, 0, none⟩) n d) ∧ w'.cell? ⟨gd, k, none⟩ = some (.bool dk) ∧ w'.frozen? ⟨gd, k, none⟩ = false ∧ Aside0 (W.grownBy w' (some gd)) ∧ Aside0 (Kd.R Kd.bool 4 (w'.setCell ⟨gd, k, none⟩ (.bool (dk || (b1 && b2)))) b0 (fun k => k = gd) (.slice (some ⟨gd, 0, none⟩) n d) (grDone dl (grB M2 i) (k + 1)))) W from ⟨hd', q1.1, q1.2, ⟨grown_refl _ _⟩, ⟨q3⟩⟩)
  clear q1 q3 hb1 hb2 hdk hqk HB HO hd' ho hi hdv hI hG HQ
  have HGD := Aside0.mk hgd
  go_enter Try.func77, Try.ntmps77
  cases b1 <;> cases b2 <;> cases dk
  all_goals go_wp2
  all_goals (go_quiet (fail))
  all_goals clear g1 g2 g3 g4 g5 ho' hi'
  all_goals go_wp2
  all_goals have HS1 := Aside0.mk (show (fun w' : World => w'.cell? ⟨bdv, 0, none⟩ = some (.slice (some ⟨gd, 0, none⟩) n d) ∧ w'.cell? ⟨gd, k, none⟩ = some (.bool _) ∧ w'.frozen? ⟨gd, k, none⟩ = false ∧ Aside0 (W.grownBy w' (some gd)) ∧ Aside0 (Kd.R Kd.bool 4 (w'.setCell ⟨gd, k, none⟩ (.bool _)) b0 (fun k => k = gd) (.slice (some ⟨gd, 0, none⟩) n d) (grDone dl (grB M2 i) (k + 1)))) (W.drewN nq).drew from ⟨HS0.out.1, HS0.out.2.1, HS0.out.2.2.1, ⟨grown_drew (grown_drewN HS0.out.2.2.2.1.out _)⟩, ⟨Kd.R_step HS0.out.2.2.2.2.out (fun _ _ _ => rfl)⟩⟩)
  all_goals clear HS0
  all_goals refine start_ (n := 11) (S := (fun w' => w'.cell? ⟨bdv, 0, none⟩ = some (.slice (some ⟨gd, 0, none⟩) n d) ∧ w'.cell? ⟨gd, k, none⟩ = some (.bool _) ∧ w'.frozen? ⟨gd, k, none⟩ = false ∧ Aside0 (W.grownBy w' (some gd)) ∧ Aside0 (Kd.R Kd.bool 4 (w'.setCell ⟨gd, k, none⟩ (.bool _)) b0 (fun k => k = gd) (.slice (some ⟨gd, 0, none⟩) n d) (grDone dl (grB M2 i) (k + 1))))) (ds := [10]) (bl 0 11) (by kernel_rfl) rfl rfl HS1.out (fun hHeld => ?_); refine with_tabW impl_ContradictionGroups.tab2 impl_ContradictionGroups.bits2 (fun HT_ HW_ => ?_)
  all_goals generalize (W.drewN nq).drew = wv at hHeld ⊢
  all_goals first | refine pA_ 1 (some 30) (bx 0 [1] 11) HT_.out (h := ?_) | refine pO_ 1 (some 30) (bx 0 [1] 11) HT_.out (h := ?_)
  all_goals first | refine pA_ 3 (some 32) (bx 0 [1, 3] 11) HT_.out (h := ?_) | refine pO_ 3 (some 32) (bx 0 [1, 3] 11) HT_.out (h := ?_)
  all_goals first | refine tA_ 0 (some 29) (bx 2 [3] 11) HT_.out HW_.out hHeld (h := ?_) | refine pO_ 0 (some 29) (bx 2 [3] 11) HT_.out (h := ?_)
  all_goals first | refine tA_ 2 (some 31) (bl 4 11) HT_.out HW_.out hHeld (h := ?_) | refine pO_ 2 (some 31) (bl 4 11) HT_.out (h := ?_)
  all_goals first | refine pA_ 4 (some 33) (bl 5 11) HT_.out (h := ?_) | refine pO_ 4 (some 33) (bl 5 11) HT_.out (h := ?_)
  all_goals first | refine tA_ 5 (some 34) (bl 6 11) HT_.out HW_.out hHeld (h := ?_) | refine pO_ 5 (some 34) (bl 6 11) HT_.out (h := ?_)
  all_goals first | refine pA_ 6 (some 35) (bl 7 11) HT_.out (h := ?_) | refine pO_ 6 (some 35) (bl 7 11) HT_.out (h := ?_)
  all_goals first | refine pA_ 7 (some 36) (bl 8 11) HT_.out (h := ?_) | refine pO_ 7 (some 36) (bl 8 11) HT_.out (h := ?_)
  all_goals first | refine pA_ 8 (some 37) (bl 9 11) HT_.out (h := ?_) | refine pO_ 8 (some 37) (bl 9 11) HT_.out (h := ?_)
  all_goals first | refine pA_ 9 (some 38) (bl 10 11) HT_.out (h := ?_) | refine pO_ 9 (some 38) (bl 10 11) HT_.out (h := ?_)
  all_goals (refine last_ (i := 10) (N := none) (bl 11 11) rfl rfl (one_of HT_.out (by kernel_rfl)) (by decide) (fun K hK => ?_); refine skip_ (by rfl) rfl (by go_simp; rfl) ?_; refine hK.out _ _ ?_; clear hK K)
  all_goals refine done_ (done_of HT_.out (by kernel_rfl)) ?_
  all_goals have HG2 := hHeld.2.2.2.1
  all_goals have HR2 := hHeld.2.2.2.2
  all_goals clear hHeld HS1
  all_goals (go_wp2; go_ret; exact ⟨rfl, grown_in HG2.out (grown_row wv gd k _) (fun b e => .inl (Option.some.inj e).symm), HR2.out⟩)
def impl_ContradictionGroups.f (l0_0 : List S86) (l0_1 : List S95) : Option (List (List Int) × Bool) := some (if goodB l0_0 l0_1 then ((grTo l0_0 (lat l0_0 l0_1) l0_0.length).1, true) else ([], false))
set_option maxHeartbeats 16000000 in
set_option maxRecDepth 100000 in
theorem impl_ContradictionGroups.calls (A0_0 : Option Addr) (c0_0 : Nat) (l0_0 : List S86) (A0_1 : Option Addr) (c0_1 : Nat) (l0_1 : List S95) (r1 : List (List Int)) (r2 : Bool) (w : World) (hr0_0 : Kd.C k86 w A0_0 l0_0.length l0_0) (hc0_0 : l0_0.length ≤ c0_0) (hr0_1 : Kd.C k95 w A0_1 l0_1.length l0_1) (hc0_1 : l0_1.length ≤ c0_1) (h : impl_ContradictionGroups.f l0_0 l0_1 = some (r1, r2)) :
    Calls Try.prog 25 #[.agg #[.slice A0_0 l0_0.length c0_0, .slice A0_1 l0_1.length c0_1]] w fun e w' => ∃ v0_ : Value, e = .returned (.tuple #[v0_, .bool r2]) ∧ Kd.S (Kd.slice 3 (Kd.int .i64)) 27 w' w.heap.size (fun _ => True) v0_ r1 ∧ Below w.heap.size w w' := by
  have H := Option.some.inj h
  clear h
  have HR0 := Aside0.mk hr0_0
  have HR1 := Aside0.mk hr0_1
  have HC0 := Aside0.mk hc0_0
  have HC1 := Aside0.mk hc0_1
  clear hr0_0 hr0_1 hc0_0 hc0_1
  obtain ⟨wb, hwb⟩ : ∃ wb, (w).alloc (.cells #[.slice A0_0 l0_0.length c0_0, .slice A0_1 l0_1.length c0_1] 33 (0, 0)) = wb := ⟨_, rfl⟩
  have HBw := Aside0.mk (show Below w.heap.size w wb from by rw [← hwb]; repeat (first | exact Below.refl _ _ | apply below_alloc))
  have HWB := HBw
  have hhr : wb.heap[w.heap.size]? = some (.cells #[.slice A0_0 l0_0.length c0_0, .slice A0_1 l0_1.length c0_1] 33 (0, 0)) := by rw [← hwb]; have h := blk_new (w) (.cells #[.slice A0_0 l0_0.length c0_0, .slice A0_1 l0_1.length c0_1] 33 (0, 0)); rw [show (w).heap.size = w.heap.size from by rfl] at h; exact h
  have hb0 : wb.cell? ⟨w.heap.size, 0, none⟩ = some (.slice A0_0 l0_0.length c0_0) := (blk_cell hhr 0).trans rfl
  have hb1 : wb.cell? ⟨w.heap.size, 1, none⟩ = some (.slice A0_1 l0_1.length c0_1) := (blk_cell hhr 1).trans rfl
  have hbs : w.heap.size < wb.heap.size := blk_lt hhr
  have HW := Aside0.mk hwb
  clear hwb hhr
  obtain ⟨b, hb⟩ : ∃ b, goodB l0_0 l0_1 = b := ⟨_, rfl⟩
  have AV := Aside0.mk (show impl_IsValidRecord.f l0_0 l0_1 = some b from congrArg some hb)
  rw [hb] at H
  cases b with
  | false =>
    clear hb
    injection H with H1 H2
    subst H1; subst H2
    go_enter Try.func25, Try.ntmps25
    go_upto_region 1 with (fail)
    try rw [HW.out]
    clear HW
    go_wp2_with (go_at_call 75; (with_reducible refine (impl_IsValidRecord.calls _ _ l0_0 _ _ l0_1 _ _ (Kd.C_below HR0.out (by repeat (first | exact HBw.out | exact Below.refl _ _ | apply below_alloc | apply pw_below_drewN | apply below_drew1))) HC0.out (Kd.C_below HR1.out (by repeat (first | exact HBw.out | exact Below.refl _ _ | apply below_alloc | apply pw_below_drewN | apply below_drew1))) HC1.out AV.out).mono ?_); rintro e w1 ⟨rfl, hb⟩; have HBw : Aside0 (Below w.heap.size w w1) := Aside0.mk (below_chain (w := w) (by repeat (first | exact HBw.out | exact Below.refl _ _ | apply below_alloc | apply pw_below_drewN | apply below_drew1)) hb); have hb0 := pw_cell_below hb hb0; clear hb)
    go_ret2
    exact ⟨_, rfl, Kd.S_nil _ _ _ _ _, (by repeat (first | exact HBw.out | exact Below.refl _ _ | apply below_alloc | apply pw_below_drewN | apply below_drew1))⟩
  | true =>
    have HG := Aside0.mk (goodB_parts hb)
    clear hb
    injection H with H1 H2
    subst H1; subst H2
    have eg := enters_of Try.func77 (by kernel_rfl) rfl
    go_enter Try.func25, Try.ntmps25
    go_upto_region 1 with (fail)
    try rw [HW.out]
    clear HW
    go_upto_region 4 with (first | (go_at_call 75; (with_reducible refine (impl_IsValidRecord.calls _ _ l0_0 _ _ l0_1 _ _ (Kd.C_below HR0.out (by repeat (first | exact HBw.out | exact Below.refl _ _ | apply below_alloc | apply pw_below_drewN | apply below_drew1))) HC0.out (Kd.C_below HR1.out (by repeat (first | exact HBw.out | exact Below.refl _ _ | apply below_alloc | apply pw_below_drewN | apply below_drew1))) HC1.out AV.out).mono ?_); rintro e w1 ⟨rfl, hb⟩; have HBw : Aside0 (Below w.heap.size w w1) := Aside0.mk (below_chain (w := w) (by repeat (first | exact HBw.out | exact Below.refl _ _ | apply below_alloc | apply pw_below_drewN | apply below_drew1)) hb); have hb0 := pw_cell_below hb hb0; have hb1 := pw_cell_below hb hb1; clear hb) | (go_at_call 67; (refine (impl_orderOf.calls _ _ l0_0 _ _ l0_1 _ (Kd.C_below HR0.out (by repeat (first | exact HBw.out | exact Below.refl _ _ | apply below_alloc | apply pw_below_drewN | apply below_drew1))) HC0.out (Kd.C_below HR1.out (by repeat (first | exact HBw.out | exact Below.refl _ _ | apply below_alloc | apply pw_below_drewN | apply below_drew1))) HC1.out HG.out.1 HG.out.2.1 HG.out.2.2).mono ?_); rintro e w2 ⟨p, rfl, N1, N2, v, HO⟩; obtain ⟨A, c, rfl, hc⟩ := HO.slice (nums_length l0_0); have hb := HO.below; have HBw : Aside0 (Below w.heap.size w w2) := Aside0.mk (below_chain (w := w) (by repeat (first | exact HBw.out | exact Below.refl _ _ | apply below_alloc | apply pw_below_drewN | apply below_drew1)) hb); have hb0 := pw_cell_below hb hb0; have hb1 := pw_cell_below hb hb1; have HOA := Aside0.mk HO; clear hb HO))
    clear hb0 hb1
    obtain ⟨wb, rfl⟩ : ∃ x, x = w2 := ⟨_, rfl⟩
    have HN := Aside0.mk HG.out.1
    generalize hM : lat l0_0 l0_1 = M at HOA ⊢
    have HM := Aside0.mk hM
    clear hM
    have hal := below_alloc (Below.refl wb.heap.size wb) (.cells #[.pointer (some ⟨p, 0, none⟩)] 78 (0, 0))
    have BK := Aside0.mk (blk_new wb (.cells #[.pointer (some ⟨p, 0, none⟩)] 78 (0, 0)))
    obtain ⟨bo, hbo⟩ : ∃ g, wb.heap.size = g := ⟨_, rfl⟩
    generalize wb.alloc (.cells #[.pointer (some ⟨p, 0, none⟩)] 78 (0, 0)) = wq at hal BK ⊢
    rw [hbo] at BK
    try rw [hbo]
    have HBO := Aside0.mk hbo
    have HB := Aside0.mk hal
    have ho : wq.cell? ⟨bo, 0, none⟩ = some (.pointer (some ⟨p, 0, none⟩)) := (blk_cell BK.out 0).trans rfl
    clear hal hbo BK
    have g0 := (HOA.out.step HB.out).c0
    obtain ⟨gd, hgd⟩ : ∃ g, wq.heap.size = g := ⟨_, rfl⟩
    have HGD := Aside0.mk hgd
    clear hgd
    have HBL := Aside0.mk (World.block_lt_of_cell? wq _ ho)
    go_upto_region 5 with ((with_reducible refine gate_dst (N := 18) rfl ?_); refine Kd.R_make Kd.bool (w0 := wq) wq.heap.size 4 rfl (N := 18) rfl 88 (.tmp 17) (.tmp 17) rfl (l0_0.length : Int) rfl rfl Try.underlying88 (.bool false) 1 info4 rfl (by decide) (by omega) false (okp := fun _ => False) rfl (fun _ hk => hk.elim) (ok := fun k => k = gd) HGD.out (by omega) (by rw [Int.toNat_natCast]; have := HN.out; omega) (Below.refl _ _) (Nat.le_refl _) ?_; intro v0 w4 ho_ hb_ hg_ hnew_; clear hg_ hnew_; rw [Int.toNat_natCast] at ho_; obtain ⟨D, d, hv0, hd, hC⟩ := Kd.R_reads ho_; rw [List.length_replicate] at hv0; subst hv0; clear hd hC; have HD := Aside0.mk ho_; have HB := Aside0.mk (below_chain (w := wb) HB.out hb_); have ho := pw_cell_below hb_ ho; have g0 := pw_cell_below hb_ g0; have HSQ := Aside0.mk hb_.size; clear ho_ hb_)
    have hal := below_alloc (Below.refl w4.heap.size w4) (.cells #[.slice D l0_0.length d] 88 (0, 0))
    have BK := Aside0.mk (blk_new w4 (.cells #[.slice D l0_0.length d] 88 (0, 0)))
    obtain ⟨bdv, hbdv⟩ : ∃ g, w4.heap.size = g := ⟨_, rfl⟩
    have HSZ := Aside0.mk (show (w4.alloc (.cells #[.slice D l0_0.length d] 88 (0, 0))).heap.size = bdv + 1 from by simp [hbdv])
    generalize w4.alloc (.cells #[.slice D l0_0.length d] 88 (0, 0)) = w5 at hal BK HSZ ⊢
    rw [hbdv] at BK
    try rw [hbdv]
    have HBD := Aside0.mk (show gd ≤ bdv from by rw [← HGD.out, ← hbdv]; exact HSQ.out)
    have HB := Aside0.mk (below_chain (w := wb) HB.out hal)
    have ho := pw_cell_below hal ho
    have g0 := pw_cell_below hal g0
    have hdv : w5.cell? ⟨bdv, 0, none⟩ = some (.slice D l0_0.length d) := (blk_cell BK.out 0).trans rfl
    have HDL := Aside0.mk (Kd.R_lt HD.out)
    have HD := Aside0.mk (Kd.R_below HD.out hal)
    have HDL := Aside0.mk (show ∀ k, (Value.slice D l0_0.length d).ownBlock = some k → k < bdv from fun k hk => by rw [← hbdv]; exact HDL.out k hk)
    clear hal hbdv BK
    go_upto_region 6 with ((with_reducible refine gate_dst (N := 19) rfl ?_); refine Kd.S_lit (Kd.slice 3 (Kd.int .i64)) (w0 := w5) w5.heap.size 27 ?hg (N := 19) ?hd (xs := ([] : List (List Int))) (inner := []) (ok := fun _ => True) (okp := fun _ => True) ?hr ?hp (fun _ hk => hk) trivial (Below.refl _ _) (Nat.le_refl _) (by simp) ?_; (case hd => rfl); (case hg => rfl); (case hr => first | (go_simp; done) | (go_simp; rfl)); (case hp => exact (Reps.none _ _)); intro v6 w6 ho_ hb_ hg_ hnew_; clear hg_ hnew_; have HS := Aside0.mk ho_; have HB6 := Aside0.mk hb_; have g0 := pw_cell_below hb_ g0; have ho2 := pw_cell_below hb_ ho; clear ho_ hb_)
    have HGW := Aside0.mk (grown_of_below HB6.out (some gd))
    have HD := Aside0.mk (Kd.R_below HD.out HB6.out)
    have HD := Aside0.mk (show Kd.R Kd.bool 4 w6 wq.heap.size (fun k => k = gd) (.slice D l0_0.length d) (grTo l0_0 M 0).2 from HD.out)
    have HS := Aside0.mk (show Kd.S (Kd.slice 3 (Kd.int .i64)) 27 w6 w5.heap.size (fun _ => True) v6 (grTo l0_0 M 0).1 from HS.out)
    go_wp2
    clear g0 ho2
    have HO5 := Aside0.mk ho
    have HDV5 := Aside0.mk hdv
    have HWB := Aside0.mk (show wb.heap.size ≤ gd from by rw [← HGD.out]; have h := HBL.out; have h2 := HBO.out; show wb.heap.size ≤ wq.heap.size; rw [h2]; exact Nat.le_of_lt h)
    go_loopg [6, 25] l0_0.length (fun gg s6 s25 wr => ∃ m : Nat, m ≤ l0_0.length ∧ l0_0.length - m ≤ gg ∧ s25 = .int .i64 m ∧ Aside0 (w5.grownBy wr (some gd)) ∧ Aside0 (Kd.R Kd.bool 4 wr wq.heap.size (fun k => k = gd) (.slice D l0_0.length d) (grTo l0_0 M m).2) ∧ Aside0 (Kd.S (Kd.slice 3 (Kd.int .i64)) 27 wr w5.heap.size (fun _ => True) s6 (grTo l0_0 M m).1))
    case atStart => exact ⟨0, Nat.zero_le _, by omega, rfl, HGW, HD, HS⟩
    case round =>
      clear HGW HD HS ho hdv
      obtain ⟨m, hm, hgg, rfl, HGW, HD, HS⟩ := hrel
      by_cases hml : m < l0_0.length
      · have hmlz : (m : Int) < (l0_0.length : Int) := by omega
        have hlen2 := grTo_len l0_0 M m
        obtain ⟨gd', cap, hv, _, _, _, hok⟩ := R_form HD.out (by rw [hlen2]; omega)
        rw [hlen2] at hv
        injection hv with hv1 hv2 hv3
        subst hv1
        obtain rfl : gd' = gd := hok
        clear hv2 hv3
        have HLT := Aside0.mk (show gd' < w5.heap.size from by have h1 := HDL.out gd' (by simp [Value.ownBlock]); have h2 := HSZ.out; omega)
        have HNE := Aside0.mk (show bo ≠ gd' ∧ bdv ≠ gd' from ⟨by have h1 := HBL.out; have h2 := HGD.out; show bo ≠ gd'; have h3 : bo < wq.heap.size := h1; omega, by have h1 := HDL.out gd' (by simp [Value.ownBlock]); omega⟩)
        have hstep := (show grTo l0_0 M (m + 1) = if (grTo l0_0 M m).2.getD m false || !(M m m) then grTo l0_0 M m else ((grTo l0_0 M m).1 ++ [numsTo l0_0 (grB M m) l0_0.length], grDone (grTo l0_0 M m).2 (grB M m) l0_0.length) from rfl)
        have HLE := Aside0.mk (grTo_le l0_0 M m)
        generalize grTo l0_0 M m = st at HD HS hstep HLE hlen2
        have HSL := Aside0.mk hlen2
        -- the box of i
        have hal := below_alloc (Below.refl wr.heap.size wr) (.cells #[.int .i64 (m : Int)] 3 (0, 0))
        have BK := Aside0.mk (blk_new wr (.cells #[.int .i64 (m : Int)] 3 (0, 0)))
        go_upto_region 9 with (fail)
        obtain ⟨bi, hbi⟩ : ∃ g, wr.heap.size = g := ⟨_, rfl⟩
        generalize wr.alloc (.cells #[.int .i64 (m : Int)] 3 (0, 0)) = wz at hal BK ⊢
        rw [hbi] at BK
        try rw [hbi]
        have HBI := Aside0.mk (show w5.heap.size ≤ bi from by rw [← hbi]; exact HGW.out.size)
        have HGW := Aside0.mk (grown_in_below HGW.out hal)
        have HD := Aside0.mk (Kd.R_below HD.out hal)
        have HS := Aside0.mk (Kd.S_below HS.out hal)
        have hi : wz.cell? ⟨bi, 0, none⟩ = some (.int .i64 (m : Int)) := (blk_cell BK.out 0).trans rfl
        clear hal hbi BK
        have ho := (cell_block (o := 0) (HGW.out.block bo (World.block_lt_of_cell? w5 _ HO5.out) (fun e => HNE.out.1 (Option.some.inj e)))).trans HO5.out
        have hdv := (cell_block (o := 0) (HGW.out.block bdv (World.block_lt_of_cell? w5 _ HDV5.out) (fun e => HNE.out.2 (Option.some.inj e)))).trans HDV5.out
        have HBZ := Aside0.mk (below_of_grown HB.out HGW.out (fun b e => by rw [← Option.some.inj e]; exact HWB.out))
        have hO := HOA.out.step HBZ.out
        have g0 := hO.c0
        have g1 := hO.c2
        have g2 := hO.m2.topc hml
        have g3 := hO.m2.cell hml hml
        have q1 := Kd.R_celln false HD.out (m : Int) (by omega) hmlz
        rw [show rdOf false st.2 (m : Int) = st.2.getD m false from by simp [rdOf], Int.toNat_natCast] at q1
        obtain ⟨q1, q2⟩ := q1
        obtain ⟨dm, hdm⟩ : ∃ x, st.2.getD m false = x := ⟨_, rfl⟩
        obtain ⟨lm, hlm⟩ : ∃ x, M m m = x := ⟨_, rfl⟩
        rw [hdm] at q1
        rw [hlm] at g3
        rw [hdm, hlm] at hstep
        have HSTEP := Aside0.mk hstep
        clear q2 hdm hlm hO hstep hlen2
        by_cases hgo : (dm || !lm) = true
        · have HST := Aside0.mk (HSTEP.out.trans (if_pos hgo))
          cases dm <;> cases lm <;> first | (exfalso; revert hgo; decide) | skip
          all_goals (go_wp2; repeat (go_quiet (fail); try go_wp2))
          all_goals (go_roundg (l0_0.length - (m + 1)); (case measure => omega); (case rel => exact ⟨m + 1, by omega, by omega, by first | go_num | exact congrArg (Value.int .i64) (wrap_succ m (by have := HN.out; omega)), ⟨by first | exact HGW.out | exact grown_drewN HGW.out _⟩, by rw [HST.out]; exact ⟨by first | exact HD.out | exact Kd.R_drewN HD.out _⟩, by rw [HST.out]; exact ⟨by first | exact HS.out | exact Kd.S_drewN HS.out _⟩⟩))
        · have hd2 : dm = false ∧ lm = true := by cases dm <;> cases lm <;> simp_all
          obtain ⟨rfl, rfl⟩ := hd2
          have HST := Aside0.mk (HSTEP.out.trans (if_neg (by decide)))
          clear hgo
          go_quiet (fail)
          have hby := pw_below_drewN (Below.refl wz.heap.size wz) nq
          obtain ⟨wy, hwy⟩ : ∃ x, wz.drewN nq = x := ⟨_, rfl⟩
          rw [hwy] at hby ⊢
          have HGW := Aside0.mk (grown_in_below HGW.out hby)
          have HD := Aside0.mk (Kd.R_below HD.out hby)
          have HS := Aside0.mk (Kd.S_below HS.out hby)
          have HBZ := Aside0.mk (below_chain (w := wb) HBZ.out hby)
          have ho := pw_cell_below hby ho
          have hdv := pw_cell_below hby hdv
          have hi := pw_cell_below hby hi
          have g0 := pw_cell_below hby g0
          obtain ⟨gcc, hgt⟩ := Kd.R_typed HD.out gd' (by simp [Value.ownBlock])
          have hpred := grp_pred _ wb p N1 N2 l0_0.length _ _ _ M HOA.out (by have := HN.out; omega) bo bi bdv m gd' d wq.heap.size st.2 HSL.out wy HBZ.out HWB.out ho hi hdv HNE.out.1 (by have h1 := HLT.out; have h2 := HBI.out; omega) HNE.out.2 hml
          have HCALL := Aside0.mk (numbersOf_calls 77 _ eg (grB M m) _ p N1 N2 A c l0_0 _ _ wy (HOA.out.step HBZ.out) (by have := HN.out; omega) gd' gcc hgt (fun mm W => Kd.R Kd.bool 4 W wq.heap.size (fun k => k = gd') (.slice (some ⟨gd', 0, none⟩) l0_0.length d) (grDone st.2 (grB M m) mm)) (fun W W' i h e => Kd.R_step h (fun k hk _ => by rw [hk]; exact e)) (by rw [grDone_zero]; exact HD.out) hpred)
          have HYS := Aside0.mk (show w5.heap.size ≤ wy.heap.size from HGW.out.size)
          clear hby hwy hgt hpred hi hdv g1 g2 g3 q1 HD
          go_upto_region 10 with (fail)
          go_wp2_with (first | (go_at_call 76; (refine HCALL.out.mono ?_); rintro e w8 ⟨v7, rfl, hR, hg, hI8⟩; obtain ⟨D7, d7, rfl, _, _⟩ := Kd.R_reads hR; have HR7 := Aside0.mk hR; have HG8 := Aside0.mk hg; have HD8 := Aside0.mk hI8; clear hR hg hI8 ho g0) | ((with_reducible refine gate_builtin (b := .append) (xs := #[.tmp 45, .tmp 49]) rfl ?_); at_builtin; refine Kd.S_append (Kd.slice 3 (Kd.int .i64)) (w0 := w8) w5.heap.size rfl (.tmp 45) (.tmp 49) 40 27 (.slice none 0 0) 24 rfl Try.underlying40 info27 rfl (by decide) (by omega) u6 st.1 (numsTo l0_0 (grB M m) l0_0.length) [Value.slice D7 (numsTo l0_0 (grB M m) l0_0.length).length d7] (fun _ => True) (fun k => some k = (Value.slice D7 (numsTo l0_0 (grB M m) l0_0.length).length d7).ownBlock) rfl rfl ⟨_, rfl, Kd.R_lower (Kd.R_tight rfl (by (with_reducible repeat (first | apply Kd.R_alloc | apply Kd.R_drewN | apply Kd.R_drew)); exact HR7.out)) HYS.out⟩ (fun k hk => ⟨trivial, fun e => by have h1 := Kd.R_base HR7.out k hk.symm; have h2 := Kd.S_lt HS.out k e.symm; omega⟩) (fun _ _ => trivial) ?aO ?aB ?aS ?aL ?_; (case aO => exact Kd.S_mono (Kd.S_step (Kd.S_bound HS.out) (fun k hk hlt => HG8.out.block k hlt (fun e => by have h1 := Option.some.inj e; have h2 := hk.2.1; have h3 := HLT.out; omega))) (fun k hk => ⟨trivial, fun e => by have h1 := Kd.R_base HR7.out k e.symm; have h2 := hk.2.2.1; omega⟩)); (case aB => exact Below.refl _ _); (case aS => exact Nat.le_trans HYS.out HG8.out.size); (case aL => have h1 := HLE.out; have h2 := HN.out; omega); intro v9 w9 ho_ hb_ hg_ hat_; have HS9 := Aside0.mk ho_; have HW9 := Aside0.mk (grown_in (grown_in HGW.out HG8.out (fun b e => .inl (Option.some.inj e).symm)) hg_ (fun b e => .inr (Kd.S_base HS.out b e))); have HD9 := Aside0.mk (Kd.R_step HD8.out (fun k hk hlt => hg_.block k hlt (fun e => by have h1 := Kd.S_base HS.out k e.symm; have h2 := HLT.out; omega))); clear ho_ hb_ hg_ hat_))
          go_roundg (l0_0.length - (m + 1))
          case measure => omega
          case rel => exact ⟨m + 1, by omega, by omega, by first | go_num | exact congrArg (Value.int .i64) (wrap_succ m (by have := HN.out; omega)), HW9, by rw [HST.out]; exact HD9, by rw [HST.out]; exact HS9⟩
      · obtain rfl : m = l0_0.length := by omega
        have hmlz : ¬ ((l0_0.length : Int) < (l0_0.length : Int)) := by omega
        go_wp2
        go_ret2
        exact ⟨_, rfl, by rw [HM.out]; exact Kd.S_mono (Kd.S_lower HS.out (Nat.le_trans HBw.out.size HB.out.size)) (fun _ _ => trivial), below_chain HBw.out (below_of_grown HB.out HGW.out (fun b e => by rw [← Option.some.inj e]; exact HWB.out))⟩

end Go.Proofs.Ytdiejmhphhdcfaa.Q
