-- Written by a program of this session (wip/xprint.py over the kit's printer).
import Derived.Test.YtenphfagdpkjaaaQ0
import Derived.Test.YtenphfagdpkjaaaQF101
import Derived.Test.YtenphfagdpkjaaaQF102
import Derived.Test.YtenphfagdpkjaaaQF51
import Derived.Test.YtenphfagdpkjaaaQF53
import Derived.Test.YtenphfagdpkjaaaQF88
import Derived.Test.YtenphfagdpkjaaaQF90
import Derived.Test.YtenphfagdpkjaaaQLBBaseB
import Derived.Test.YtenphfagdpkjaaaQP
import Derived.Test.YtenphfagdpkjaaaQV0
import Derived.Maps.OwnOps
import Derived.Maps.Views
import Derived.Carry
namespace Go.Proofs.Ytenphfagdpkjaaa.Q
open Go.RowKit Go.Proofs.YtenphfagdpkjaaaW.PrintWords Go.Proofs.YtenphfagdpkjaaaW.PrintLast
set_option linter.unusedVariables false
set_option linter.unusedSimpArgs false

/-! ### impl_isGrouping: function 83 -/
/-! ### a set of ints kept in a map to bools -/
theorem plainElem_bool_inv {H : Type} {P : Program} {e : TypeId} (he : P.underlying e = some .bool) {v : Value} {z : DataW H × List MemPlace} (h : plainElem P e v = some z) : ∃ x, v = .bool x ∧ z = (.lit (.bool x), []) := by
  unfold plainElem at h
  rw [he] at h
  cases v <;> simp at h
  exact ⟨_, rfl, h.symm⟩
theorem own_look_bool {H : Type} {P : Program} {k t e : TypeId} {w : World} {b n : Nat} {D : DataW H} (h : w.ownsMap P k (plainElem P e) b n D) (K : Go.Maps.Keyed P k) (ht : P.underlying t = some (.map k e)) (he : P.underlying e = some .bool) (hz : (zeroValue e).run P w = .ok (.bool false) w)
    {key : Value} {kl : Lit} (hkey : keyOf P k key = some kl) : ∃ c, (Instr.lookup t (.map (some b)) key false).run P w = .ok (.bool c) w ∧ D.atKey kl (.lit (.bool false)) = .lit (.bool c) := by
  obtain ⟨v, ps, hrun, hv⟩ := h.lookup K ht hz (plainElem_bool he false) hkey
  obtain ⟨c, rfl, hc⟩ := plainElem_bool_inv he hv
  simp only [Prod.mk.injEq] at hc
  exact ⟨c, hrun, hc.1⟩
/-- The set of the numbers of a list. -/
def setU (U : List Int) : DataW Unit := Go.Maps.setOf (.lit (.bool true)) (U.map (Lit.int .i64))
theorem setU_snoc (U : List Int) (x : Int) : setU (U ++ [x]) = (setU U).put (.int .i64 x) (.lit (.bool true)) := by
  unfold setU
  rw [List.map_append, List.map_singleton, Go.Maps.setOf_snoc]
theorem setU_fold (x : Int) (z : DataW Unit) : ∀ (U : List Int) (D : DataW Unit), Go.Maps.IsMap D → ((U.map (Lit.int .i64)).foldl (fun m q => m.put q (.lit (.bool true))) D).atKey (.int .i64 x) z = if U.contains x then .lit (.bool true) else D.atKey (.int .i64 x) z
  | [], D, _ => by simp
  | y :: r, D, hD => by
    rw [List.map_cons, List.foldl_cons, setU_fold x z r _ (hD.put _ _), List.contains_cons]
    by_cases h : r.contains x = true
    · rw [if_pos h, if_pos (by rw [h, Bool.or_true])]
    · rw [if_neg h]
      by_cases e : x = y
      · subst e
        rw [Go.Maps.atKey_put_same hD (by trivial), if_pos (by simp)]
      · rw [Go.Maps.atKey_put_other (by intro h2; injection h2 with _ h3; exact e h3), if_neg (by simpa [e] using h)]
theorem setU_at (x : Int) (U : List Int) {c : Bool} (h : (setU U).atKey (.int .i64 x) (.lit (.bool false)) = .lit (.bool c)) : c = U.contains x := by
  unfold setU Go.Maps.setOf at h
  rw [setU_fold x _ U _ Go.Maps.isMap_empty] at h
  cases hu : U.contains x with
  | true => rw [hu, if_pos rfl] at h; injection h with h; injection h with h; exact h.symm
  | false =>
    rw [hu, if_neg (by simp)] at h
    have h2 : (DataW.lit (.bool false) : DataW Unit) = .lit (.bool c) := h
    injection h2 with h2; injection h2 with h2; exact h2.symm
def UsedOk (U : List Int) : Prop := U.Nodup ∧ ∀ x ∈ U, 1 ≤ x ∧ x ≤ 999
theorem nodup_le : ∀ (N : Nat) (U : List Int), U.Nodup → (∀ x ∈ U, 1 ≤ x ∧ x ≤ (N : Int)) → U.length ≤ N
  | 0, U, _, h => by
    cases U with
    | nil => simp
    | cons a r => have := h a (by simp); omega
  | N + 1, U, hn, h => by
    by_cases hm : ((N + 1 : Nat) : Int) ∈ U
    · have h2 := nodup_le N (U.erase ((N + 1 : Nat) : Int)) (hn.erase _) (fun x hx => by
        have hx2 := (hn.mem_erase_iff).1 hx
        have := h x hx2.2
        have := hx2.1
        omega)
      rw [List.length_erase_of_mem hm] at h2
      omega
    · have h2 := nodup_le N U hn (fun x hx => by
        have := h x hx
        have : x ≠ ((N + 1 : Nat) : Int) := fun e => hm (e ▸ hx)
        omega)
      omega
theorem UsedOk.len {U : List Int} (h : UsedOk U) : U.length ≤ 999 := nodup_le 999 U h.1 h.2
theorem UsedOk.snoc {U : List Int} (h : UsedOk U) {x : Int} (hx : 1 ≤ x ∧ x ≤ 999) (hn : U.contains x = false) : UsedOk (U ++ [x]) := by
  refine ⟨List.nodup_append.2 ⟨h.1, by simp, fun a ha b hb => ?_⟩, fun y hy => ?_⟩
  · obtain rfl := List.mem_singleton.1 hb
    rintro rfl
    rw [List.contains_iff_mem.2 ha] at hn
    cases hn
  · rcases List.mem_append.1 hy with hy | hy
    · exact h.2 y hy
    · obtain rfl := List.mem_singleton.1 hy; exact hx
theorem ctxOk_in : ∀ (cs : List S77) (p : Option Int), ctxOk p cs = true → ∀ c ∈ cs, 1 ≤ c.f0 ∧ c.f0 ≤ 999
  | [], _, _, c, hc => by simp at hc
  | x :: r, p, h, c, hc => by
    have h : (1 ≤ x.f0 ∧ x.f0 ≤ 999) ∧ ctxOk (some x.f0) r = true := by
      cases p <;> (simp only [ctxOk, Bool.and_eq_true, decide_eq_true_eq] at h; exact ⟨by omega, h.2⟩)
    rcases List.mem_cons.1 hc with rfl | hc
    · exact h.1
    · exact ctxOk_in r _ h.2 c hc
theorem find_num {cs : List S77} {rs : List S91} (hg : goodB cs rs = true) {x : Int} (h : 0 ≤ find cs x) : 1 ≤ x ∧ x ≤ 999 := by
  simp only [goodB, Bool.and_eq_true] at hg
  have ha := any_idx (fun c : S77 => c.f0 == x) cs
  have h' : 0 ≤ idxI (fun c : S77 => c.f0 == x) cs := h
  rw [decide_eq_true h'] at ha
  obtain ⟨c, hc, he⟩ := List.any_eq_true.1 ha.symm
  have he2 : c.f0 = x := by simpa using he
  have := ctxOk_in cs _ hg.1.2 c hc
  omega
/-! ### names -/
def nmAt (s : ByteArray) (j : Nat) : Bool := (decide (97 ≤ bt s (j : Int)) && decide (bt s (j : Int) ≤ 122)) || (decide (j ≠ 0) && (decide (48 ≤ bt s (j : Int)) && decide (bt s (j : Int) ≤ 57)))
def nmFrom (s : ByteArray) (i d : Nat) : Bool := (List.range d).all (fun q => nmAt s (i + q)) && (decide (1 ≤ s.size) && decide (s.size ≤ 8))
def nmB (s : ByteArray) : Bool := nmFrom s 0 s.size
theorem nmFrom_succ (s : ByteArray) (i d : Nat) : nmFrom s i (d + 1) = (nmAt s i && nmFrom s (i + 1) d) := by
  unfold nmFrom
  rw [List.range_succ_eq_map, List.all_cons, List.all_map, Nat.add_zero, Bool.and_assoc]
  congr 2
  congr 1
  funext q
  simp only [Function.comp]
  rw [show i + Nat.succ q = i + 1 + q by omega]
theorem nm_ev (s : ByteArray) (hs : s.size ≤ 1048576) : Ev (fun k => impl_isName.f k s) (nmB s) := by
  have key := LB.Ev.down s.size (fun k i => impl_isName.l0 k s (s.size : Int) (i : Int)) (fun i => nmFrom s i (s.size - i))
    (by
      refine Ev.step (fun k => by rw [impl_isName.l0]) ?_
      simp only [Int.lt_irrefl, if_false, Nat.sub_self, impl_within.f]
      simp only [nmFrom, List.range_zero, List.all_nil, Bool.true_and]
      by_cases h1 : 1 ≤ s.size
      · have h2 : (s.size : Int) ≥ 1 := by omega
        simp only [h1, h2, if_true, decide_true, Bool.true_and]
        by_cases h3 : s.size ≤ 8
        · have h4 : (s.size : Int) ≤ 8 := by omega
          simp only [h3, h4, decide_true]
          exact Ev.now _
        · have h4 : ¬ (s.size : Int) ≤ 8 := by omega
          simp only [h3, h4, decide_false]
          exact Ev.now _
      · have h2 : ¬ (s.size : Int) ≥ 1 := by omega
        simp only [h1, h2, if_false, decide_false, Bool.false_and]
        exact Ev.now _)
    (fun i hi ih => by
      refine Ev.step (fun k => by rw [impl_isName.l0]) ?_
      obtain ⟨d, hd⟩ : ∃ d, s.size - i = d + 1 := ⟨s.size - i - 1, by omega⟩
      have hd2 : s.size - (i + 1) = d := by omega
      rw [hd2] at ih
      have a1 : (i : Int) < (s.size : Int) := by omega
      have a2 : (0 : Int) ≤ (i : Int) := by omega
      simp only [a1, a2, if_true, LB.w64 i (by omega), hd, nmFrom_succ]
      generalize nmFrom s (i + 1) d = R at ih ⊢
      unfold nmAt
      generalize bt s (i : Int) = c
      by_cases h97 : 97 ≤ c <;> by_cases h48 : 48 ≤ c <;> by_cases h122 : c ≤ 122 <;> by_cases h57 : c ≤ 57 <;> by_cases h0 : i = 0
      all_goals (first | (exfalso; omega) | skip)
      all_goals
        have q0 : ((i : Int) = 0) = (i = 0) := propext (by omega)
        simp only [ge_iff_le, q0, h97, h48, h122, h57, h0, if_true, if_false, decide_true, decide_false, Bool.true_and, Bool.and_true, Bool.false_and, Bool.and_false, Bool.or_true, Bool.or_false, Bool.true_or, Bool.false_or, ne_eq, not_true_eq_false, not_false_eq_true]
        first
          | exact Ev.now _
          | exact ih
          | (subst h0; exact ih)
          | (subst h0; exact Ev.now _))
  have h0 := key 0 (Nat.zero_le _)
  exact h0
/-! ### groupings -/
def smallP (l : List S64) : Bool := l.all fun p => decide (p.f0.size ≤ 1048576)
theorem smallP_at {l : List S64} (h : smallP l = true) (i : Nat) : (l.getD i z64).f0.size ≤ 1048576 := by
  rw [List.getD_eq_getElem?_getD]
  by_cases hi : i < l.length
  · rw [List.getElem?_eq_getElem hi]
    exact of_decide_eq_true (List.all_eq_true.1 h _ (List.getElem_mem hi))
  · rw [List.getElem?_eq_none (by omega)]
    show (⟨#[]⟩ : ByteArray).size ≤ _
    exact Nat.zero_le _
def flatM (l : List S64) : List Int := l.flatMap (·.f1)
def memOk (cs : List S77) (U ms : List Int) (k : Nat) : Bool := decide (0 ≤ find cs (ms.getD k 0)) && !((U ++ ms.take k).contains (ms.getD k 0)) && !(decide (0 < k) && decide (ms.getD k 0 ≤ ms.getD (k - 1) 0))
def phOk (cs : List S77) (l : List S64) (i : Nat) : Bool := nmB (l.getD i z64).f0 && !decide ((l.getD i z64).f1.length = 0) && !((l.take i).any fun q => q.f0.toList == (l.getD i z64).f0.toList) && (List.range (l.getD i z64).f1.length).all (memOk cs (flatM (l.take i)) (l.getD i z64).f1)
def grpB (cs : List S77) (l : List S64) : Bool := (List.range l.length).all (phOk cs l) && decide (l.length ≤ 6)
theorem grpB_no {cs : List S77} {l : List S64} {i : Nat} (hi : i < l.length) (h : phOk cs l i = false) : grpB cs l = false := by
  unfold grpB
  rw [show (List.range l.length).all (phOk cs l) = false from by
    rw [List.all_eq_false]
    exact ⟨i, List.mem_range.2 hi, by rw [h]; simp⟩, Bool.false_and]
theorem grpB_end {cs : List S77} {l : List S64} (h : ∀ j, j < l.length → phOk cs l j = true) : grpB cs l = decide (l.length ≤ 6) := by
  unfold grpB
  rw [show (List.range l.length).all (phOk cs l) = true from List.all_eq_true.2 (fun j hj => h j (List.mem_range.1 hj)), Bool.true_and]
theorem phOk_mem {cs : List S77} {l : List S64} {i k : Nat} (hk : k < (l.getD i z64).f1.length) (h : memOk cs (flatM (l.take i)) (l.getD i z64).f1 k = false) : phOk cs l i = false := by
  unfold phOk
  rw [show (List.range (l.getD i z64).f1.length).all (memOk cs (flatM (l.take i)) (l.getD i z64).f1) = false from by
    rw [List.all_eq_false]
    exact ⟨k, List.mem_range.2 hk, by rw [h]; simp⟩, Bool.and_false]
theorem phOk_yes {cs : List S77} {l : List S64} {i : Nat} (h1 : nmB (l.getD i z64).f0 = true) (h2 : (l.getD i z64).f1.length ≠ 0) (h3 : ((l.take i).any fun q => q.f0.toList == (l.getD i z64).f0.toList) = false) (h : ∀ k, k < (l.getD i z64).f1.length → memOk cs (flatM (l.take i)) (l.getD i z64).f1 k = true) : phOk cs l i = true := by
  unfold phOk
  rw [h1, h3, decide_eq_false h2, List.all_eq_true.2 (fun j hj => h j (List.mem_range.1 hj))]
  rfl
theorem flatM_succ (l : List S64) (i : Nat) (hi : i < l.length) : flatM (l.take (i + 1)) = flatM (l.take i) ++ (l.getD i z64).f1 := by
  unfold flatM
  rw [List.take_succ_eq_append_getElem hi, List.flatMap_append, List.getD_eq_getElem?_getD, List.getElem?_eq_getElem hi]
  simp
theorem take_succD (ms : List Int) (k : Nat) (hk : k < ms.length) : ms.take (k + 1) = ms.take k ++ [ms.getD k 0] := by
  rw [List.take_succ_eq_append_getElem hk, List.getD_eq_getElem?_getD, List.getElem?_eq_getElem hk]
  rfl
theorem impl_isGrouping.law3 : Go.Maps.Keyed Try.prog 3 := Go.Maps.int_keyed Try.underlying3
theorem impl_isGrouping.zero4 (w : World) : (zeroValue 4).run Try.prog w = .ok (.bool false) w := by kernel_rfl
set_option maxHeartbeats 8000000 in
set_option maxRecDepth 100000 in
theorem impl_isGrouping.pred (s : ByteArray) (ms : Value) (b : Nat) (w : World) (hb : w.heap[b]? = some (.cells #[.string s, ms] 64 (0, 0))) : PredP Try.prog 103 #[.pointer (some ⟨b, 0, none⟩)] (fun q => q.f0.toList == s.toList) w := by
  intro W x A1 c1 hB hl hC
  have hc' : W.cell? ⟨b, 0, none⟩ = some (.string s) := (blk_cell (blk_below hb hB) 0).trans rfl
  have hb' : b < W.heap.size := blk_lt (blk_below hb hB)
  show Calls _ _ _ _ (fun e w' => e = .returned (.bool (x.f0.toList == s.toList)) ∧ _)
  obtain ⟨t, ht⟩ : ∃ t, x.f0 = t := ⟨_, rfl⟩
  rw [ht]
  clear hB hb hC ht
  go_enter Try.func103, Try.ntmps103
  go_wp2
  go_ret
  exact ⟨rfl, by repeat (first | exact Below.refl _ _ | apply below_alloc | apply pw_below_drewN | apply below_drew1)⟩
set_option maxHeartbeats 16000000 in
set_option maxRecDepth 100000 in
theorem impl_isGrouping.calls (A0_0 : Option Addr) (c0_0 : Nat) (l0_0 : List S77) (A0_1 : Option Addr) (c0_1 : Nat) (l0_1 : List S91) (A1 : Option Addr) (c1 : Nat) (l1 : List S64) (w : World) (hr0_0 : Kd.C k77 w A0_0 l0_0.length l0_0) (hc0_0 : l0_0.length ≤ c0_0) (hr0_1 : Kd.C k91 w A0_1 l0_1.length l0_1) (hc0_1 : l0_1.length ≤ c0_1) (hr1 : Kd.C k64 w A1 l1.length l1) (hc1 : l1.length ≤ c1) (hg : goodB l0_0 l0_1 = true) (hs : smallP l1 = true) :
    Calls Try.prog 83 #[.agg #[.slice A0_0 l0_0.length c0_0, .slice A0_1 l0_1.length c0_1], .slice A1 l1.length c1] w fun e w' => e = .returned (.bool (grpB l0_0 l1)) ∧ Below w.heap.size w w' := by
  have HP1 := Aside0.mk hr1
  have HG := Aside0.mk hg
  have HSM := Aside0.mk hs

  have hl1 : l1.length ≤ 9223372036854775807 := hr1.2.1
  have eg := enters_of Try.func103 (by kernel_rfl) rfl
  have hmm := @run_makeMap Try.prog
  clear hr1 hg hs
  have HR0 := Aside0.mk hr0_0
  have HR1 := Aside0.mk hr0_1
  have HC0 := Aside0.mk hc0_0
  have HC1 := Aside0.mk hc0_1
  clear hr0_0 hr0_1 hc0_0 hc0_1
  obtain ⟨wb, hwb⟩ : ∃ wb, (w).alloc (.cells #[.slice A0_0 l0_0.length c0_0, .slice A0_1 l0_1.length c0_1] 33 (0, 0)) = wb := ⟨_, rfl⟩
  have HBw := Aside0.mk (show Below w.heap.size w wb from by rw [← hwb]; repeat (first | exact Below.refl _ _ | apply below_alloc))
  have HWB := HBw
  have hhr : wb.heap[w.heap.size]? = some (.cells #[.slice A0_0 l0_0.length c0_0, .slice A0_1 l0_1.length c0_1] 33 (0, 0)) := by rw [← hwb]; have h := blk_new (w) (.cells #[.slice A0_0 l0_0.length c0_0, .slice A0_1 l0_1.length c0_1] 33 (0, 0)); rw [show (w).heap.size = w.heap.size from by rfl] at h; exact h
  have hb0 : wb.cell? ⟨w.heap.size, 0, none⟩ = some (.slice A0_0 l0_0.length c0_0) := (blk_cell hhr 0).trans rfl
  have hb1 : wb.cell? ⟨w.heap.size, 1, none⟩ = some (.slice A0_1 l0_1.length c0_1) := (blk_cell hhr 1).trans rfl
  have hbs : w.heap.size < wb.heap.size := blk_lt hhr
  have HW := Aside0.mk hwb
  clear hwb
  have HBX := Aside0.mk hhr
  have HC1R := HC1
  clear hhr hb0 hb1
  go_enter Try.func83, Try.ntmps83
  go_upto_region 1 with (fail)
  try rw [HW.out]
  clear HW
  go_upto_region 2 with (fail)
  have hal := below_alloc (Below.refl wb.heap.size wb) (.map #[] 0)
  have HM := Aside0.mk (World.ownsMap_made (H := Unit) wb Try.prog 3 (plainElem Try.prog 4))
  obtain ⟨bm, hbm⟩ : ∃ b, wb.heap.size = b := ⟨_, rfl⟩
  have HBX := Aside0.mk (blk_below HBX.out hal)
  have HB := Aside0.mk (below_chain HBw.out hal)
  rw [hbm] at HM
  have hbx : w.heap.size < bm := by omega
  generalize wb.alloc (.map #[] 0) = wz at hal HM HBX HB ⊢
  clear hal
  try rw [hbm]
  clear hbm hbs hmm
  go_wp2
  go_loopg [6, 7, 8, 9, 13] l1.length (fun gg _ _ _ _ s13 wr => ∃ i : Nat, i ≤ l1.length ∧ l1.length - i ≤ gg ∧ s13 = .int .i64 i ∧ Aside0 (Below w.heap.size w wr) ∧ Aside0 (wr.heap[w.heap.size]? = some (.cells #[.slice A0_0 l0_0.length c0_0, .slice A0_1 l0_1.length c0_1] 33 (0, 0))) ∧ Aside0 (wr.ownsMap (H := Unit) Try.prog 3 (plainElem Try.prog 4) bm (flatM (l1.take i)).length (setU (flatM (l1.take i)))) ∧ Aside0 (UsedOk (flatM (l1.take i))) ∧ Aside0 (∀ j, j < i → phOk l0_0 l1 j = true))
  case atStart => exact ⟨0, Nat.zero_le _, by omega, rfl, HB, HBX, ⟨HM.out⟩, ⟨⟨by simp [flatM], by simp [flatM]⟩⟩, ⟨fun j hj => absurd hj (Nat.not_lt_zero _)⟩⟩
  case round =>
    clear HB HBX HM
    obtain ⟨i, hi, hgg, rfl, HB, HBX, HM, HU, HA⟩ := hrel
    by_cases hlt : i < l1.length
    · have hltz : (i : Int) < (l1.length : Int) := by omega
      obtain ⟨ad, D1, d1, e1, hx0, hx1, hd1, hC1⟩ := at_T64 HP1.out (i : Int) (by omega) hltz
      cases e1
      replace hx0 := (HB.out.cell (World.block_lt_of_cell? w _ hx0)).trans hx0
      replace hx1 := (HB.out.cell (World.block_lt_of_cell? w _ hx1)).trans hx1
      have e2 : rd_T64 l1 (i : Int) = l1.getD i z64 := by simp [rd_T64]
      rw [e2] at hx0 hx1 hd1 hC1
      clear e2
      simp only [Int.toNat_natCast] at hx0 hx1
      have hsz := smallP_at HSM.out i
      obtain ⟨nm, hnm⟩ : ∃ s, (l1.getD i z64).f0 = s := ⟨_, rfl⟩
      obtain ⟨ms, hms⟩ : ∃ s, (l1.getD i z64).f1 = s := ⟨_, rfl⟩
      rw [hnm] at hx0 hsz
      rw [hms] at hx1 hd1 hC1
      obtain ⟨kn, hkn⟩ := Ev.rounds (nm_ev nm hsz)
      have HKN := Aside0.mk hkn
      have HNM := Aside0.mk hnm
      have HMS := Aside0.mk hms
      have HD1 := Aside0.mk hd1
      have HC1 := Aside0.mk hC1
      have hml : ms.length ≤ 9223372036854775807 := hC1.2.1
      clear hnm hms hd1 hC1 hkn hsz
      have HCT := Aside0.mk (show Kd.C k64 w (some ad) i (l1.take i) from by have h := Kd.C_take HP1.out (Nat.le_of_lt hlt); rwa [show (l1.take i).length = i by rw [List.length_take]; omega] at h)
      obtain ⟨i0, hi0, _⟩ := Option.map_eq_some_iff.1 info64
      have hcut := cut_to (P := Try.prog) 35 64 .i64 Try.underlying35 hi0 (some ad) l1.length c1 (i : Int) (by omega) (by omega) hc1
      rw [Int.toNat_natCast] at hcut
      obtain ⟨U, hU⟩ : ∃ U, flatM (l1.take i) = U := ⟨_, rfl⟩
      rw [hU] at HM HU
      have HUE := Aside0.mk hU
      clear hU
      go_upto_region 5 with (fail)
      have hal := below_alloc (Below.refl wr.heap.size wr) (.cells #[.string nm, .slice D1 ms.length d1] 64 (0, 0))
      have BP := Aside0.mk (blk_new wr (.cells #[.string nm, .slice D1 ms.length d1] 64 (0, 0)))
      have hgp := HM.out.lt
      obtain ⟨gp, hg⟩ : ∃ g, wr.heap.size = g := ⟨_, rfl⟩
      rw [hg] at BP hgp
      replace HB := Aside0.mk (below_chain HB.out hal)
      replace HBX := Aside0.mk (blk_below HBX.out hal)
      replace HM := Aside0.mk (HM.out.kept (grown_of_below hal none) (by simp))
      generalize wr.alloc (.cells #[.string nm, .slice D1 ms.length d1] 64 (0, 0)) = wz at hal BP HB HBX HM ⊢
      try rw [hg]
      clear hal hg hx0 hx1
      have hp0 : wz.cell? ⟨gp, 0, none⟩ = some (.string nm) := (blk_cell BP.out 0).trans rfl
      have hp1 : wz.cell? ⟨gp, 1, none⟩ = some (.slice D1 ms.length d1) := (blk_cell BP.out 1).trans rfl
      obtain ⟨bn, hbn⟩ : ∃ b, nmB nm = b := ⟨_, rfl⟩
      rw [hbn] at HKN
      have HBN := Aside0.mk hbn
      clear hbn
      cases bn with
      | false =>
        go_wp2_with (go_at_call 101; (refine (impl_isName.calls kn nm _ _ HKN.out).mono ?_); rintro e w1 ⟨rfl, hd⟩; have hb := hd.below; clear hd; have HB := Aside0.mk (below_chain HB.out hb); have HBX := Aside0.mk (blk_below HBX.out hb); have BP := Aside0.mk (blk_below BP.out hb); have HM := Aside0.mk (HM.out.kept (grown_of_below hb none) (by simp)); have hp0 := pw_cell_below hb hp0; have hp1 := pw_cell_below hb hp1; clear hb)
        go_ret
        exact ⟨by rw [grpB_no hlt (show phOk l0_0 l1 i = false from by unfold phOk; rw [HNM.out, HBN.out]; rfl)]; rfl, HB.out⟩
      | true =>
        obtain ⟨bd, hbd⟩ : ∃ b, (l1.take i).any (fun q => q.f0.toList == nm.toList) = b := ⟨_, rfl⟩
        have HCF := Aside0.mk (fun (W : World) (hW : Below w.heap.size w W) (hP : W.heap[gp]? = some (.cells #[.string nm, .slice D1 ms.length d1] 64 (0, 0))) => show Calls Try.prog 102 #[.slice (some ad) i c1, .func (.func 103) #[] #[.pointer (some ⟨gp, 0, none⟩)]] W (fun e w' => e = .returned (.bool bd) ∧ Below W.heap.size W w') from by
          have h := impl_Phase_102.calls 103 #[.pointer (some ⟨gp, 0, none⟩)] eg (fun q => q.f0.toList == nm.toList) (some ad) c1 i (l1.take i) W (by rw [List.length_take]; omega) (Kd.C_below HCT.out hW) (by omega) (impl_isGrouping.pred nm _ gp W hP)
          rw [hbd] at h
          exact h)
        have HBD := Aside0.mk hbd
        clear hbd
        by_cases hz : ms.length = 0
        · have hzz : ((ms.length : Int) == 0) = true := by rw [hz]; rfl
          have HZ := Aside0.mk hz
          clear hz
          go_wp2_with (go_at_call 101; (refine (impl_isName.calls kn nm _ _ HKN.out).mono ?_); rintro e w1 ⟨rfl, hd⟩; have hb := hd.below; clear hd; have HB := Aside0.mk (below_chain HB.out hb); have HBX := Aside0.mk (blk_below HBX.out hb); have BP := Aside0.mk (blk_below BP.out hb); have HM := Aside0.mk (HM.out.kept (grown_of_below hb none) (by simp)); have hp0 := pw_cell_below hb hp0; have hp1 := pw_cell_below hb hp1; clear hb)
          go_ret
          exact ⟨by rw [grpB_no hlt (show phOk l0_0 l1 i = false from by unfold phOk; rw [HMS.out, decide_eq_true HZ.out, Bool.not_true, Bool.and_false, Bool.false_and, Bool.false_and])]; rfl, HB.out⟩
        · have hzz : ((ms.length : Int) == 0) = false := by simpa using hz
          have HZ := Aside0.mk hz
          clear hz
          cases bd with
          | true =>
            go_wp2_with (first | (go_at_call 101; (refine (impl_isName.calls kn nm _ _ HKN.out).mono ?_); rintro e w1 ⟨rfl, hd⟩; have hb := hd.below; clear hd; have HB := Aside0.mk (below_chain HB.out hb); have HBX := Aside0.mk (blk_below HBX.out hb); have BP := Aside0.mk (blk_below BP.out hb); have HM := Aside0.mk (HM.out.kept (grown_of_below hb none) (by simp)); have hp0 := pw_cell_below hb hp0; have hp1 := pw_cell_below hb hp1; clear hb) | (go_at_call 102; (refine (HCF.out _ HB.out BP.out).mono ?_); rintro e w2 ⟨rfl, hb⟩; have HB := Aside0.mk (below_chain HB.out hb); have HBX := Aside0.mk (blk_below HBX.out hb); have BP := Aside0.mk (blk_below BP.out hb); have HM := Aside0.mk (HM.out.kept (grown_of_below hb none) (by simp)); have hp0 := pw_cell_below hb hp0; have hp1 := pw_cell_below hb hp1; clear hb))
            go_ret
            exact ⟨by rw [grpB_no hlt (show phOk l0_0 l1 i = false from by unfold phOk; rw [HNM.out, HBD.out, Bool.not_true, Bool.and_false, Bool.false_and])]; rfl, HB.out⟩
          | false =>
            go_wp2_with (first | (go_at_call 101; (refine (impl_isName.calls kn nm _ _ HKN.out).mono ?_); rintro e w1 ⟨rfl, hd⟩; have hb := hd.below; clear hd; have HB := Aside0.mk (below_chain HB.out hb); have HBX := Aside0.mk (blk_below HBX.out hb); have BP := Aside0.mk (blk_below BP.out hb); have HM := Aside0.mk (HM.out.kept (grown_of_below hb none) (by simp)); have hp0 := pw_cell_below hb hp0; have hp1 := pw_cell_below hb hp1; clear hb) | (go_at_call 102; (refine (HCF.out _ HB.out BP.out).mono ?_); rintro e w2 ⟨rfl, hb⟩; have HB := Aside0.mk (below_chain HB.out hb); have HBX := Aside0.mk (blk_below HBX.out hb); have BP := Aside0.mk (blk_below BP.out hb); have HM := Aside0.mk (HM.out.kept (grown_of_below hb none) (by simp)); have hp0 := pw_cell_below hb hp0; have hp1 := pw_cell_below hb hp1; clear hb))
            clear hp0 hp1 hcut
            obtain ⟨w5, rfl⟩ : ∃ y, y = wr := ⟨_, rfl⟩
            go_loopg [8, 9, 38] ms.length (fun gg _ _ s38 wr => ∃ k : Nat, k ≤ ms.length ∧ ms.length - k ≤ gg ∧ s38 = .int .i64 k ∧ Aside0 (Below w.heap.size w wr) ∧ Aside0 (wr.heap[w.heap.size]? = some (.cells #[.slice A0_0 l0_0.length c0_0, .slice A0_1 l0_1.length c0_1] 33 (0, 0))) ∧ Aside0 (wr.heap[gp]? = some (.cells #[.string nm, .slice D1 ms.length d1] 64 (0, 0))) ∧ Aside0 (wr.ownsMap (H := Unit) Try.prog 3 (plainElem Try.prog 4) bm (U ++ ms.take k).length (setU (U ++ ms.take k))) ∧ Aside0 (UsedOk (U ++ ms.take k)) ∧ Aside0 (∀ j, j < k → memOk l0_0 U ms j = true))
            case atStart => exact ⟨0, Nat.zero_le _, by omega, rfl, HB, HBX, BP, ⟨by rw [List.take_zero, List.append_nil]; exact HM.out⟩, ⟨by rw [List.take_zero, List.append_nil]; exact HU.out⟩, ⟨fun j hj => absurd hj (Nat.not_lt_zero _)⟩⟩
            case round =>
              clear HB HBX BP HM HU
              obtain ⟨k, hk, hgg2, rfl, HB, HBX, BP, HM, HU, HAM⟩ := hrel
              by_cases hlk : k < ms.length
              · have hlkz : (k : Int) < (ms.length : Int) := by omega
                obtain ⟨adm, em, hxm⟩ := Kd.at_int HC1.out (k : Int) (by omega) hlkz
                cases em
                rw [← rd_get ms k, Int.toNat_natCast] at hxm
                obtain ⟨x, hx⟩ : ∃ x, ms.getD k 0 = x := ⟨_, rfl⟩
                rw [hx] at hxm
                replace hxm := (HB.out.cell (World.block_lt_of_cell? w _ hxm)).trans hxm
                have HX := Aside0.mk hx
                clear hx
                have hq0 : wr.cell? ⟨w.heap.size, 0, none⟩ = some (.slice A0_0 l0_0.length c0_0) := (blk_cell HBX.out 0).trans rfl
                have hq1 : wr.cell? ⟨w.heap.size, 1, none⟩ = some (.slice A0_1 l0_1.length c0_1) := (blk_cell HBX.out 1).trans rfl
                have hp1 : wr.cell? ⟨gp, 1, none⟩ = some (.slice (some adm) ms.length d1) := (blk_cell BP.out 1).trans rfl
                obtain ⟨fx, hfx⟩ : ∃ f, find l0_0 x = f := ⟨_, rfl⟩
                have A3 := Aside0.mk (show impl_indexOf.f l0_0 l0_1 x = some fx from congrArg some hfx)
                have HFX := Aside0.mk hfx
                clear hfx
                by_cases hneg : fx < 0
                · have hmo : memOk l0_0 U ms k = false := by unfold memOk; rw [HX.out, HFX.out, decide_eq_false (show ¬ 0 ≤ fx by omega)]; rfl
                  have HMO := Aside0.mk hmo
                  clear hmo
                  go_wp2_with (go_at_call 53; (with_reducible refine (impl_indexOf.calls _ _ l0_0 _ _ l0_1 x _ _ (Kd.C_below HR0.out HB.out) HC0.out (Kd.C_below HR1.out HB.out) HC1R.out A3.out).mono ?_); rintro e w3 ⟨rfl, hb⟩; have HB := Aside0.mk (below_chain HB.out hb); have HBX := Aside0.mk (blk_below HBX.out hb); have BP := Aside0.mk (blk_below BP.out hb); have HM := Aside0.mk (HM.out.kept (grown_of_below hb none) (by simp)); have hq0 := pw_cell_below hb hq0; have hq1 := pw_cell_below hb hq1; have hp1 := pw_cell_below hb hp1; clear hb)
                  go_ret
                  exact ⟨by rw [grpB_no hlt (phOk_mem (k := k) (by rw [HMS.out]; exact hlk) (by rw [HUE.out, HMS.out]; exact HMO.out))]; rfl, HB.out⟩
                · have hnum := find_num HG.out (show 0 ≤ find l0_0 x from by rw [HFX.out]; omega)
                  have hwf : (Lit.int .i64 x).wf = true := by
                    have h1 : IntKind.min .i64 = -9223372036854775808 := rfl
                    have h2 : IntKind.max .i64 = 9223372036854775807 := rfl
                    simp only [Lit.wf, Bool.and_eq_true, decide_eq_true_eq, h1, h2]
                    omega
                  have HKEY := Aside0.mk (Go.Maps.keyOf_int_mk Try.underlying3 hwf)
                  have HNUM := Aside0.mk hnum
                  clear hwf hnum
                  obtain ⟨cb, hcb⟩ : ∃ b, (U ++ ms.take k).contains x = b := ⟨_, rfl⟩
                  have HCB := Aside0.mk hcb
                  clear hcb
                  cases cb with
                  | true =>
                    have HMO := Aside0.mk (show memOk l0_0 U ms k = false from by unfold memOk; rw [HX.out, HCB.out, Bool.not_true, Bool.and_false, Bool.false_and])
                    go_wp2_with (go_at_call 53; (with_reducible refine (impl_indexOf.calls _ _ l0_0 _ _ l0_1 x _ _ (Kd.C_below HR0.out HB.out) HC0.out (Kd.C_below HR1.out HB.out) HC1R.out A3.out).mono ?_); rintro e w3 ⟨rfl, hb⟩; have HB := Aside0.mk (below_chain HB.out hb); have HBX := Aside0.mk (blk_below HBX.out hb); have BP := Aside0.mk (blk_below BP.out hb); have HM := Aside0.mk (HM.out.kept (grown_of_below hb none) (by simp)); have hq0 := pw_cell_below hb hq0; have hq1 := pw_cell_below hb hq1; have hp1 := pw_cell_below hb hp1; obtain ⟨c, hrun, hat⟩ := own_look_bool HM.out impl_isGrouping.law3 Try.underlying117 Try.underlying4 (impl_isGrouping.zero4 _) HKEY.out; obtain rfl := (setU_at x _ hat).trans HCB.out; clear hat; clear hb)
                    go_ret
                    exact ⟨by rw [grpB_no hlt (phOk_mem (k := k) (by rw [HMS.out]; exact hlk) (by rw [HUE.out, HMS.out]; exact HMO.out))]; rfl, HB.out⟩
                  | false =>
                    have HNL := Aside0.mk (show (U ++ ms.take k).length < maxLen from by have := HU.out.len; unfold maxLen; omega)
                    have HBM := Aside0.mk (show w.heap.size ≤ bm from by omega)
                    have HN1 := Aside0.mk (show w.heap.size ≠ bm from by omega)
                    have HN2 := Aside0.mk (show gp ≠ bm from by omega)
                    by_cases hk0 : k = 0
                    · have hkz : ¬ ((0 : Int) < (k : Int)) := by omega
                      have HMO := Aside0.mk (show memOk l0_0 U ms k = true from by unfold memOk; rw [HX.out, HFX.out, HCB.out, decide_eq_true (show 0 ≤ fx by omega), decide_eq_false (show ¬ 0 < k by omega)]; rfl)
                      clear hk0
                      go_wp2_with (first | (go_at_call 53; (with_reducible refine (impl_indexOf.calls _ _ l0_0 _ _ l0_1 x _ _ (Kd.C_below HR0.out HB.out) HC0.out (Kd.C_below HR1.out HB.out) HC1R.out A3.out).mono ?_); rintro e w3 ⟨rfl, hb⟩; have HB := Aside0.mk (below_chain HB.out hb); have HBX := Aside0.mk (blk_below HBX.out hb); have BP := Aside0.mk (blk_below BP.out hb); have HM := Aside0.mk (HM.out.kept (grown_of_below hb none) (by simp)); have hq0 := pw_cell_below hb hq0; have hq1 := pw_cell_below hb hq1; have hp1 := pw_cell_below hb hp1; obtain ⟨c, hrun, hat⟩ := own_look_bool HM.out impl_isGrouping.law3 Try.underlying117 Try.underlying4 (impl_isGrouping.zero4 _) HKEY.out; obtain rfl := (setU_at x _ hat).trans HCB.out; clear hat; clear hb) | (at_mapUpdate; refine wpList_mapUpdate_own _ rfl _ _ _ 117 rfl 3 4 impl_isGrouping.law3 Try.underlying117 _ bm _ _ rfl HM.out HNL.out _ _ _ rfl rfl HKEY.out _ [] (plainElem_bool Try.underlying4 true) ?_; intro w4 hown hgrow; have HB := Aside0.mk (HB.out.grown hgrow HB.out.size (fun k hk => by injection hk with hk; exact hk ▸ HBM.out)); have HBX := Aside0.mk (blk_grown HBX.out hgrow (by intro h; injection h with h; exact HN1.out h)); have BP := Aside0.mk (blk_grown BP.out hgrow (by intro h; injection h with h; exact HN2.out h)); have HM := Aside0.mk hown; clear hown hgrow))
                      go_roundg (ms.length - (k + 1))
                      case measure => omega
                      case rel =>
                        have hts := take_succD ms k hlk
                        rw [HX.out] at hts
                        refine ⟨k + 1, by omega, by omega, by first | go_num | exact congrArg (Value.int .i64) (by unfold wrap64; omega), HB, HBX, BP, ⟨?_⟩, ⟨?_⟩, ⟨fun j hj => ?_⟩⟩
                        · rw [hts, ← List.append_assoc, setU_snoc, List.length_append]; exact HM.out
                        · rw [hts, ← List.append_assoc]; exact HU.out.snoc HNUM.out HCB.out
                        · by_cases e : j = k
                          · subst e; exact HMO.out
                          · exact HAM.out j (by omega)
                    · have hkz : ((0 : Int) < (k : Int)) := by omega
                      have hk1 : 1 ≤ (k : Int) := by omega
                      obtain ⟨adq, eq, hxp⟩ := Kd.at_int HC1.out ((k - 1 : Nat) : Int) (by omega) (by omega)
                      cases eq
                      rw [← rd_get ms (k - 1), Int.toNat_natCast] at hxp
                      obtain ⟨y, hy⟩ : ∃ y, ms.getD (k - 1) 0 = y := ⟨_, rfl⟩
                      rw [hy] at hxp
                      replace hxp := (HB.out.cell (World.block_lt_of_cell? w _ hxp)).trans hxp
                      have HY := Aside0.mk hy
                      have HK0 := Aside0.mk hk0
                      clear hy hk0
                      have hlm : k - 1 < ms.length := by omega
                      have hlmz : ((k - 1 : Nat) : Int) < (ms.length : Int) := by omega
                      by_cases hle : x ≤ y
                      · have HMO := Aside0.mk (show memOk l0_0 U ms k = false from by unfold memOk; rw [HX.out, HY.out, decide_eq_true hle, decide_eq_true (show 0 < k by omega), Bool.and_self, Bool.not_true, Bool.and_false])
                        have hwk : wrap64 ((k : Int) - 1) = ((k - 1 : Nat) : Int) := by unfold wrap64; omega
                        go_wp2_with (go_at_call 53; (with_reducible refine (impl_indexOf.calls _ _ l0_0 _ _ l0_1 x _ _ (Kd.C_below HR0.out HB.out) HC0.out (Kd.C_below HR1.out HB.out) HC1R.out A3.out).mono ?_); rintro e w3 ⟨rfl, hb⟩; have HB := Aside0.mk (below_chain HB.out hb); have HBX := Aside0.mk (blk_below HBX.out hb); have BP := Aside0.mk (blk_below BP.out hb); have HM := Aside0.mk (HM.out.kept (grown_of_below hb none) (by simp)); have hq0 := pw_cell_below hb hq0; have hq1 := pw_cell_below hb hq1; have hp1 := pw_cell_below hb hp1; have hxp := pw_cell_below hb hxp; obtain ⟨c, hrun, hat⟩ := own_look_bool HM.out impl_isGrouping.law3 Try.underlying117 Try.underlying4 (impl_isGrouping.zero4 _) HKEY.out; obtain rfl := (setU_at x _ hat).trans HCB.out; clear hat; clear hb)
                        clear hwk
                        go_ret
                        exact ⟨by rw [grpB_no hlt (phOk_mem (k := k) (by rw [HMS.out]; exact hlk) (by rw [HUE.out, HMS.out]; exact HMO.out))]; rfl, HB.out⟩
                      · have HMO := Aside0.mk (show memOk l0_0 U ms k = true from by unfold memOk; rw [HX.out, HFX.out, HCB.out, HY.out, decide_eq_true (show 0 ≤ fx by omega), decide_eq_false hle, Bool.and_false]; rfl)
                        have hwk : wrap64 ((k : Int) - 1) = ((k - 1 : Nat) : Int) := by unfold wrap64; omega
                        go_wp2_with (first | (go_at_call 53; (with_reducible refine (impl_indexOf.calls _ _ l0_0 _ _ l0_1 x _ _ (Kd.C_below HR0.out HB.out) HC0.out (Kd.C_below HR1.out HB.out) HC1R.out A3.out).mono ?_); rintro e w3 ⟨rfl, hb⟩; have HB := Aside0.mk (below_chain HB.out hb); have HBX := Aside0.mk (blk_below HBX.out hb); have BP := Aside0.mk (blk_below BP.out hb); have HM := Aside0.mk (HM.out.kept (grown_of_below hb none) (by simp)); have hq0 := pw_cell_below hb hq0; have hq1 := pw_cell_below hb hq1; have hp1 := pw_cell_below hb hp1; have hxp := pw_cell_below hb hxp; obtain ⟨c, hrun, hat⟩ := own_look_bool HM.out impl_isGrouping.law3 Try.underlying117 Try.underlying4 (impl_isGrouping.zero4 _) HKEY.out; obtain rfl := (setU_at x _ hat).trans HCB.out; clear hat; clear hb) | (at_mapUpdate; refine wpList_mapUpdate_own _ rfl _ _ _ 117 rfl 3 4 impl_isGrouping.law3 Try.underlying117 _ bm _ _ rfl HM.out HNL.out _ _ _ rfl rfl HKEY.out _ [] (plainElem_bool Try.underlying4 true) ?_; intro w4 hown hgrow; have HB := Aside0.mk (HB.out.grown hgrow HB.out.size (fun k hk => by injection hk with hk; exact hk ▸ HBM.out)); have HBX := Aside0.mk (blk_grown HBX.out hgrow (by intro h; injection h with h; exact HN1.out h)); have BP := Aside0.mk (blk_grown BP.out hgrow (by intro h; injection h with h; exact HN2.out h)); have HM := Aside0.mk hown; clear hown hgrow))
                        clear hwk
                        go_roundg (ms.length - (k + 1))
                        case measure => omega
                        case rel =>
                          have hts := take_succD ms k hlk
                          rw [HX.out] at hts
                          refine ⟨k + 1, by omega, by omega, by first | go_num | exact congrArg (Value.int .i64) (by unfold wrap64; omega), HB, HBX, BP, ⟨?_⟩, ⟨?_⟩, ⟨fun j hj => ?_⟩⟩
                          · rw [hts, ← List.append_assoc, setU_snoc, List.length_append]; exact HM.out
                          · rw [hts, ← List.append_assoc]; exact HU.out.snoc HNUM.out HCB.out
                          · by_cases e : j = k
                            · subst e; exact HMO.out
                            · exact HAM.out j (by omega)
              · obtain rfl : k = ms.length := by omega
                have hlkz : ¬ ((ms.length : Int) < (ms.length : Int)) := by omega
                have HPY := Aside0.mk (show phOk l0_0 l1 i = true from phOk_yes (by rw [HNM.out]; exact HBN.out) (by rw [HMS.out]; exact HZ.out) (by rw [HNM.out]; exact HBD.out) (by rw [HMS.out, HUE.out]; exact HAM.out))
                have HFS := Aside0.mk (flatM_succ l1 i hlt)
                go_wp2
                go_roundg (l1.length - (i + 1))
                case measure => omega
                case rel =>
                  have hfs := HFS.out
                  rw [HUE.out, HMS.out] at hfs
                  refine ⟨i + 1, by omega, by omega, by first | go_num | exact congrArg (Value.int .i64) (by unfold wrap64; omega), HB, HBX, ⟨?_⟩, ⟨?_⟩, ⟨fun j hj => ?_⟩⟩
                  · rw [hfs]; have h := HM.out; rwa [List.take_length] at h
                  · rw [hfs]; have h := HU.out; rwa [List.take_length] at h
                  · by_cases e : j = i
                    · subst e; exact HPY.out
                    · exact HA.out j (by omega)
    · obtain rfl : i = l1.length := by omega
      have hltz : ¬ ((l1.length : Int) < (l1.length : Int)) := by omega
      have hge := grpB_end HA.out
      by_cases h6 : l1.length ≤ 6
      · have h6z : (l1.length : Int) ≤ 6 := by omega
        have HGE := Aside0.mk (show grpB l0_0 l1 = true from by rw [hge]; exact decide_eq_true h6)
        clear hge h6
        go_wp2
        go_ret
        exact ⟨by rw [HGE.out]; rfl, HB.out⟩
      · have h6z : ¬ ((l1.length : Int) ≤ 6) := by omega
        have HGE := Aside0.mk (show grpB l0_0 l1 = false from by rw [hge]; exact decide_eq_false h6)
        clear hge h6
        go_wp2
        go_ret
        exact ⟨by rw [HGE.out]; rfl, HB.out⟩

end Go.Proofs.Ytenphfagdpkjaaa.Q
