/- The walk of SplitString; strings marked and held. -/
import Derived.Test.YtdmbboijcaelcaaDoorCut
import Derived.Test.YtdmbboijcaelcaaDoorSplE
import Derived.Test.YtdmbboijcaelcaaDoorQF16
import Derived.Test.YtdmbboijcaelcaaDoorQF18
import Derived.Test.YtdmbboijcaelcaaDoorQF19
import Derived.Test.YtdmbboijcaelcaaDoorQF20
namespace Go.Proofs.YtdmbboijcaelcaaDoor.Q
open Go.RowKit Go.Proofs.YtdmbboijcaelcaaDoorW.PrintWords Go.Proofs.YtdmbboijcaelcaaDoorW.PrintLast
set_option linter.unusedVariables false
set_option linter.unusedSimpArgs false
theorem text_loop : ∀ (u : Nat) (x : ByteArray), x.size + u ≤ 4611686018427387904 → ∃ t, Ev (fun k => laws_markText.l0 k (u : Int) x) t := by
  intro u
  induction u using Nat.strongRecOn with
  | ind u ih =>
    intro x hx
    by_cases h0 : u = 0
    · subst h0
      refine ⟨(⟨#[109]⟩ : ByteArray) ++ x, Ev.step (fun q => by rw [laws_markText.l0]) ?_⟩
      simp only [show ¬ (((0 : Nat) : Int) > 0) by omega, if_false, show 1 + x.size ≤ 9223372036854775807 by omega, if_true]
      exact Ev.now _
    · have hd : Int.tdiv (u : Int) 10 = ((u / 10 : Nat) : Int) := by
        rw [Int.tdiv_eq_ediv_of_nonneg (by omega)]
        omega
      have hw : wrap64 (((u / 10 : Nat) : Int)) = ((u / 10 : Nat) : Int) := by unfold wrap64; omega
      obtain ⟨y, hy⟩ : ∃ y : List Int, [(wrap64 (48 + (Int.tmod (u : Int) 10))) % 256] = y := ⟨_, rfl⟩
      have hs : (strOfNums y).size = 1 := by rw [← hy]; rfl
      obtain ⟨t, ht⟩ := ih (u / 10) (by omega) (strOfNums y ++ x) (by rw [ByteArray.size_append, hs]; omega)
      refine ⟨t, Ev.step (fun q => by rw [laws_markText.l0]) ?_⟩
      simp only [show (u : Int) > 0 by omega, if_true, Option.bind_some, hy, hs, show 1 + x.size ≤ 9223372036854775807 by omega, hd, hw]
      exact ht
theorem text_ev (i : Nat) (hi : i ≤ 1048577) : ∃ t, Ev (fun k => laws_markText.f k (1 + (i : Int))) t := by
  obtain ⟨t, ht⟩ := text_loop (1 + i) ⟨#[]⟩ (by show 0 + (1 + i) ≤ _; omega)
  refine ⟨t, ?_⟩
  unfold laws_markText.f
  simp only [show ¬ (1 + (i : Int) ≤ 0) by omega, if_false]
  rw [show ((1 + i : Nat) : Int) = 1 + (i : Int) by omega] at ht
  exact ht
/-- The text of the mark i + 1. -/
noncomputable def mtx (i : Nat) : ByteArray := if h : i ≤ 1048577 then (text_ev i h).choose else ⟨#[]⟩
theorem mtx_ev (i : Nat) (hi : i ≤ 1048577) : Ev (fun k => laws_markText.f k (1 + (i : Int))) (mtx i) := by
  unfold mtx
  rw [dif_pos hi]
  exact (text_ev i hi).choose_spec
noncomputable def mtxs (n : Nat) : List ByteArray := (List.range n).map mtx
theorem mtxs_length (n : Nat) : (mtxs n).length = n := by simp [mtxs]
theorem mtxs_succ (n : Nat) : mtxs (n + 1) = mtxs n ++ [mtx n] := by simp [mtxs, List.range_succ]
theorem mtxs_get (n i : Nat) (h : i < n) : rdOf ByteArray.empty (mtxs n) (i : Int) = mtx i := by
  have h2 : i < (mtxs n).length := by rw [mtxs_length]; exact h
  simp [rdOf, h2, mtxs, h]
theorem markStringS_held (l : List ByteArray) (hl : l.length ≤ 1048576) : ∃ (q : Int) (my : List ByteArray) (k1 k2 : Nat), 0 ≤ q ∧ my.length = l.length ∧ laws_markStringS.f k1 l 1 = some (q, my) ∧ laws_heldStringS.f k2 my 1 = some q := by
  have key : ∀ d i, l.length - i = d → i ≤ l.length → Ev (fun k => laws_markStringS.l0 k (mtxs i ++ l.drop i) (1 + (i : Int)) (i : Int)) (1 + (l.length : Int), mtxs l.length) := by
    intro d
    induction d with
    | zero =>
      intro i hd hi
      obtain rfl : i = l.length := by omega
      refine Ev.step (fun k => by rw [laws_markStringS.l0]) ?_
      simp only [List.drop_length, List.append_nil, mtxs_length, Int.lt_irrefl, if_false]
      exact Ev.now _
    | succ d ih =>
      intro i hd hi
      have hlt : i < l.length := by omega
      have a2 : (mtxs i ++ l.drop i).length = l.length := by rw [List.length_append, mtxs_length, List.length_drop]; omega
      have a5 : (mtxs i ++ l.drop i).set i (mtx i) = mtxs (i + 1) ++ l.drop (i + 1) := by
        rw [List.set_append_right _ _ (by rw [mtxs_length]; omega), mtxs_length, Nat.sub_self, List.drop_eq_getElem_cons hlt, List.set_cons_zero, mtxs_succ, List.append_assoc]
        rfl
      refine Ev.step (fun k => by rw [laws_markStringS.l0]) ?_
      have h := ih (i + 1) (by omega) (by omega)
      rw [show 1 + ((i + 1 : Nat) : Int) = 1 + (i : Int) + 1 by omega] at h
      simp only [a2, show (i : Int) < (l.length : Int) by omega, if_true]
      refine Ev.bind (mtx_ev i (by omega)) ?_
      simp only [show (0 : Int) ≤ (i : Int) by omega, if_true, Int.toNat_natCast, a5, w64 i (by omega), show wrap64 (1 + (i : Int) + 1) = 1 + (i : Int) + 1 from by unfold wrap64; omega]
      exact h
  have key2 : ∀ d i, l.length - i = d → i ≤ l.length → Ev (fun k => laws_heldStringS.l0 k (mtxs l.length) (1 + (i : Int)) (i : Int)) (1 + (l.length : Int)) := by
    intro d
    induction d with
    | zero =>
      intro i hd hi
      obtain rfl : i = l.length := by omega
      refine Ev.step (fun k => by rw [laws_heldStringS.l0]) ?_
      simp only [mtxs_length, Int.lt_irrefl, if_false]
      exact Ev.now _
    | succ d ih =>
      intro i hd hi
      have hlt : i < l.length := by omega
      refine Ev.step (fun k => by rw [laws_heldStringS.l0]) ?_
      have h := ih (i + 1) (by omega) (by omega)
      rw [show 1 + ((i + 1 : Nat) : Int) = 1 + (i : Int) + 1 by omega] at h
      simp only [mtxs_length, show (i : Int) < (l.length : Int) by omega, show (0 : Int) ≤ (i : Int) by omega, if_true]
      refine Ev.bind (mtx_ev i (by omega)) ?_
      simp only [mtxs_get l.length i hlt, if_true, w64 i (by omega), show wrap64 (1 + (i : Int) + 1) = 1 + (i : Int) + 1 from by unfold wrap64; omega]
      exact h
  obtain ⟨k1, h1⟩ := Ev.rounds (key l.length 0 (by omega) (by omega))
  obtain ⟨k2, h2⟩ := Ev.rounds (key2 l.length 0 (by omega) (by omega))
  refine ⟨1 + (l.length : Int), mtxs l.length, k1, k2, by omega, mtxs_length _, ?_, ?_⟩
  · unfold laws_markStringS.f
    simpa [mtxs] using h1
  · unfold laws_heldStringS.f
    simpa using h2
theorem eqStringS_ev (l : List ByteArray) (hl : l.length ≤ 1048576) : ∃ k, laws_eqStringS.f k l l = some true := by
  refine Ev.rounds ?_
  have key : ∀ d i, l.length - i = d → i ≤ l.length → Ev (fun k => laws_eqStringS.l0 k l l (i : Int)) true := by
    intro d
    induction d with
    | zero =>
      intro i hd hi
      obtain rfl : i = l.length := by omega
      refine Ev.step (fun q => by rw [laws_eqStringS.l0]) ?_
      simp only [Int.lt_irrefl, if_false]
      exact Ev.now _
    | succ d ih =>
      intro i hd hi
      have a3 : (i : Int) < (l.length : Int) := by omega
      have a4 : (0 : Int) ≤ (i : Int) := by omega
      refine Ev.step (fun q => by rw [laws_eqStringS.l0]) ?_
      simp only [a3, a4, if_true, w64 i (by omega)]
      exact ih (i + 1) (by omega) (by omega)
  unfold laws_eqStringS.f
  simp only [if_true]
  exact key l.length 0 (by omega) (by omega)
/-- What the program cuts. -/
def ssI (s p : ByteArray) : List ByteArray × Bool := if 4000 < s.size then ([], false) else if p.size = 1 then (cutB s p, true) else ([], false)
set_option maxHeartbeats 1000000 in
set_option maxRecDepth 100000 in
theorem splitstring_calls (s p : ByteArray) (hs : s.size ≤ 1048576) (w : World) (hm : MX w) :
    Calls Tryd.prog 17 #[.string s, .string p] w fun e w' => ∃ v, e = .returned (.tuple #[v, .bool (ssI s p).2]) ∧ Kd.R Kd.string 9 w' w.heap.size (fun _ => True) v (ssI s p).1 ∧ Below w.heap.size w w' := by
  have hP : ssI s p = if 4000 < s.size then ([], false) else if p.size = 1 then (cutB s p, true) else ([], false) := rfl
  have HS := Aside0.mk (fun (W : World) (h1 : 1 ≤ p.size) (h : MX W) => split_calls s p W h1 hs h)
  generalize ssI s p = P at hP ⊢
  generalize cutB s p = xs at hP HS
  have HM := Aside0.mk hm
  have HB := Aside0.mk (Below.refl w.heap.size w)
  clear hm hs
  by_cases h4 : 4000 < s.size
  · have hz : decide (4000 < (s.size : Int)) = true := decide_eq_true (by omega)
    have hy : decide (4000 < s.size) = true := decide_eq_true h4
    have HV := Aside0.mk (show P = ([], false) from by rw [hP, if_pos h4])
    clear h4 hP
    go_enter Tryd.func17, Tryd.ntmps17
    go_wp2
    go_ret2
    exact ⟨_, by rw [HV.out]; rfl, by rw [HV.out]; exact Kd.R_nil _ _ _ _ _, by repeat (first | exact HB.out | apply below_alloc | apply pw_below_drewN | apply below_drew1)⟩
  · have hz : decide (4000 < (s.size : Int)) = false := decide_eq_false (by omega)
    have hy : decide (4000 < s.size) = false := decide_eq_false h4
    rw [if_neg h4] at hP
    by_cases h1 : p.size = 1
    · have e0 : ((p.size : Int) == 1) = true := by simp [h1]
      have e1 : ((p.size : Int) != 1) = false := by simp [h1]
      have HV := Aside0.mk (show P = (xs, true) from by rw [hP, if_pos h1])
      have HS := Aside0.mk (fun (W : World) (h : MX W) => HS.out W (by omega) h)
      clear h4 hP h1
      go_enter Tryd.func17, Tryd.ntmps17
      go_wp2_with (go_at_call 56; refine (HS.out _ (MX.below HM.out (by repeat (first | exact HB.out | apply below_alloc | apply pw_below_drewN | apply below_drew1)))).mono ?_; rintro e w2 ⟨A1, rfl, hC, hb⟩; have HC := Aside0.mk (Kd.R_lower hC (below_size (by repeat (first | exact HB.out | apply below_alloc | apply pw_below_drewN | apply below_drew1)))); have HB := Aside0.mk (below_chain (w := w) (by repeat (first | exact HB.out | apply below_alloc | apply pw_below_drewN | apply below_drew1)) hb); clear hb hC)
      go_ret2
      exact ⟨_, by rw [HV.out]; rfl, by rw [HV.out]; exact Kd.R_below HC.out (by repeat (first | exact Below.refl _ _ | apply below_alloc | apply pw_below_drewN | apply below_drew1)), by repeat (first | exact HB.out | apply below_alloc | apply pw_below_drewN | apply below_drew1)⟩
    · have e0 : ((p.size : Int) == 1) = false := beq_eq_false_iff_ne.2 (by omega)
      have e1 : ((p.size : Int) != 1) = true := bne_iff_ne.2 (by omega)
      have HV := Aside0.mk (show P = ([], false) from by rw [hP, if_neg h1])
      clear h4 hP h1
      go_enter Tryd.func17, Tryd.ntmps17
      go_wp2
      go_ret2
      exact ⟨_, by rw [HV.out]; rfl, by rw [HV.out]; exact Kd.R_nil _ _ _ _ _, by repeat (first | exact HB.out | apply below_alloc | apply pw_below_drewN | apply below_drew1)⟩
theorem cut_one (s : ByteArray) (c : UInt8) : cutB s ⟨#[c]⟩ = toB (spl c s.data.toList) := by
  rw [← splitB_one, toB, List.map_map]
  unfold cutB
  conv => lhs; rw [← List.map_id (Lib.splitB _ _ _ _)]
  exact List.map_congr_left (fun x _ => ba_of x _ rfl)
theorem splitstring_ev (s p : ByteArray) (hs : s.size ≤ 1048576) : ∃ k, spec_SplitString.f k s p = some (ssI s p) := by
  refine Ev.rounds ?_
  unfold spec_SplitString.f ssI
  by_cases h1 : p.size = 1
  · obtain ⟨c, rfl⟩ := Lib.one_byte p h1
    have hz : (((⟨#[c]⟩ : ByteArray).size : Nat) : Int) = 1 := rfl
    have hb : bt ⟨#[c]⟩ 0 = (c.toNat : Int) := by
      have := bt_nat ⟨#[c]⟩ 0 (by show 0 < 1; omega)
      rw [show ((0 : Nat) : Int) = 0 from rfl] at this
      rw [this]
      rfl
    simp only [hz, if_true, hb, show (0 : Int) < 1 by omega]
    by_cases h4 : 4000 < s.size
    · rw [if_pos h4]
      simp only [show (s.size : Int) > 4000 by omega, if_true]
      exact Ev.now _
    · rw [if_neg h4, if_pos h1, cut_one]
      simp only [show ¬ (s.size : Int) > 4000 by omega, if_false]
      refine Ev.bind (split_ev s c hs) ?_
      exact Ev.now _
  · simp only [show ¬ (p.size : Int) = 1 by omega, if_false, h1]
    split <;> exact Ev.now _
theorem SplitString_both (s p : ByteArray) (hs : s.size ≤ 1048576) (hp : p.size ≤ 1048576) : ∃ (l : List ByteArray) (b : Bool) (k1 : Nat), spec_SplitString.f k1 s p = some (l, b) ∧ l.length ≤ 1048576 ∧
    ∀ W : World, MX W → Calls Tryd.prog 17 #[.string s, .string p] W fun e w' => ∃ v, e = .returned (.tuple #[v, .bool b]) ∧ Kd.R Kd.string 9 w' W.heap.size (fun _ => True) v l ∧ Below W.heap.size W w' := by
  obtain ⟨k, hk⟩ := splitstring_ev s p hs
  refine ⟨(ssI s p).1, (ssI s p).2, k, hk, ?_, fun W h => splitstring_calls s p hs W h⟩
  unfold ssI
  split
  · simp
  · split
    · have := cutB_le s p (by omega)
      show (cutB s p).length ≤ _
      omega
    · simp
end Go.Proofs.YtdmbboijcaelcaaDoor.Q
