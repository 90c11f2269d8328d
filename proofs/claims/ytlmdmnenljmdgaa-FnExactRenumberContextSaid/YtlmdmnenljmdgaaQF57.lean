-- Written by a program of this session (wip/xprint.py over the kit's printer).
import Derived.Test.YtlmdmnenljmdgaaQ0
import Derived.Test.YtlmdmnenljmdgaaQF38
import Derived.Test.YtlmdmnenljmdgaaQF67
import Derived.Test.YtlmdmnenljmdgaaQF68
import Derived.Test.YtlmdmnenljmdgaaQP
namespace Go.Proofs.Ytlmdmnenljmdgaa.Q
open Go.RowKit Go.Proofs.YtlmdmnenljmdgaaW.PrintWords Go.Proofs.YtlmdmnenljmdgaaW.PrintLast
set_option linter.unusedVariables false
set_option linter.unusedSimpArgs false

/-! ### impl_renamed: function 57 -/
def ren (old num : Int) (x : S36) : S36 := ⟨if x.f0 = old then num else x.f0, if x.f1 = old then num else x.f1⟩
def renTo (rs : List S36) (old num : Int) (i : Nat) : List S36 := (rs.take i).map (ren old num) ++ rs.drop i
theorem renTo_len (rs : List S36) (old num : Int) (i : Nat) : (renTo rs old num i).length = rs.length := by simp [renTo]; omega
theorem renTo_get (rs : List S36) (old num : Int) (i : Nat) (hi : i < rs.length) : (renTo rs old num i).getD i z36 = rs[i] := by
  unfold renTo
  rw [List.getD_eq_getElem?_getD, List.getElem?_append_right (by simp; omega), List.length_map, List.length_take, show min i rs.length = i by omega, Nat.sub_self, List.getElem?_drop, Nat.add_zero, List.getElem?_eq_getElem hi]
  rfl
theorem renTo_succ (rs : List S36) (old num : Int) (i : Nat) (hi : i < rs.length) : (renTo rs old num i).set i (ren old num rs[i]) = renTo rs old num (i + 1) := by
  unfold renTo
  have h : ((rs.take i).map (ren old num)).length = i := by simp; omega
  rw [List.set_append_right _ _ (by omega), h, Nat.sub_self, List.drop_eq_getElem_cons hi, List.set_cons_zero, List.take_succ_eq_append_getElem hi, List.map_append, List.append_assoc]
  rfl
/-- The fields that are done of one relation. -/
def renK (old num : Int) (x : S36) : Nat → S36
  | 0 => x
  | 1 => ⟨if x.f0 = old then num else x.f0, x.f1⟩
  | _ + 2 => ren old num x
def impl_renamed.T5 : Bool × List (List Nat × List Nat) := (true, [([], []), ([0], [0]), ([], []), ([1, 2], [1, 2]), ([3], [3]), ([], []), ([5], [5]), ([], []), ([6, 7], [6, 7]), ([8], [8]), ([4, 9], [4, 9]), ([10], [10]), ([], [])])
def impl_renamed.B5 : List Nat := [0, 1, 0, 7, 15, 0, 32, 0, 224, 480, 1023, 2047, 0]
theorem impl_renamed.tab5 : rtab .any (opsOf Try.f57 5) = impl_renamed.T5 := by kernel_rfl
theorem impl_renamed.bits5 : waitsOk impl_renamed.T5.2 impl_renamed.B5 = true := by kernel_rfl
set_option maxHeartbeats 8000000 in
set_option maxRecDepth 100000 in
theorem impl_renamed.calls (A0_0 : Option Addr) (c0_0 : Nat) (l0_0 : List S44) (A0_1 : Option Addr) (c0_1 : Nat) (l0_1 : List S36) (a1 a2 : Int) (w : World) (hr0_0 : Kd.C k44 w A0_0 l0_0.length l0_0) (hc0_0 : l0_0.length ≤ c0_0) (hr0_1 : Kd.C k36 w A0_1 l0_1.length l0_1) (hc0_1 : l0_1.length ≤ c0_1) (hl0 : l0_0.length ≤ 1000) (hl1 : l0_1.length ≤ 1000) :
    Calls Try.prog 57 #[.agg #[.slice A0_0 l0_0.length c0_0, .slice A0_1 l0_1.length c0_1], .int .i64 a1, .int .i64 a2] w fun e w' => ∃ v0_ v1_ : Value, e = .returned (.agg #[v0_, v1_]) ∧ Kd.R k44 44 w' w.heap.size (fun _ => True) v0_ l0_0 ∧ Kd.R k36 36 w' w.heap.size (fun _ => True) v1_ (l0_1.map (ren a1 a2)) ∧ Below w.heap.size w w' := by
  have HL := Aside0.mk (And.intro hl0 hl1)
  clear hl0 hl1
  have HR0 := Aside0.mk hr0_0
  have HR1 := Aside0.mk hr0_1
  have HC0 := Aside0.mk hc0_0
  have HC1 := Aside0.mk hc0_1
  clear hr0_0 hr0_1 hc0_0 hc0_1
  obtain ⟨wb, hwb⟩ : ∃ wb, ((w).alloc (.cells #[.slice A0_0 l0_0.length c0_0, .slice A0_1 l0_1.length c0_1] 32 (0, 0))).alloc (.cells #[.slice none 0 0, .slice none 0 0] 32 (0, 0)) = wb := ⟨_, rfl⟩
  have HBw := Aside0.mk (show Below w.heap.size w wb from by rw [← hwb]; repeat (first | exact Below.refl _ _ | apply below_alloc))
  have HWB := HBw
  have hhr : wb.heap[w.heap.size]? = some (.cells #[.slice A0_0 l0_0.length c0_0, .slice A0_1 l0_1.length c0_1] 32 (0, 0)) := by rw [← hwb]; have h := blk_new (w) (.cells #[.slice A0_0 l0_0.length c0_0, .slice A0_1 l0_1.length c0_1] 32 (0, 0)); rw [show (w).heap.size = w.heap.size from by rfl] at h; exact blk_alloc (h) _
  have hb0 : wb.cell? ⟨w.heap.size, 0, none⟩ = some (.slice A0_0 l0_0.length c0_0) := (blk_cell hhr 0).trans rfl
  have hb1 : wb.cell? ⟨w.heap.size, 1, none⟩ = some (.slice A0_1 l0_1.length c0_1) := (blk_cell hhr 1).trans rfl
  have hh0 : wb.heap[w.heap.size + 1]? = some (.cells #[.slice none 0 0, .slice none 0 0] 32 (0, 0)) := by rw [← hwb]; have h := blk_new ((w).alloc (.cells #[.slice A0_0 l0_0.length c0_0, .slice A0_1 l0_1.length c0_1] 32 (0, 0))) (.cells #[.slice none 0 0, .slice none 0 0] 32 (0, 0)); rw [show ((w).alloc (.cells #[.slice A0_0 l0_0.length c0_0, .slice A0_1 l0_1.length c0_1] 32 (0, 0))).heap.size = w.heap.size + 1 from by simp] at h; exact h
  have hx0 : wb.cell? ⟨w.heap.size + 1, 0, none⟩ = some (.slice none 0 0) := (blk_cell hh0 0).trans rfl
  have hx0_1 : wb.cell? ⟨w.heap.size + 1, 1, none⟩ = some (.slice none 0 0) := (blk_cell hh0 1).trans rfl
  have hbs : w.heap.size + 1 < wb.heap.size := blk_lt hh0
  have HW := Aside0.mk hwb
  clear hwb
  clear hhr
  have AC := Aside0.mk (show impl_copyRecord.f l0_0 l0_1 = some (l0_0, l0_1) from by
    have h1 := HL.out
    unfold impl_copyRecord.f impl_Context_67.f impl_Relation_68.f
    rw [if_pos (by omega), if_pos (by omega)]
    rfl)
  have B1 := Aside0.mk hh0
  clear hh0
  go_enter Try.func57, Try.ntmps57
  go_upto_region 1 with (fail)
  try rw [HW.out]
  clear HW
  go_upto_region 2 with (go_at_call 38; (with_reducible refine (impl_copyRecord.calls _ _ l0_0 _ _ l0_1 _ _ _ (Kd.C_below HR0.out (by repeat (first | exact HBw.out | exact Below.refl _ _ | apply below_alloc | apply pw_below_drewN | apply below_drew1))) HC0.out (Kd.C_below HR1.out (by repeat (first | exact HBw.out | exact Below.refl _ _ | apply below_alloc | apply pw_below_drewN | apply below_drew1))) HC1.out AC.out).mono ?_); rintro e w2 ⟨v0, v1, rfl, hR0, hR1, hb⟩; obtain ⟨D0, d0, rfl, hd0, hC0⟩ := Kd.R_reads hR0; obtain ⟨D1, d1, rfl, hd1, hC1⟩ := Kd.R_reads hR1; have HR0q := Aside0.mk (Kd.R_lower hR0 HBw.out.size); have HR1q := Aside0.mk (Kd.R_lower hR1 HBw.out.size); have HBw : Aside0 (Below w.heap.size w w2) := Aside0.mk (below_chain (w := w) (by repeat (first | exact HBw.out | exact Below.refl _ _ | apply below_alloc | apply pw_below_drewN | apply below_drew1)) hb); have hb0 := pw_cell_below hb hb0; have hb1 := pw_cell_below hb hb1; have hx0 := pw_cell_below hb hx0; have hx0_1 := pw_cell_below hb hx0_1; have B1 := Aside0.mk (blk_below B1.out hb); clear hb hR0 hR1 hC0 hC1 hd0 hd1)
  obtain ⟨gb, hgb⟩ : ∃ g, w2.heap.size = g := ⟨_, rfl⟩
  have B0 := Aside0.mk (blk_new w2 (.cells #[.slice D0 l0_0.length d0, .slice D1 l0_1.length d1] 32 (0, 0)))
  have hlt : w.heap.size + 1 < w2.heap.size := blk_lt B1.out
  have B1 := Aside0.mk (blk_alloc B1.out (.cells #[.slice D0 l0_0.length d0, .slice D1 l0_1.length d1] 32 (0, 0)))
  have HBw := Aside0.mk (below_alloc HBw.out (.cells #[.slice D0 l0_0.length d0, .slice D1 l0_1.length d1] 32 (0, 0)))
  have HR0q := Aside0.mk (Kd.R_alloc HR0q.out (.cells #[.slice D0 l0_0.length d0, .slice D1 l0_1.length d1] 32 (0, 0)))
  have HR1q := Aside0.mk (Kd.R_alloc HR1q.out (.cells #[.slice D0 l0_0.length d0, .slice D1 l0_1.length d1] 32 (0, 0)))
  generalize w2.alloc (.cells #[.slice D0 l0_0.length d0, .slice D1 l0_1.length d1] 32 (0, 0)) = wq at B0 B1 HBw HR0q HR1q ⊢
  rw [hgb] at B0
  try rw [hgb]
  have HGL := Aside0.mk (show w.heap.size + 1 < gb from by omega)
  clear hgb hlt hb0 hb1 hx0 hx0_1
  obtain ⟨n0, hn0⟩ : ∃ n, l0_0.length = n := ⟨_, rfl⟩
  obtain ⟨n1, hn1⟩ : ∃ n, l0_1.length = n := ⟨_, rfl⟩
  have HN := Aside0.mk hn1
  rw [hn0] at B0 HR0q
  rw [hn1] at B0 HR1q
  try rw [hn0]
  try rw [hn1]
  clear hn0 hn1
  have c1 : wq.cell? ⟨gb, 1, none⟩ = some (.slice D1 n1 d1) := (blk_cell B0.out 1).trans rfl
  go_wp2
  clear c1
  go_loopg [8, 10, 16] n1 (fun gg s8 s10 s16 wr => ∃ i : Nat, i ≤ n1 ∧ n1 - i ≤ gg ∧ s16 = .int .i64 i ∧ Aside0 (Below w.heap.size w wr) ∧ Aside0 (wr.heap[gb]? = some (.cells #[.slice D0 n0 d0, .slice D1 n1 d1] 32 (0, 0))) ∧ Aside0 (wr.heap[w.heap.size + 1]? = some (.cells #[.slice none 0 0, .slice none 0 0] 32 (0, 0))) ∧ Aside0 (Kd.R k44 44 wr w.heap.size (fun _ => True) (.slice D0 n0 d0) l0_0) ∧ Aside0 (Kd.R k36 36 wr w.heap.size (fun _ => True) (.slice D1 n1 d1) (renTo l0_1 a1 a2 i)))
  case atStart => exact ⟨0, Nat.zero_le _, by omega, rfl, HBw, B0, B1, HR0q, ⟨by have h := HR1q.out; simpa [renTo] using h⟩⟩
  case round =>
    clear HBw B0 B1 HR0q HR1q
    obtain ⟨i, hi, hgg, rfl, HB, B0, B1, HR0, HR1⟩ := hrel
    have c1 : wr.cell? ⟨gb, 1, none⟩ = some (.slice D1 n1 d1) := (blk_cell B0.out 1).trans rfl
    by_cases hlt : i < n1
    · have hltz : (i : Int) < (n1 : Int) := by omega
      have hpos : 0 < (renTo l0_1 a1 a2 i).length := by rw [renTo_len, HN.out]; omega
      obtain ⟨g1, cp, hv1, hcap, hbase, hg1, _⟩ := R_form HR1.out hpos
      rw [renTo_len, HN.out] at hv1
      injection hv1 with e1 e2 e3
      subst e1; subst e3
      clear e2 hpos
      go_upto_region 5 with (fail)
      have hx := renTo_get l0_1 a1 a2 i (by have := HN.out; omega)
      obtain ⟨x, hxx⟩ : ∃ x, l0_1[i]'(by have := HN.out; omega) = x := ⟨_, rfl⟩
      rw [hxx] at hx
      have HXX := Aside0.mk hx
      have HXS := Aside0.mk (show (renTo l0_1 a1 a2 i).set i (ren a1 a2 x) = renTo l0_1 a1 a2 (i + 1) from by rw [← hxx]; exact renTo_succ l0_1 a1 a2 i _)
      clear hx hxx
      have HS0 := Aside0.mk (show (fun w' : World => w'.cell? ⟨gb, 1, none⟩ = some (.slice (some ⟨g1, 0, none⟩) n1 d1) ∧ Aside0 (Below w.heap.size w w') ∧ Aside0 (w'.heap[gb]? = some (.cells #[.slice D0 n0 d0, .slice (some ⟨g1, 0, none⟩) n1 d1] 32 (0, 0))) ∧ Aside0 (w'.heap[w.heap.size + 1]? = some (.cells #[.slice none 0 0, .slice none 0 0] 32 (0, 0))) ∧ Aside0 (Kd.R k44 44 w' w.heap.size (fun _ => True) (.slice D0 n0 d0) l0_0) ∧ Aside0 (Kd.R k36 36 w' w.heap.size (fun _ => True) (.slice (some ⟨g1, 0, none⟩) n1 d1) (renTo l0_1 a1 a2 i))) wr.drew from ⟨c1, ⟨below_drew1 HB.out⟩, ⟨blk_drew B0.out⟩, ⟨blk_drew B1.out⟩, ⟨Kd.R_drew HR0.out⟩, ⟨Kd.R_drew HR1.out⟩⟩)
      clear c1 HB B0 B1 HR0 HR1
      all_goals refine start_ (n := 13) (S := (fun w' : World => w'.cell? ⟨gb, 1, none⟩ = some (.slice (some ⟨g1, 0, none⟩) n1 d1) ∧ Aside0 (Below w.heap.size w w') ∧ Aside0 (w'.heap[gb]? = some (.cells #[.slice D0 n0 d0, .slice (some ⟨g1, 0, none⟩) n1 d1] 32 (0, 0))) ∧ Aside0 (w'.heap[w.heap.size + 1]? = some (.cells #[.slice none 0 0, .slice none 0 0] 32 (0, 0))) ∧ Aside0 (Kd.R k44 44 w' w.heap.size (fun _ => True) (.slice D0 n0 d0) l0_0) ∧ Aside0 (Kd.R k36 36 w' w.heap.size (fun _ => True) (.slice (some ⟨g1, 0, none⟩) n1 d1) (renTo l0_1 a1 a2 i)))) (ds := []) (bl 0 13) (by kernel_rfl) rfl rfl HS0.out (fun hHeld => ?_); refine with_tabW impl_renamed.tab5 impl_renamed.bits5 (fun HT_ HW_ => ?_)
      all_goals generalize wr.drew = wv at hHeld ⊢
      all_goals first | refine pA_ 0 (some 19) (bl 1 13) HT_.out (h := ?_) | refine pO_ 0 (some 19) (bl 1 13) HT_.out (h := ?_)
      all_goals first | refine pA_ 2 (some 21) (bx 1 [2] 13) HT_.out (h := ?_) | refine pO_ 2 (some 21) (bx 1 [2] 13) HT_.out (h := ?_)
      all_goals first | refine pA_ 5 (some 24) (bx 1 [2, 5] 13) HT_.out (h := ?_) | refine pO_ 5 (some 24) (bx 1 [2, 5] 13) HT_.out (h := ?_)
      all_goals first | refine pA_ 7 (some 26) (bx 1 [2, 5, 7] 13) HT_.out (h := ?_) | refine pO_ 7 (some 26) (bx 1 [2, 5, 7] 13) HT_.out (h := ?_)
      all_goals first | refine pA_ 12 (some 31) (bx 1 [2, 5, 7, 12] 13) HT_.out (h := ?_) | refine pO_ 12 (some 31) (bx 1 [2, 5, 7, 12] 13) HT_.out (h := ?_)
      all_goals first | refine tA_ 1 (some 20) (bx 3 [5, 7, 12] 13) HT_.out HW_.out hHeld (h := ?_) | refine pO_ 1 (some 20) (bx 3 [5, 7, 12] 13) HT_.out (h := ?_)
      all_goals first | refine pA_ 3 (some 22) (bx 4 [5, 7, 12] 13) HT_.out (h := ?_) | refine pO_ 3 (some 22) (bx 4 [5, 7, 12] 13) HT_.out (h := ?_)
      all_goals first | refine pA_ 4 (some 23) (bx 6 [7, 12] 13) HT_.out (h := ?_) | refine pO_ 4 (some 23) (bx 6 [7, 12] 13) HT_.out (h := ?_)
      all_goals first | refine tA_ 6 (some 25) (bx 8 [12] 13) HT_.out HW_.out hHeld (h := ?_) | refine pO_ 6 (some 25) (bx 8 [12] 13) HT_.out (h := ?_)
      all_goals first | refine pA_ 8 (some 27) (bx 9 [12] 13) HT_.out (h := ?_) | refine pO_ 8 (some 27) (bx 9 [12] 13) HT_.out (h := ?_)
      all_goals first | refine pA_ 9 (some 28) (bx 10 [12] 13) HT_.out (h := ?_) | refine pO_ 9 (some 28) (bx 10 [12] 13) HT_.out (h := ?_)
      all_goals (refine one_ (i := 10) (N := some 29) (bx 11 [12] 13) rfl rfl (one_of HT_.out (by kernel_rfl)) (by decide) (fun K hK => ?_); have HPRE := hHeld; refine value_ (by rfl) rfl (by go_simp; constructor; rfl; rfl) ?_; skip; refine hK.out _ _ ⟨pw_cell_below (below_alloc (Below.refl _ _) _) HPRE.1, ⟨below_alloc HPRE.2.1.out _⟩, ⟨blk_alloc HPRE.2.2.1.out _⟩, ⟨blk_alloc HPRE.2.2.2.1.out _⟩, ⟨Kd.R_alloc HPRE.2.2.2.2.1.out _⟩, ⟨Kd.R_alloc HPRE.2.2.2.2.2.out _⟩⟩ (fun hHeld => ?_); clear hK K; refine norm_ (a' := ?_) ?_ ?_; rotate_left; focus (show Act.put _ (some 29) _ = _; simp only [Act.put, List.setIfInBounds_toArray, List.set_cons_zero, List.set_cons_succ, i64_w, i32_w]; rfl))
      all_goals first | refine pA_ 11 (some 30) (bl 13 13) HT_.out (h := ?_) | refine pO_ 11 (some 30) (bl 13 13) HT_.out (h := ?_)
      all_goals refine done_ (done_of HT_.out (by kernel_rfl)) ?_
      clear HS0 HPRE
      obtain ⟨wl, hwl⟩ : ∃ x, wv.alloc (.cells #[.pointer (some ⟨g1, i * 2, none⟩), .pointer (some ⟨g1, i * 2 + 1, none⟩)] 100 (0, 0)) = x := ⟨_, rfl⟩
      have BP := Aside0.mk (show wl.heap[wv.heap.size]? = some (.cells #[.pointer (some ⟨g1, i * 2, none⟩), .pointer (some ⟨g1, i * 2 + 1, none⟩)] 100 (0, 0)) from by rw [← hwl]; exact blk_new wv _)
      rw [hwl] at hHeld ⊢
      clear hwl
      obtain ⟨pb, hpb⟩ : ∃ b, wv.heap.size = b := ⟨_, rfl⟩
      rw [hpb] at BP
      try rw [hpb]
      clear hpb
      obtain ⟨c1, HB, B0, B1, HR0, HR1⟩ := hHeld
      clear c1
      have HR1 := Aside0.mk (show Kd.R k36 36 wl w.heap.size (fun _ => True) (.slice (some ⟨g1, 0, none⟩) n1 d1) ((renTo l0_1 a1 a2 i).set i (renK a1 a2 x 0)) from by
        have h : (renTo l0_1 a1 a2 i).set i (renK a1 a2 x 0) = renTo l0_1 a1 a2 i := by
          have h1 := HXX.out
          have hl := renTo_len l0_1 a1 a2 i
          have hi2 : i < (renTo l0_1 a1 a2 i).length := by rw [hl, HN.out]; exact hlt
          rw [List.getD_eq_getElem?_getD, List.getElem?_eq_getElem hi2] at h1
          show (renTo l0_1 a1 a2 i).set i x = _
          rw [← h1]
          exact List.set_getElem_self hi2
        rw [h]; exact HR1.out)
      go_wp2
      obtain ⟨wq2, rfl⟩ : ∃ x, x = wr := ⟨_, rfl⟩
      go_loopg [10, 31] 2 (fun gg s10 s31 wz => ∃ k : Nat, k ≤ 2 ∧ 2 - k ≤ gg ∧ s31 = .int .i64 k ∧ Aside0 (Below w.heap.size w wz) ∧ Aside0 (wz.heap[gb]? = some (.cells #[.slice D0 n0 d0, .slice (some ⟨g1, 0, none⟩) n1 d1] 32 (0, 0))) ∧ Aside0 (wz.heap[w.heap.size + 1]? = some (.cells #[.slice none 0 0, .slice none 0 0] 32 (0, 0))) ∧ Aside0 (wz.heap[pb]? = some (.cells #[.pointer (some ⟨g1, i * 2, none⟩), .pointer (some ⟨g1, i * 2 + 1, none⟩)] 100 (0, 0))) ∧ Aside0 (Kd.R k44 44 wz w.heap.size (fun _ => True) (.slice D0 n0 d0) l0_0) ∧ Aside0 (Kd.R k36 36 wz w.heap.size (fun _ => True) (.slice (some ⟨g1, 0, none⟩) n1 d1) ((renTo l0_1 a1 a2 i).set i (renK a1 a2 x k))))
      case atStart => exact ⟨0, by omega, by omega, by first | rfl | go_num, HB, B0, B1, BP, HR0, HR1⟩
      case round =>
        clear HB B0 B1 BP HR0 HR1
        obtain ⟨k, hk, hgg2, rfl, HB, B0, B1, BP, HR0, HR1⟩ := hrel
        have hkn2 : (i : Int) < (n1 : Int) := hltz
        have hk02 : (0 : Int) ≤ (i : Int) := by omega
        obtain ⟨cs, hcl, hM, hcc, hcf⟩ := Kd.R_elem HR1.out z36 (i : Int) hk02 hkn2
        have hcl2 : cs.length = 2 := hcl
        obtain rfl := k36_openM hM
        have hge : ((renTo l0_1 a1 a2 i).set i (renK a1 a2 x k)).getD (i : Int).toNat z36 = renK a1 a2 x k := by
          rw [Int.toNat_natCast, List.getD_eq_getElem?_getD, List.getElem?_set_self (by rw [renTo_len, HN.out]; exact hlt)]
          rfl
        have hcl := Eq.mp (congrArg (fun z : S36 => ([.int .i64 z.f0, .int .i64 z.f1] : List Value).length = (k36).sz) hge) hcl
        rw [hge] at hcc hM
        clear hge
        by_cases hk0 : k = 0
        · subst hk0
          have hx : wr.cell? ⟨g1, i * 2, none⟩ = some (.int .i64 (renK a1 a2 x 0).f0) := by have := hcc 0 _ rfl; simpa only [Int.toNat_natCast, show (k36).sz = 2 from rfl, Nat.add_zero] using this
          replace hx : wr.cell? ⟨g1, i * 2, none⟩ = some (.int .i64 x.f0) := hx
          have hp : wr.cell? ⟨pb, 0, none⟩ = some (.pointer (some ⟨g1, i * 2, none⟩)) := (blk_cell BP.out 0).trans rfl
          by_cases he : x.f0 = a1
          · have hez : (x.f0 == a1) = true := beq_iff_eq.2 he
            obtain ⟨hR3, hG3⟩ := Kd.R_seg HR1.out (i : Int) hk02 hkn2 hcl hcc (seg := [.int .i64 a2]) (j := 0) (by simp [hcl2, ← hcl]) (x' := renK a1 a2 x 1) (okp := fun _ => False) (by rw [show renK a1 a2 x 1 = ⟨a2, x.f1⟩ from by simp [renK, he]]; exact k36_mkM _ _ _ _) (fun _ h => h.elim)
            rw [show wr.setCells g1 ((i : Int).toNat * (k36).sz + 0) [.int .i64 a2] = wr.setCell ⟨g1, i * 2, none⟩ (.int .i64 a2) from by simp [World.setCells, show (k36).sz = 2 from rfl]] at hR3 hG3
            simp only [Int.toNat_natCast, List.set_set] at hR3
            have hfz : wr.frozen? ⟨g1, i * 2, none⟩ = false := by have := hcf 0; simpa only [Int.toNat_natCast, show (k36).sz = 2 from rfl, Nat.add_zero] using this
            have HR1n := Aside0.mk hR3
            have HR0n := Aside0.mk (Kd.R_grown2 HR0.out rfl hG3 (rows_ne HR1.out HR0.out (by decide)))
            have B0n := Aside0.mk (blk_grown B0.out hG3 (Kd.R_ne HR1.out B0.out (by decide)))
            have B1n := Aside0.mk (blk_grown B1.out hG3 (Kd.R_ne HR1.out B1.out (by decide)))
            have BPn := Aside0.mk (blk_grown BP.out hG3 (Kd.R_ne HR1.out BP.out (by decide)))
            have HBn := Aside0.mk (below_of_grown HB.out hG3 (fun b hb => Kd.R_base HR1.out b hb))
            clear hcc hcf hM hcl hcl2 hR3 hG3 HR1 HR0 B0 B1 BP HB he
            go_wp2
            go_roundg (2 - (0 + 1))
            case measure => omega
            case rel => exact ⟨1, by omega, by omega, by first | rfl | go_num, HBn, B0n, B1n, BPn, HR0n, HR1n⟩
          · have hez : (x.f0 == a1) = false := beq_eq_false_iff_ne.2 he
            have hsame : renK a1 a2 x 1 = renK a1 a2 x 0 := by simp [renK, he]
            rw [← hsame] at HR1
            clear hcc hcf hM hcl hcl2 hsame he
            go_wp2
            go_roundg (2 - (0 + 1))
            case measure => omega
            case rel => exact ⟨1, by omega, by omega, by first | rfl | go_num, HB, B0, B1, BP, HR0, HR1⟩
        by_cases hk1 : k = 1
        · subst hk1
          have hx : wr.cell? ⟨g1, i * 2 + 1, none⟩ = some (.int .i64 (renK a1 a2 x 1).f1) := by have := hcc 1 _ rfl; simpa only [Int.toNat_natCast, show (k36).sz = 2 from rfl, Nat.add_zero] using this
          replace hx : wr.cell? ⟨g1, i * 2 + 1, none⟩ = some (.int .i64 x.f1) := hx
          have hp : wr.cell? ⟨pb, 1, none⟩ = some (.pointer (some ⟨g1, i * 2 + 1, none⟩)) := (blk_cell BP.out 1).trans rfl
          by_cases he : x.f1 = a1
          · have hez : (x.f1 == a1) = true := beq_iff_eq.2 he
            obtain ⟨hR3, hG3⟩ := Kd.R_seg HR1.out (i : Int) hk02 hkn2 hcl hcc (seg := [.int .i64 a2]) (j := 1) (by simp [hcl2, ← hcl]) (x' := renK a1 a2 x 2) (okp := fun _ => False) (by rw [show renK a1 a2 x 2 = ⟨(renK a1 a2 x 1).f0, a2⟩ from by simp [renK, ren, he]]; exact k36_mkM _ _ _ _) (fun _ h => h.elim)
            rw [show wr.setCells g1 ((i : Int).toNat * (k36).sz + 1) [.int .i64 a2] = wr.setCell ⟨g1, i * 2 + 1, none⟩ (.int .i64 a2) from by simp [World.setCells, show (k36).sz = 2 from rfl]] at hR3 hG3
            simp only [Int.toNat_natCast, List.set_set] at hR3
            have hfz : wr.frozen? ⟨g1, i * 2 + 1, none⟩ = false := by have := hcf 1; simpa only [Int.toNat_natCast, show (k36).sz = 2 from rfl, Nat.add_zero] using this
            have HR1n := Aside0.mk hR3
            have HR0n := Aside0.mk (Kd.R_grown2 HR0.out rfl hG3 (rows_ne HR1.out HR0.out (by decide)))
            have B0n := Aside0.mk (blk_grown B0.out hG3 (Kd.R_ne HR1.out B0.out (by decide)))
            have B1n := Aside0.mk (blk_grown B1.out hG3 (Kd.R_ne HR1.out B1.out (by decide)))
            have BPn := Aside0.mk (blk_grown BP.out hG3 (Kd.R_ne HR1.out BP.out (by decide)))
            have HBn := Aside0.mk (below_of_grown HB.out hG3 (fun b hb => Kd.R_base HR1.out b hb))
            clear hcc hcf hM hcl hcl2 hR3 hG3 HR1 HR0 B0 B1 BP HB he
            go_wp2
            go_roundg (2 - (1 + 1))
            case measure => omega
            case rel => exact ⟨2, by omega, by omega, by first | rfl | go_num, HBn, B0n, B1n, BPn, HR0n, HR1n⟩
          · have hez : (x.f1 == a1) = false := beq_eq_false_iff_ne.2 he
            have hsame : renK a1 a2 x 2 = renK a1 a2 x 1 := by simp [renK, ren, he]
            rw [← hsame] at HR1
            clear hcc hcf hM hcl hcl2 hsame he
            go_wp2
            go_roundg (2 - (1 + 1))
            case measure => omega
            case rel => exact ⟨2, by omega, by omega, by first | rfl | go_num, HB, B0, B1, BP, HR0, HR1⟩
        obtain rfl : k = 2 := by omega
        have HR1 := Aside0.mk (show Kd.R k36 36 wr w.heap.size (fun _ => True) (.slice (some ⟨g1, 0, none⟩) n1 d1) (renTo l0_1 a1 a2 (i + 1)) from by rw [← HXS.out]; exact HR1.out)
        clear hcc hcf hM hcl hcl2 hk0 hk1
        go_wp2
        go_roundg (n1 - (i + 1))
        case measure => omega
        case rel => exact ⟨i + 1, by omega, by omega, by have := HN.out; have := HL.out; first | go_num | exact congrArg (Value.int .i64) (by unfold wrap64; omega), HB, B0, B1, HR0, HR1⟩
    · obtain rfl : i = n1 := by omega
      have hltz : ¬ (i : Int) < (i : Int) := by omega
      have HE := Aside0.mk (show renTo l0_1 a1 a2 i = l0_1.map (ren a1 a2) from by unfold renTo; rw [← HN.out, List.take_length, List.drop_length, List.append_nil])
      have c0 : wr.cell? ⟨gb, 0, none⟩ = some (.slice D0 n0 d0) := (blk_cell B0.out 0).trans rfl
      have q0 : wr.cell? ⟨w.heap.size + 1, 0, none⟩ = some (.slice none 0 0) := (blk_cell B1.out 0).trans rfl
      have q1 : wr.cell? ⟨w.heap.size + 1, 1, none⟩ = some (.slice none 0 0) := (blk_cell B1.out 1).trans rfl
      have f0 := blk_frozen B1.out 0
      have f1 := blk_frozen B1.out 1
      go_wp2
      refine bodyPost_ret (results_cell_row rfl _ _ (w.heap.size + 1) 32 #[.slice D0 n0 d0, .slice D1 i d1] (0, 0) _ rfl (blk_put (blk_put B1.out 0 _ rfl) 1 _ rfl) Try.underlying32 rfl (by kernel_rfl)) rfl ?_
      exact ⟨_, _, rfl, Kd.R_set (Kd.R_set HR0.out B1.out (by decide) 0 _) (blk_put B1.out 0 _ rfl) (by decide) 1 _, by rw [← HE.out]; exact Kd.R_set (Kd.R_set HR1.out B1.out (by decide) 0 _) (blk_put B1.out 0 _ rfl) (by decide) 1 _, below_set (below_set HB.out (by omega)) (by omega)⟩

end Go.Proofs.Ytlmdmnenljmdgaa.Q
