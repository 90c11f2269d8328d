-- Written by a program of this session (wip/xprint.py over the kit's printer).
import Derived.Test.YtenphfagdpkjaaaQ0
import Derived.Test.YtenphfagdpkjaaaQP
namespace Go.Proofs.Ytenphfagdpkjaaa.Q
open Go.RowKit Go.Proofs.YtenphfagdpkjaaaW.PrintWords Go.Proofs.YtenphfagdpkjaaaW.PrintLast
set_option linter.unusedVariables false
set_option linter.unusedSimpArgs false

/-! ### impl_Phase_74: function 74 -/
/-- The cells behind a row, cleared. -/
theorem R_cleared_at {α : Type} (d : Kd α) {P : Program} {W : World} {base e g i cap : Nat} {ok : Nat → Prop} {xs : List α} (HT : d.R e W base ok (.slice (some ⟨g, 0, none⟩) i cap) xs) (t ty : TypeId) (z : Value) (bytes : Nat) (ht : P.underlying t = some (.slice e))
    (hinfo : (P.info? e).map (fun i => (i.zero, i.size, i.bytes)) = some (some z, d.sz, bytes)) (hz : z.cells.size = d.sz) (h1 : ∀ u ∈ z.cells.toList, u.oneCell' = true) (m : Nat) (hm0 : 0 < m) (hm : i + m ≤ cap) (c' : Nat) :
    ∃ W', (Builtin.clear_ #[t] ty #[.slice (some ⟨g, i * d.sz, none⟩) m c']).run P W = .ok (.tuple #[]) W' ∧ d.R e W' base ok (.slice (some ⟨g, 0, none⟩) i cap) xs ∧ W.grownBy W' (some g) := by
  obtain ⟨i0, hi0, hz0, hz1, hz2⟩ := info_parts hinfo
  have hil : xs.length = i := (Kd.R_reads' HT).1.symm
  obtain ⟨hok, inner, ho, hr⟩ := HT
  obtain ⟨ho1, ho2⟩ := ho
  rcases ho2 with ⟨hv, _⟩ | ⟨g', cap', cur, hv, hb, hh, hnc', hcm, hcs, htk⟩
  · cases hv
  injection hv with ha _ hc
  injection ha with ha
  injection ha with hg
  subst hg; subst hc
  have hfit : i * d.sz + (Builtin.zeroCells z.cells m).toList.length ≤ cur.size := by
    rw [zeroCells_length, hz, hcs, ← Nat.add_mul]
    exact Nat.mul_le_mul_right _ hm
  have hrun := run_clear_cells (P := P) W t e ty z ht hi0 hz0 h1 g (i * d.sz) m c' hm0
    (fun j hj => by
      rw [hz] at hj
      have : i * d.sz + j < cur.size := by
        have h2 := hfit
        rw [zeroCells_length, hz] at h2
        omega
      rw [blk_cell hh, Array.getElem?_eq_getElem this]
      rfl)
    (fun j _ => blk_frozen hh _)
  obtain ⟨cur', h3, h4, h5⟩ := setCells_row (Builtin.zeroCells z.cells m).toList (i * d.sz) W cur hh hfit
  obtain ⟨s1, s2, s3, s4⟩ := setCells_same g (Builtin.zeroCells z.cells m).toList (i * d.sz) W
  refine ⟨_, hrun, ⟨hok, inner, ⟨ho1, .inr ⟨g, cap, cur', by rw [hil], hb, h3, hnc', hcm, by rw [h4, hcs], ?_⟩⟩, hr.imp_ (fun p c hp => d.M_move (fun k hk => setCells_far _ _ k (fun he => hk.2 (by rw [he]; simp [Value.ownBlock]))) hp)⟩, ⟨s1, s2, s3, by rw [s4]; exact Nat.le_refl _, fun k _ hk => setCells_far _ _ k (fun he => hk (by rw [he]))⟩⟩
  rw [hil] at htk ⊢
  rw [h5, List.append_assoc, List.take_append_of_le_length (by rw [List.length_take, Array.length_toList, hcs]; have := Nat.mul_le_mul_right d.sz (show i ≤ cap by omega); omega), List.take_take, Nat.min_self]
  exact htk
theorem S_cleared_at {α : Type} (d : Kd α) {P : Program} {W : World} {base e g i cap : Nat} {ok : Nat → Prop} {xs : List α} (HT : Kd.S d e W base ok (.slice (some ⟨g, 0, none⟩) i cap) xs) (t ty : TypeId) (z : Value) (bytes : Nat) (ht : P.underlying t = some (.slice e))
    (hinfo : (P.info? e).map (fun i => (i.zero, i.size, i.bytes)) = some (some z, d.sz, bytes)) (hz : z.cells.size = d.sz) (h1 : ∀ u ∈ z.cells.toList, u.oneCell' = true) (m : Nat) (hm0 : 0 < m) (hm : i + m ≤ cap) (c' : Nat) :
    ∃ W', (Builtin.clear_ #[t] ty #[.slice (some ⟨g, i * d.sz, none⟩) m c']).run P W = .ok (.tuple #[]) W' ∧ Kd.S d e W' base ok (.slice (some ⟨g, 0, none⟩) i cap) xs ∧ W.grownBy W' (some g) := by
  obtain ⟨f, HR⟩ := HT
  obtain ⟨W', h1, h2, h3⟩ := R_cleared_at (Kd.tag f d) HR t ty z bytes ht hinfo hz h1 m hm0 hm c'
  exact ⟨W', h1, ⟨f, h2⟩, h3⟩
theorem cut_mid {P : Program} (t e : TypeId) {i0 : TypeInfo} (ht : P.underlying t = some (.slice e)) (hi : P.info? e = some i0) (size : Nat) (hsz : i0.size = size) (g n c : Nat) (l h : Int) (l' : Nat) (hl : l = l') (h0 : (l' : Int) < h) (hc : h ≤ c) :
    ∀ W : World, (Instr.slice t (.slice (some ⟨g, 0, none⟩) n c) (some (.int .i64 l)) (some (.int .i64 h)) none).run P W = .ok (.slice (some ⟨g, l' * size, none⟩) (h.toNat - l') (c - l')) W := by
  intro W
  subst hl
  have hel : P.elem t = e := by simp [Program.elem, ht]
  have hu : P.underlying t = some (.slice (P.elem t)) := by rw [hel]; exact ht
  rw [run_slice_lh W t _ n c hu .i64 .i64 l' h (by omega) (by omega) hc, hel]
  have hne : ¬ c = l' := by omega
  simp [sizeOf, typeInfo, hi, hsz, sliced, Result.andThen, hne, Addr.add]
  try exact fun h => h.symm
theorem cut_caps {P : Program} (t e : TypeId) {i0 : TypeInfo} (ht : P.underlying t = some (.slice e)) (hi : P.info? e = some i0) (A : Option Addr) (n c : Nat) (l h m : Int) (h0 : 0 ≤ l) (h1 : l ≤ h) (h2 : h ≤ m) (h3 : m ≤ c) :
    ∃ v, ∀ W : World, (Instr.slice t (.slice A n c) (some (.int .i64 l)) (some (.int .i64 h)) (some (.int .i64 m))).run P W = .ok v W := by
  have hel : P.elem t = e := by simp [Program.elem, ht]
  have hu : P.underlying t = some (.slice (P.elem t)) := by rw [hel]; exact ht
  refine ⟨sliced A l.toNat h.toNat m.toNat i0.size, fun W => ?_⟩
  rw [run_slice_lhm W t A n c hu .i64 .i64 .i64 l h m h0 h1 h2 h3, hel]
  simp [sizeOf, typeInfo, hi, Result.andThen]
def impl_Phase_74.T5 : Bool × List (List Nat × List Nat) := (true, [([], []), ([], []), ([0, 1], [0, 1]), ([], []), ([], []), ([3, 4], [3, 4]), ([2, 5], [2, 5]), ([6, 6, 0, 1, 2, 3, 4, 5, 6], [0, 3, 6])])
def impl_Phase_74.B5 : List Nat := [0, 0, 3, 0, 0, 24, 63, 127]
theorem impl_Phase_74.tab5 : rtab .any (opsOf Try.f74 5) = impl_Phase_74.T5 := by kernel_rfl
theorem impl_Phase_74.bits5 : waitsOk impl_Phase_74.T5.2 impl_Phase_74.B5 = true := by kernel_rfl
set_option maxHeartbeats 8000000 in
set_option maxRecDepth 100000 in
theorem impl_Phase_74.calls (base : Nat) (ok : Nat → Prop) (v : Value) (xs : List S64) (k : Nat) (j : Int) (w : World) (hk : k < xs.length) (hj : j = (k : Int) + 1) (HO : Kd.S k64 64 w base ok v xs) :
    Calls Try.prog 74 #[v, .int .i64 k, .int .i64 j] w fun en w' => ∃ v1 : Value, en = .returned v1 ∧ Kd.S k64 64 w' base ok v1 (xs.eraseIdx k) ∧ w.grownBy w' v.ownBlock := by
  obtain ⟨A, c, rfl, hlc, hC⟩ := Kd.S_reads HO
  have hbig : xs.length ≤ 9223372036854775807 := hC.2.1
  obtain ⟨g0, cap, hv, hcap, hbase, hg0, hok0⟩ := R_form (Kd.S_R HO) (by omega)
  injection hv with hv1 hv2 hv3
  subst hv1; subst hv3
  clear hv2 hC hlc hok0
  obtain ⟨n, hn⟩ : ∃ n, xs.length = n := ⟨_, rfl⟩
  rw [hn] at hk hcap hbig HO ⊢
  have HN := Aside0.mk hn
  clear hn
  obtain ⟨i0, hi0, hz0, hz1, hz2⟩ := info_parts info64
  obtain ⟨v3, hcut3⟩ := cut_caps (P := Try.prog) 35 64 Try.underlying35 hi0 (some ⟨g0, 0, none⟩) n c (k : Int) j (n : Int) (by omega) (by omega) (by omega) (by omega)
  have hcutA := cut_to (P := Try.prog) 35 64 .i64 Try.underlying35 hi0 (some ⟨g0, 0, none⟩) n c (k : Int) (by omega) (by omega) hcap
  have hcutB := cut_from (P := Try.prog) 35 64 .i64 Try.underlying35 hi0 2 hz1 (some ⟨g0, 0, none⟩) n c j (by omega) (by omega)
  have hcutC := cut_mid (P := Try.prog) 35 64 Try.underlying35 hi0 2 hz1 g0 (n - 1) c ((n - 1 : Nat) : Int) (n : Int) (n - 1) rfl (by omega) (by omega)
  have hjn : j.toNat = k + 1 := by omega
  rw [hjn] at hcutB
  simp only [Int.toNat_natCast] at hcutA hcutC
  obtain ⟨AB, hAB⟩ : ∃ AB : Option Addr, AB = (if c = k + 1 then some ⟨g0, 0, none⟩ else (some (⟨g0, 0, none⟩ : Addr)).map (·.add ((k + 1) * 2))) := ⟨_, rfl⟩
  rw [← hAB] at hcutB
  have HAB := Aside0.mk hAB
  have hne : ((k : Int) == j) = false := beq_eq_false_iff_ne.2 (by omega)
  rw [show n - (n - 1) = 1 from by omega] at hcutC
  have HK := Aside0.mk (And.intro hk (And.intro hbase hg0))
  have HCP := Aside0.mk hcap
  have HO := Aside0.mk HO
  clear hAB hjn hj hk hbase hg0 hcap hi0 hz0 hz1 hz2 hbig
  go_enter Try.func74, Try.ntmps74
  go_upto_region 5 with (fail)
  have HS0 := Aside0.mk (show (fun w' : World => Aside0 (Kd.S k64 64 w' base ok (.slice (some ⟨g0, 0, none⟩) n c) xs) ∧ Aside0 (w.grownBy w' (some g0))) w.drew from ⟨⟨Kd.S_drew HO.out⟩, ⟨grown_drew (grown_refl _ _)⟩⟩)
  clear HO
  all_goals refine start_ (n := 8) (S := (fun w' : World => Aside0 (Kd.S k64 64 w' base ok (.slice (some ⟨g0, 0, none⟩) n c) xs) ∧ Aside0 (w.grownBy w' (some g0)))) (ds := [6, 7]) (bl 0 8) (by kernel_rfl) rfl rfl HS0.out (fun hHeld => ?_); refine with_tabW impl_Phase_74.tab5 impl_Phase_74.bits5 (fun HT_ HW_ => ?_)
  all_goals generalize w.drew = wv at hHeld ⊢
  all_goals first | refine pA_ 0 (some 20) (bl 1 8) HT_.out (h := ?_) | refine pO_ 0 (some 20) (bl 1 8) HT_.out (h := ?_)
  all_goals first | refine pA_ 1 (some 21) (bl 2 8) HT_.out (h := ?_) | refine pO_ 1 (some 21) (bl 2 8) HT_.out (h := ?_)
  all_goals first | refine pA_ 2 (some 22) (bl 3 8) HT_.out (h := ?_) | refine pO_ 2 (some 22) (bl 3 8) HT_.out (h := ?_)
  all_goals first | refine pA_ 3 (some 23) (bl 4 8) HT_.out (h := ?_) | refine pO_ 3 (some 23) (bl 4 8) HT_.out (h := ?_)
  all_goals first | refine pA_ 4 (some 24) (bl 5 8) HT_.out (h := ?_) | refine pO_ 4 (some 24) (bl 5 8) HT_.out (h := ?_)
  all_goals first | refine pA_ 5 (some 25) (bl 6 8) HT_.out (h := ?_) | refine pO_ 5 (some 25) (bl 6 8) HT_.out (h := ?_)
  all_goals (refine last_ (i := 6) (N := some 26) (bl 7 8) rfl rfl (one_of HT_.out (by kernel_rfl)) (by decide) (fun K hK => ?_); have HPRE := hHeld; refine Kd.S_delete_step k64 (w0 := wv) base (by rfl) (.tmp 22) (.tmp 25) 35 64 rfl Try.underlying35 (by kernel_rfl) rfl rfl HAB.out rfl HPRE.1.out HK.out.1 (Below.refl _ _) (by have h1 := HK.out.2; have h2 := HPRE.2.out.size; omega) ?_; intro w1 ho hb hg; have HO := Aside0.mk ho; have HG := Aside0.mk (grown_trans HPRE.2.out hg); clear ho hb hg HPRE; refine hK.out _ _ ?_; clear hK K; refine norm_ (a' := ?_) ?_ ?_; rotate_left; focus (show Act.put _ (some 26) _ = _; simp only [Act.put, List.setIfInBounds_toArray, List.set_cons_zero, List.set_cons_succ, i64_w, i32_w]; rfl))
  all_goals (refine last_ (i := 7) (N := some 0) (bl 8 8) rfl rfl (one_of HT_.out (by kernel_rfl)) (by decide) (fun K hK => ?_); refine value_ (by rfl) rfl (by go_simp; constructor; rfl; rfl) ?_; skip; refine hK.out _ _ ?_; clear hK K; refine norm_ (a' := ?_) ?_ ?_; rotate_left; focus (show Act.put _ (some 0) _ = _; simp only [Act.put, List.setIfInBounds_toArray, List.set_cons_zero, List.set_cons_succ, i64_w, i32_w]; rfl))
  all_goals refine done_ (done_of HT_.out (by kernel_rfl)) ?_
  obtain ⟨W', hclr, HR', HG'⟩ := S_cleared_at k64 HO.out 35 0 (.agg #[(.string ⟨#[]⟩), (.slice none 0 0)]) 40 Try.underlying35 info64 rfl (by simp [Value.cells, Value.oneCell']) 1 (by omega) (by have := HK.out.1; have := HCP.out; omega) (c - (n - 1))
  rw [show (k64).sz = 2 from rfl] at hclr
  have HRr := Aside0.mk HR'
  have HGr := Aside0.mk HG'
  clear HR' HG'
  go_wp2
  go_ret
  exact ⟨_, rfl, HRr.out, grown_trans HG.out HGr.out⟩

end Go.Proofs.Ytenphfagdpkjaaa.Q
