-- Written by a program of this session (wip/xprint.py over the kit's printer).
import Derived.Test.YtlbkoejpjpcgaaaQ0
import Derived.Test.YtlbkoejpjpcgaaaQF85
import Derived.Test.YtlbkoejpjpcgaaaQF94
import Derived.Test.YtlbkoejpjpcgaaaQF95
import Derived.Test.YtlbkoejpjpcgaaaQP
namespace Go.Proofs.Ytlbkoejpjpcgaaa.Q
open Go.RowKit Go.Proofs.YtlbkoejpjpcgaaaW.PrintWords Go.Proofs.YtlbkoejpjpcgaaaW.PrintLast
set_option linter.unusedVariables false
set_option linter.unusedSimpArgs false

/-! ### impl_order_rows: function 51 -/
theorem rd_numsR (cs : List S108) (i : Nat) (h : i < cs.length) : rd (nums cs) (i : Int) = (cs.getD i z108).f0 := by
  simp [rd, nums, List.getD_eq_getElem?_getD, h]
def padR (out : List (List Int)) (d : Nat) : List (List Int) := out ++ List.replicate (d + 1 - out.length) []
def rowPut (out : List (List Int)) (d : Nat) (y : Int) : List (List Int) := (padR out d).set d ((padR out d).getD d [] ++ [y])
def rowsL (cs : List S108) (ds : List Int) : Nat → List (List Int)
  | 0 => []
  | m + 1 => rowPut (rowsL cs ds m) (ds.getD m 0).toNat (cs.getD m z108).f0
theorem padR_len (out : List (List Int)) (d : Nat) : (padR out d).length = max out.length (d + 1) := by
  unfold padR; rw [List.length_append, List.length_replicate]; omega
theorem padR_le (B : Nat) (out : List (List Int)) (d : Nat) (h : ∀ r ∈ out, r.length ≤ B) : ∀ r ∈ padR out d, r.length ≤ B := by
  intro r hr
  rcases List.mem_append.1 hr with hr | hr
  · exact h r hr
  · rw [List.eq_of_mem_replicate hr]; exact Nat.zero_le _
theorem rowsL_le (cs : List S108) (ds : List Int) (m : Nat) : ∀ r ∈ rowsL cs ds m, r.length ≤ m := by
  induction m with
  | zero => intro r hr; simp [rowsL] at hr
  | succ m ih =>
    intro r hr
    have hp := padR_le m (rowsL cs ds m) (ds.getD m 0).toNat ih
    rcases List.mem_or_eq_of_mem_set hr with hr | rfl
    · have := hp r hr; omega
    · rw [List.length_append, List.length_singleton]
      by_cases h : (ds.getD m 0).toNat < (padR (rowsL cs ds m) (ds.getD m 0).toNat).length
      · generalize (ds.getD m 0).toNat = q at h hp ⊢
        generalize padR (rowsL cs ds m) q = l at h hp ⊢
        have e : l.getD q [] = l[q] := by simp [List.getD_eq_getElem?_getD, List.getElem?_eq_getElem h]
        have := hp _ (List.getElem_mem h)
        rw [e]
        omega
      · rw [padR_len] at h; omega
theorem rowsL_len (cs : List S108) (ds : List Int) (B : Nat) (hB : ∀ j, ds.getD j 0 ≤ (B : Int)) (m : Nat) : (rowsL cs ds m).length ≤ B + 1 := by
  induction m with
  | zero => simp [rowsL]
  | succ m ih =>
    have h := hB m
    simp only [rowsL, rowPut, List.length_set, padR_len]
    omega
theorem kept_grown {w5 W w1 : World} {b : Nat} {row : Option Nat} (hk : Kept w5 W (fun k => k = b)) (hg : W.grownBy w1 row) (hr : ∀ k, row = some k → k = b ∨ w5.heap.size ≤ k) : Kept w5 w1 (fun k => k = b) :=
  ⟨Nat.le_trans hk.1 hg.size, fun i hi hn => (hg.block i (Nat.lt_of_lt_of_le hi hk.1) (fun e => by rcases hr i e.symm with h | h; exact hn h; omega)).trans (hk.2 i hi hn)⟩
theorem kept_below {w5 W w1 : World} {b : Nat} (hk : Kept w5 W (fun k => k = b)) (hb : Below W.heap.size W w1) : Kept w5 w1 (fun k => k = b) :=
  ⟨Nat.le_trans hk.1 hb.size, fun i hi hn => (hb.block i (Nat.lt_of_lt_of_le hi hk.1)).trans (hk.2 i hi hn)⟩
theorem kept_set {w5 W : World} {b g j : Nat} {u : Value} (hk : Kept w5 W (fun k => k = b)) (hg : g = b ∨ w5.heap.size ≤ g) : Kept w5 (W.setCell ⟨g, j, none⟩ u) (fun k => k = b) :=
  ⟨by have := hk.1; simpa [World.setCell] using this, fun i hi hn => (Below.heap_setCell W ⟨g, j, none⟩ u i (by show i ≠ g; rintro rfl; rcases hg with h | h; exact hn h; omega)).trans (hk.2 i hi hn)⟩
def impl_order_rows.T7 : Bool × List (List Nat × List Nat) := (true, [([], []), ([], []), ([], []), ([], []), ([2, 3], [2, 3]), ([4], [4]), ([], []), ([6], [6]), ([7], [7]), ([8], [8]), ([], []), ([9, 10], [9, 10]), ([11], [11]), ([12], [12]), ([5, 13], [5, 13]), ([0, 1, 0, 1, 2, 3, 4, 5, 6, 7, 8, 9, 10, 11, 12, 13, 14], [0, 1]), ([15, 14, 14, 0, 1, 2, 3, 4, 5, 6, 7, 8, 9, 10, 11, 12, 13, 14], [14, 15])])
def impl_order_rows.B7 : List Nat := [0, 0, 0, 0, 12, 28, 0, 64, 192, 448, 0, 1984, 4032, 8128, 16380, 32767, 65535]
theorem impl_order_rows.tab7 : rtab .any (opsOf Try.f51 7) = impl_order_rows.T7 := by kernel_rfl
theorem impl_order_rows.bits7 : waitsOk impl_order_rows.T7.2 impl_order_rows.B7 = true := by kernel_rfl
set_option maxHeartbeats 16000000 in
set_option maxRecDepth 100000 in
theorem impl_order_rows.calls (w0 : World) (p N1 N2 : Nat) (A : Option Addr) (c : Nat) (cs : List S108) (M1 M2 : Nat → Nat → Bool) (w : World) (H : OrdIn w0 w p N1 N2 cs.length (.slice A cs.length c) (nums cs) M1 M2) (h10 : cs.length ≤ 10) :
    Calls Try.prog 51 #[.pointer (some ⟨p, 0, none⟩)] w fun e w' => ∃ v : Value, e = .returned v ∧ Kd.S (Kd.slice 3 (Kd.int .i64)) 54 w' w.heap.size (fun _ => True) v (rowsL cs (dAll M1 cs.length cs.length) cs.length) ∧ Below w.heap.size w w' := by
  have HO := Aside0.mk H
  have HN := Aside0.mk h10
  clear H
  go_enter Try.func51, Try.ntmps51
  obtain ⟨b3, hb3e⟩ : ∃ b, w.heap.size = b := ⟨_, rfl⟩
  have HB3E := Aside0.mk hb3e
  clear hb3e
  go_upto_region 2 with ((with_reducible refine gate_dst (N := 6) rfl ?_); refine Kd.S_lit (Kd.slice 3 (Kd.int .i64)) (w0 := w) w.heap.size 54 ?hg (N := 6) ?hd (xs := ([] : List (List Int))) (inner := []) (ok := fun k => k = b3) (okp := fun k => k = b3) ?hr ?hp (fun _ hk => hk) HB3E.out (Below.refl _ _) (Nat.le_refl _) (by simp) ?_; (case hd => rfl); (case hg => rfl); (case hr => first | (go_simp; done) | (go_simp; rfl)); (case hp => exact (Reps.none _ _)); intro v3 w1 ho hb hg_ hnew_; clear hg_; have HR := Aside0.mk ho; have HB := Aside0.mk hb; have HV3 := Aside0.mk hnew_; clear ho hb hnew_)
  have HO := Aside0.mk (HO.out.step HB.out)
  go_upto_region 3 with (go_at_call 95; (refine (impl_order_depths.calls _ p N1 N2 cs.length A c _ _ _ _ HO.out HN.out).mono ?_); rintro e w2 ⟨v2, rfl, hR2, hb2⟩; obtain ⟨D, d, hv2, hd, hC⟩ := Kd.R_reads hR2; rw [dAll_len] at hv2; subst hv2; clear hd hC; have HD2 := Aside0.mk hR2; have HB := Aside0.mk (below_chain (w := w) HB.out hb2); have HR := Aside0.mk (Kd.S_below HR.out hb2); have HO := Aside0.mk (HO.out.step hb2); clear hR2 hb2)
  have HUP := Aside0.mk (show upB 2000 (dAll M1 cs.length cs.length) from by have h := dAt_up (M := M1) (r := cs.length) (i := 0) (k := 0) HN.out (Nat.le_refl _) (Nat.zero_le _) (Nat.zero_le _); exact h)
  have HLN := Aside0.mk (dAll_len M1 cs.length cs.length)
  obtain ⟨ds, hds⟩ : ∃ ds, dAll M1 cs.length cs.length = ds := ⟨_, rfl⟩
  have HDS := Aside0.mk hds
  rw [hds] at HUP HLN HD2
  clear hds
  obtain ⟨w5, rfl⟩ : ∃ x, x = w2 := ⟨_, rfl⟩
  obtain ⟨gc3, hc3⟩ : ∃ gc3, w5.heap[b3]? = some (.cells gc3 54 (0, 0)) := by
    obtain ⟨b, e, _⟩ := HV3.out
    obtain ⟨gc3, hc3⟩ := Kd.S_typed HR.out b e
    obtain rfl : b = b3 := HR.out.choose_spec.1 b e
    exact ⟨gc3, hc3⟩
  have HDT := Aside0.mk (Kd.R_types HD2.out hc3 (by decide))
  have HNT := Aside0.mk (Kd.R_types HO.out.ns hc3 (by decide))
  obtain ⟨gp, hgp⟩ := rowIs_block HO.out.row
  have HPN := Aside0.mk (show p ≠ b3 from by rintro rfl; rw [hgp] at hc3; injection hc3 with h; injection h with _ h2; exact absurd h2 (by decide))
  have HGP := Aside0.mk hgp
  have hp0 := HO.out.c0
  have HP0 := Aside0.mk (show gp[0]? = some (.slice A cs.length c) from (blk_cell hgp 0).symm.trans hp0)
  have HPL := Aside0.mk (blk_lt hgp)
  have HBW := Aside0.mk (show w.heap.size ≤ b3 ∧ w.heap.size ≤ w5.heap.size from ⟨by rw [HB3E.out]; exact Nat.le_refl _, HB.out.size⟩)
  have HR := Aside0.mk (Kd.S_mono (ok' := (fun k => k = b3 ∨ w5.heap.size ≤ k)) HR.out (fun k hk => .inl hk) : Kd.S (Kd.slice 3 (Kd.int .i64)) 54 w5 w.heap.size (fun k => k = b3 ∨ w5.heap.size ≤ k) v3 (rowsL cs ds 0))
  have HKP := Aside0.mk (show Kept w5 w5 (fun k => k = b3) from ⟨Nat.le_refl _, fun _ _ _ => rfl⟩)
  clear hc3 hgp hp0 HD2 HO HV3
  go_wp2
  go_loopg [3, 10] cs.length (fun gg s3 s10 wr => ∃ m : Nat, m ≤ cs.length ∧ cs.length - m ≤ gg ∧ s10 = .int .i64 m ∧ Aside0 (Below w.heap.size w wr) ∧ Aside0 (Kept w5 wr (fun k => k = b3)) ∧ Aside0 (Kd.S (Kd.slice 3 (Kd.int .i64)) 54 wr w.heap.size (fun k => k = b3 ∨ w5.heap.size ≤ k) s3 (rowsL cs ds m)))
  case atStart => exact ⟨0, Nat.zero_le _, by omega, rfl, HB, HKP, HR⟩
  case round =>
    clear HB HKP HR
    obtain ⟨m, hm, hgg, rfl, HB, HKP, HR⟩ := hrel
    by_cases hml : m < cs.length
    · have hmlz : (m : Int) < (cs.length : Int) := by omega
      have hCD := (Kd.R_reads' (Kd.R_step HDT.out (fun k hk hlt => HKP.out.2 k hlt hk.2))).2.2
      rw [HLN.out] at hCD
      obtain ⟨ad, e1, hx⟩ := Kd.at_int hCD (m : Int) (by omega) hmlz
      cases e1
      have hup := HUP.out m
      obtain ⟨dm, hdm⟩ : ∃ q : Nat, ds.getD m 0 = (q : Int) := ⟨(ds.getD m 0).toNat, by omega⟩
      rw [show rd ds (m : Int) = ds.getD m 0 from by simp [rd], hdm, Int.toNat_natCast] at hx
      have HDM := Aside0.mk hdm
      have HD2K := Aside0.mk (show dm ≤ 2000 from by omega)
      clear hCD hup hdm
      go_upto_region 5 with (fail)
      clear hx
      have HR := Aside0.mk (show Kd.S (Kd.slice 3 (Kd.int .i64)) 54 wr w.heap.size (fun k => k = b3 ∨ w5.heap.size ≤ k) u3 (rowsL cs ds m ++ List.replicate 0 []) from by rw [List.replicate_zero, List.append_nil]; exact HR.out)
      have HLE := Aside0.mk (rowsL_len cs ds 2000 (fun j => (HUP.out j).2) m)
      go_wp2
      go_loopg [3] (dm + 1) (fun gg s3 wr => ∃ e : Nat, e ≤ dm + 1 - (rowsL cs ds m).length ∧ (dm + 1 - (rowsL cs ds m).length) - e ≤ gg ∧ Aside0 (Below w.heap.size w wr) ∧ Aside0 (Kept w5 wr (fun k => k = b3)) ∧ Aside0 (Kd.S (Kd.slice 3 (Kd.int .i64)) 54 wr w.heap.size (fun k => k = b3 ∨ w5.heap.size ≤ k) s3 (rowsL cs ds m ++ List.replicate e [])))
      case atStart => exact ⟨0, Nat.zero_le _, by omega, HB, HKP, HR⟩
      case round =>
        clear HB HKP HR
        obtain ⟨e, he, hgg2, HB, HKP, HR⟩ := hrel
        obtain ⟨Av, cv, hv, hcv, hCv⟩ := Kd.S_reads HR.out
        have HXN := Aside0.mk (show (rowsL cs ds m ++ List.replicate e []).length = (rowsL cs ds m).length + e from by simp)
        obtain ⟨xs, hxs⟩ : ∃ xs, rowsL cs ds m ++ List.replicate e [] = xs := ⟨_, rfl⟩
        rw [hxs] at hv HR HXN
        have HXS := Aside0.mk hxs
        subst hv
        clear hxs hcv hCv
        by_cases hle : xs.length ≤ dm
        · have hlez : (xs.length : Int) ≤ (dm : Int) := by omega
          have HXL := Aside0.mk (show xs.length ≤ 2000 from by have := HD2K.out; omega)
          go_wp2_with ((with_reducible refine gate_builtin (b := .append) (xs := #[.tmp 19, .tmp 20]) rfl ?_); at_builtin; refine Kd.S_append (Kd.slice 3 (Kd.int .i64)) (w0 := w) w.heap.size rfl (.tmp 19) (.tmp 20) 27 54 (.slice none 0 0) 24 rfl Try.underlying27 info54 rfl (by decide) (by omega) (.slice Av xs.length cv) xs [] [.slice none 0 0] (fun k => k = b3 ∨ w5.heap.size ≤ k) (fun _ => False) rfl rfl ⟨_, rfl, Kd.R_nil _ _ _ _ _⟩ (fun _ hk => hk.elim) (fun k hk => .inr (Nat.le_trans HKP.out.1 hk)) ?aO ?aB ?aS ?aL ?_; (case aO => exact Kd.S_mono (by (with_reducible repeat (first | apply Kd.S_alloc | apply Kd.S_drewN | apply Kd.S_drew)); exact HR.out) (fun _ hk => ⟨hk, fun h => h⟩)); (case aB => exact (by repeat (first | exact HB.out | apply below_alloc | apply pw_below_drewN | apply below_drew1))); (case aS => exact below_size (by repeat (first | exact HB.out | apply below_alloc | apply pw_below_drewN | apply below_drew1))); (case aL => have := HXL.out; omega); intro v1 w7 ho hb hg hat; have HKP := Aside0.mk (kept_grown HKP.out hg (fun k hk => HR.out.choose_spec.1 k hk)); have HB := Aside0.mk hb; have HR := Aside0.mk ho; clear hg hat ho hb)
          go_roundg ((dm + 1 - (rowsL cs ds m).length) - (e + 1))
          case measure => (have := HXN.out; omega)
          case rel => exact ⟨e + 1, by have := HXN.out; omega, Nat.le_refl _, HB, HKP, by have h := HXS.out; rw [List.replicate_succ', ← List.append_assoc, h]; exact HR⟩
        · have hlez : ¬ ((xs.length : Int) ≤ (dm : Int)) := by omega
          have HPD := Aside0.mk (show padR (rowsL cs ds m) dm = xs from by have := HXN.out; rw [← HXS.out]; unfold padR; rw [show dm + 1 - (rowsL cs ds m).length = e by omega])
          have hdl : dm < xs.length := by omega
          obtain ⟨g, cap, hv, _, _, _⟩ := Kd.S_form HR.out (by omega)
          injection hv with hv1 hv2 hv3
          subst hv1; subst hv3
          clear hv2
          obtain ⟨H0, hH0⟩ : ∃ h, wr.heap.size = h := ⟨_, rfl⟩
          have hS2 : Kd.S (Kd.slice 3 (Kd.int .i64)) 54 wr w.heap.size (fun k => (k = b3 ∨ w5.heap.size ≤ k) ∧ ¬ H0 ≤ k) (.slice (some ⟨g, 0, none⟩) xs.length cv) xs := Kd.S_mono (Kd.S_bound HR.out) (fun k hk => ⟨hk.1, by have := hk.2.2.1; omega⟩)
          obtain ⟨oki, cc, hcl, hM, hcells, hfr, hoki, hH⟩ := Kd.S_elem hS2 ([] : List Int) (dm : Int) (by omega) (by omega)
          obtain ⟨gc, hgc⟩ := Kd.S_typed HR.out g (by simp [Value.ownBlock])
          rw [Int.toNat_natCast] at hM hcells
          obtain ⟨row, hrow⟩ : ∃ r, xs.getD dm [] = r := ⟨_, rfl⟩
          rw [hrow] at hM
          obtain ⟨vd, rfl, hRd⟩ := hM
          have hx0 : wr.cell? ⟨g, dm, none⟩ = some vd := by
            have := hcells 0 vd rfl
            simpa [Kd.slice] using this
          have HRL := Aside0.mk (show row.length ≤ 10 from by
            have h1 := padR_le m (rowsL cs ds m) dm (rowsL_le cs ds m) (xs.getD dm []) (by rw [HPD.out, List.getD_eq_getElem?_getD, List.getElem?_eq_getElem hdl]; exact List.getElem_mem hdl)
            rw [hrow] at h1
            have := HN.out
            omega)
          have hCN := (Kd.R_reads' (Kd.R_step HNT.out (fun k hk hlt => HKP.out.2 k hlt hk.2))).2.2
          rw [nums_length] at hCN
          obtain ⟨adn, e1, hy⟩ := Kd.at_int hCN (m : Int) (by omega) hmlz
          cases e1
          rw [rd_numsR cs m hml, Int.toNat_natCast] at hy
          obtain ⟨y, hyy⟩ : ∃ y, (cs.getD m z108).f0 = y := ⟨_, rfl⟩
          rw [hyy] at hy
          have HNX := Aside0.mk (show rowsL cs ds (m + 1) = xs.set dm (row ++ [y]) from by
            simp only [rowsL, rowPut]
            rw [show (ds.getD m 0).toNat = dm from by rw [HDM.out, Int.toNat_natCast], HPD.out, hrow, hyy])
          have hgp2 := (HKP.out.2 p HPL.out HPN.out).trans HGP.out
          have hp0 : wr.cell? ⟨p, 0, none⟩ = some (.slice (some adn) cs.length c) := (blk_cell hgp2 0).trans HP0.out
          have HS0 := Aside0.mk (show (fun w' => w'.cell? ⟨g, dm, none⟩ = some vd ∧ w'.cell? ⟨p, 0, none⟩ = some (.slice (some adn) cs.length c) ∧ w'.cell? (adn.add m) = some (.int .i64 y) ∧ Aside0 (w'.heap[g]? = some (.cells gc 54 (0, 0))) ∧ Aside0 (Below w.heap.size w w') ∧ Aside0 (Kept w5 w' (fun k => k = b3)) ∧ Aside0 (Kd.H (Kd.slice 3 (Kd.int .i64)) 54 w' w.heap.size (fun k => (k = b3 ∨ w5.heap.size ≤ k) ∧ ¬ H0 ≤ k) (.slice (some ⟨g, 0, none⟩) xs.length cv) xs (dm : Int) oki [vd]) ∧ Aside0 (Kd.R (Kd.int .i64) 3 w' w.heap.size oki vd row) ∧ Aside0 (H0 ≤ w'.heap.size)) wr.drew from ⟨hx0, hp0, hy, ⟨hgc⟩, ⟨below_drew1 HB.out⟩, ⟨kept_below HKP.out (below_drew1 (Below.refl _ _))⟩, ⟨Kd.H_drew hH⟩, ⟨Kd.R_drew hRd⟩, ⟨by rw [← hH0]; exact Nat.le_refl _⟩⟩)
          have HOKI := Aside0.mk hoki
          have HH5 := Aside0.mk (show w5.heap.size ≤ H0 from by rw [← hH0]; exact HKP.out.1)
          have HGL := Aside0.mk (show g < H0 from by rw [← hH0]; exact blk_lt hgc)
          have HG5 := Aside0.mk (show g = b3 ∨ w5.heap.size ≤ g from HR.out.choose_spec.1 g (by simp [Value.ownBlock]))
          have hdlz : (dm : Int) < (xs.length : Int) := by omega
          go_upto_region 7 with (fail)
          clear hx0 hp0 hy hgc hgp2 hcells hfr hoki hH hRd hcl hrow hyy hCN hS2 hH0 HB HKP HR
          all_goals refine start_ (n := 17) (S := (fun w' => w'.cell? ⟨g, dm, none⟩ = some vd ∧ w'.cell? ⟨p, 0, none⟩ = some (.slice (some adn) cs.length c) ∧ w'.cell? (adn.add m) = some (.int .i64 y) ∧ Aside0 (w'.heap[g]? = some (.cells gc 54 (0, 0))) ∧ Aside0 (Below w.heap.size w w') ∧ Aside0 (Kept w5 w' (fun k => k = b3)) ∧ Aside0 (Kd.H (Kd.slice 3 (Kd.int .i64)) 54 w' w.heap.size (fun k => (k = b3 ∨ w5.heap.size ≤ k) ∧ ¬ H0 ≤ k) (.slice (some ⟨g, 0, none⟩) xs.length cv) xs (dm : Int) oki [vd]) ∧ Aside0 (Kd.R (Kd.int .i64) 3 w' w.heap.size oki vd row) ∧ Aside0 (H0 ≤ w'.heap.size))) (ds := [14, 16]) (bl 0 17) (by kernel_rfl) rfl rfl HS0.out (fun hHeld => ?_); refine with_tabW impl_order_rows.tab7 impl_order_rows.bits7 (fun HT_ HW_ => ?_)
          all_goals generalize wr.drew = wv at hHeld ⊢
          all_goals first | refine pA_ 0 (some 22) (bl 1 17) HT_.out (h := ?_) | refine pO_ 0 (some 22) (bl 1 17) HT_.out (h := ?_)
          all_goals first | refine pA_ 1 (some 23) (bl 2 17) HT_.out (h := ?_) | refine pO_ 1 (some 23) (bl 2 17) HT_.out (h := ?_)
          all_goals first | refine pA_ 2 (some 24) (bl 3 17) HT_.out (h := ?_) | refine pO_ 2 (some 24) (bl 3 17) HT_.out (h := ?_)
          all_goals first | refine pA_ 3 (some 25) (bl 4 17) HT_.out (h := ?_) | refine pO_ 3 (some 25) (bl 4 17) HT_.out (h := ?_)
          all_goals first | refine pA_ 4 (some 26) (bl 5 17) HT_.out (h := ?_) | refine pO_ 4 (some 26) (bl 5 17) HT_.out (h := ?_)
          all_goals first | refine pA_ 6 (some 28) (bx 5 [6] 17) HT_.out (h := ?_) | refine pO_ 6 (some 28) (bx 5 [6] 17) HT_.out (h := ?_)
          all_goals first | refine pA_ 7 (some 29) (bx 5 [6, 7] 17) HT_.out (h := ?_) | refine pO_ 7 (some 29) (bx 5 [6, 7] 17) HT_.out (h := ?_)
          all_goals first | refine pA_ 8 (some 30) (bx 5 [6, 7, 8] 17) HT_.out (h := ?_) | refine pO_ 8 (some 30) (bx 5 [6, 7, 8] 17) HT_.out (h := ?_)
          all_goals first | refine pA_ 10 (some 32) (bx 5 [6, 7, 8, 10] 17) HT_.out (h := ?_) | refine pO_ 10 (some 32) (bx 5 [6, 7, 8, 10] 17) HT_.out (h := ?_)
          all_goals first | refine tA_ 5 (some 27) (bx 9 [10] 17) HT_.out HW_.out hHeld (h := ?_) | refine pO_ 5 (some 27) (bx 9 [10] 17) HT_.out (h := ?_)
          all_goals first | refine tA_ 9 (some 31) (bl 11 17) HT_.out HW_.out hHeld (h := ?_) | refine pO_ 9 (some 31) (bl 11 17) HT_.out (h := ?_)
          all_goals first | refine pA_ 11 (some 33) (bl 12 17) HT_.out (h := ?_) | refine pO_ 11 (some 33) (bl 12 17) HT_.out (h := ?_)
          all_goals first | refine tA_ 12 (some 34) (bl 13 17) HT_.out HW_.out hHeld (h := ?_) | refine pO_ 12 (some 34) (bl 13 17) HT_.out (h := ?_)
          all_goals (refine one_ (i := 13) (N := some 35) (bl 14 17) rfl rfl (one_of HT_.out (by kernel_rfl)) (by decide) (fun K hK => ?_); have HOv := hHeld; refine value_ (by rfl) rfl (by go_simp; constructor; rfl; rfl) ?_; skip; refine hK.out _ _ ⟨pw_cell_below (below_alloc (Below.refl _ _) _) hHeld.1, pw_cell_below (below_alloc (Below.refl _ _) _) hHeld.2.1, pw_cell_below (below_alloc (Below.refl _ _) _) hHeld.2.2.1, ⟨blk_alloc hHeld.2.2.2.1.out _⟩, ⟨below_alloc hHeld.2.2.2.2.1.out _⟩, ⟨kept_below hHeld.2.2.2.2.2.1.out (below_alloc (Below.refl _ _) _)⟩, ⟨Kd.H_alloc hHeld.2.2.2.2.2.2.1.out _⟩, ⟨Kd.R_alloc hHeld.2.2.2.2.2.2.2.1.out _⟩, ⟨Nat.le_trans hHeld.2.2.2.2.2.2.2.2.out (below_alloc (Below.refl _ _) _).size⟩⟩ (fun hHeld => ?_); clear hK K; refine norm_ (a' := ?_) ?_ ?_; rotate_left; focus (show Act.put _ (some 35) _ = _; simp only [Act.put, List.setIfInBounds_toArray, List.set_cons_zero, List.set_cons_succ, i64_w, i32_w]; rfl))
          all_goals (refine last_ (i := 14) (N := some 36) (bl 15 17) rfl rfl (one_of HT_.out (by kernel_rfl)) (by decide) (fun K hK => ?_); refine Kd.R_append_step (Kd.int .i64) (w0 := w) w.heap.size (by rfl) (.tmp 27) (.tmp 35) 54 3 (.int .i64 0) 8 rfl Try.underlying54 info3 rfl (by decide) (by omega) vd row y [.int .i64 y] (fun k => oki k ∨ H0 ≤ k) (fun _ => False) rfl rfl rfl (fun _ hk => hk.elim) (fun k hk => .inr (Nat.le_trans HOv.2.2.2.2.2.2.2.2.out hk)) ?aO ?aB ?aS ?aL ?_; (case aO => exact Kd.R_mono HOv.2.2.2.2.2.2.2.1.out (fun _ hk => .inl hk)); (case aB => exact HOv.2.2.2.2.1.out); (case aS => exact HOv.2.2.2.2.1.out.size); (case aL => have h1 := HRL.out; omega); intro v1 w1 ho hb hg hat; obtain ⟨A1, c1, rfl, hlc1, hC1⟩ := Kd.R_reads ho; have hne : some g ≠ vd.ownBlock := (fun he => (HOKI.out g (HOv.2.2.2.2.2.2.2.1.out.1 g he.symm)).2 rfl); have hbg := (hg.block g (blk_lt HOv.2.2.2.1.out) hne).trans HOv.2.2.2.1.out; have hcp : w1.cell? ⟨g, dm, none⟩ = some vd := (blk_cell hbg dm).trans ((blk_cell HOv.2.2.2.1.out dm).symm.trans HOv.1); have hfp := blk_frozen hbg dm; have HKO := Aside0.mk (kept_grown HOv.2.2.2.2.2.1.out hg (fun k hk => (HOKI.out k (HOv.2.2.2.2.2.2.2.1.out.1 k hk)).1.1)); have hH1 := Kd.H_grown HOv.2.2.2.2.2.2.1.out hg (fun k hk => HOv.2.2.2.2.2.2.2.1.out.1 k hk); have AS := Aside0.mk (Kd.S_seg (okg := fun k => H0 ≤ k) (seg := [.slice A1 (row ++ [y]).length c1]) (j := 0) (x' := row ++ [y]) (okp := fun k => oki k ∨ H0 ≤ k) hH1 (by omega) hdlz (show 0 + 1 ≤ 1 from Nat.le_refl _) ⟨_, rfl, ho⟩ (fun _ hk => hk) (fun k hk => ⟨.inr (Nat.le_trans HH5.out hk), fun e => by rw [e] at hk; have := HGL.out; omega⟩)).1; have HBO := Aside0.mk hb; rw [List.length_append, List.length_singleton] at AS; clear hlc1 hC1 hat hg hb ho HOv hH1 hbg hne; refine hK.out _ _ ?_; clear hK K; refine norm_ (a' := ?_) ?_ ?_; rotate_left; focus (show Act.put _ (some 36) _ = _; simp only [Act.put, List.setIfInBounds_toArray, List.set_cons_zero, List.set_cons_succ, i64_w, i32_w]; rfl))
          all_goals first | refine pA_ 15 (some 37) (bl 16 17) HT_.out (h := ?_) | refine pO_ 15 (some 37) (bl 16 17) HT_.out (h := ?_)
          all_goals (refine last_ (i := 16) (N := none) (bl 17 17) rfl rfl (one_of HT_.out (by kernel_rfl)) (by decide) (fun K hK => ?_); refine skip_ (by rfl) rfl (by go_simp; rfl) ?_; refine hK.out _ _ ?_; clear hK K)
          all_goals refine done_ (done_of HT_.out (by kernel_rfl)) ?_
          have AS2 := Aside0.mk (show Kd.S (Kd.slice 3 (Kd.int .i64)) 54 (w1.setCell ⟨g, dm, none⟩ (.slice A1 (row.length + 1) c1)) w.heap.size (fun k => k = b3 ∨ w5.heap.size ≤ k) (.slice (some ⟨g, 0, none⟩) xs.length cv) (rowsL cs ds (m + 1)) from by
            rw [HNX.out]
            have h := AS.out
            rw [Int.toNat_natCast, show (Kd.slice 3 (Kd.int .i64)).sz = 1 from rfl, Nat.mul_one, Nat.add_zero] at h
            exact h)
          have HB2 := Aside0.mk (below_set HBO.out (g := g) (j := dm) (v := .slice A1 (row.length + 1) c1) (by have h := HBW.out; have h2 := HG5.out; omega))
          have HK2 := Aside0.mk (kept_set (j := dm) (u := .slice A1 (row.length + 1) c1) HKO.out HG5.out)
          clear AS HBO HKO hHeld
          go_wp2
          go_roundg (cs.length - (m + 1))
          case measure => omega
          case rel => exact ⟨m + 1, by omega, by omega, by first | go_num | exact congrArg (Value.int .i64) (wrap_succ m (by have := HN.out; omega)), HB2, HK2, AS2⟩
    · obtain rfl : m = cs.length := by omega
      have hmlz : ¬ ((cs.length : Int) < (cs.length : Int)) := by omega
      go_wp2
      go_ret
      exact ⟨_, rfl, by rw [HDS.out]; exact Kd.S_mono HR.out (fun _ _ => trivial), HB.out⟩

end Go.Proofs.Ytlbkoejpjpcgaaa.Q
