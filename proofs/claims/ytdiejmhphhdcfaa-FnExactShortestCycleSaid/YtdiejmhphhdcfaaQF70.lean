-- Written by a program of this session (wip/xprint.py over the kit's printer).
import Derived.Test.YtdiejmhphhdcfaaQ0
import Derived.Test.YtdiejmhphhdcfaaQF128
import Derived.Test.YtdiejmhphhdcfaaQF67
import Derived.Test.YtdiejmhphhdcfaaQF76
namespace Go.Proofs.Ytdiejmhphhdcfaa.Q
open Go.RowKit Go.Proofs.YtdiejmhphhdcfaaW.PrintWords Go.Proofs.YtdiejmhphhdcfaaW.PrintLast
set_option linter.unusedVariables false
set_option linter.unusedSimpArgs false

/-! ### impl_order_numbered: function 70 -/
def numI (cs : List S86) (ls : List Int) : List Int := ls.map fun x => (cs.getD x.toNat z86).f0
theorem numI_snoc (cs : List S86) (ls : List Int) (i : Nat) (hi : i < ls.length) : numI cs (ls.take (i + 1)) = numI cs (ls.take i) ++ [(cs.getD (ls.getD i 0).toNat z86).f0] := by
  unfold numI
  have e : ls.getD i 0 = ls[i] := by simp [List.getD_eq_getElem?_getD, List.getElem?_eq_getElem hi]
  rw [List.take_succ_eq_append_getElem hi, List.map_append, e]
  rfl
theorem numI_len (cs : List S86) (ls : List Int) : (numI cs ls).length = ls.length := by simp [numI]
set_option maxHeartbeats 8000000 in
set_option maxRecDepth 100000 in
theorem impl_order_numbered.calls (w0 : World) (p N1 N2 : Nat) (A : Option Addr) (c : Nat) (cs : List S86) (M1 M2 : Nat → Nat → Bool) (w : World) (H : OrdIn w0 w p N1 N2 cs.length (.slice A cs.length c) (nums cs) M1 M2) (A1 : Option Addr) (c1 : Nat) (ls : List Int) (hl : Kd.C (Kd.int .i64) w A1 ls.length ls) (hin : ∀ x ∈ ls, 0 ≤ x ∧ x < (cs.length : Int)) (h9 : ls.length ≤ 1000000) :
    Calls Try.prog 70 #[.pointer (some ⟨p, 0, none⟩), .slice A1 ls.length c1] w fun e w' => ∃ v : Value, e = .returned v ∧ Kd.R (Kd.int .i64) 3 w' w.heap.size (fun _ => True) v (numI cs ls) ∧ Below w.heap.size w w' := by
  have HO := Aside0.mk H
  have HL := Aside0.mk hl
  have HIN := Aside0.mk hin
  have HC := Aside0.mk (show Kd.C (Kd.int .i64) w A cs.length (nums cs) from by have h := (Kd.R_reads' H.ns).2.2; rw [nums_length] at h; exact h)
  have H9 := Aside0.mk h9
  clear H hl hin h9
  obtain ⟨n, hn⟩ : ∃ n, ls.length = n := ⟨_, rfl⟩
  have HNL := Aside0.mk hn
  rw [hn] at HL H9 ⊢
  clear hn
  go_enter Try.func70, Try.ntmps70
  go_upto_region 2 with ((with_reducible refine gate_dst (N := 8) rfl ?_); refine Kd.R_lit (Kd.int .i64) (w0 := w) w.heap.size 3 ?hg (N := 8) ?hd (xs := ([] : List Int)) (inner := []) (ok := fun _ => True) (okp := fun _ => True) ?hr ?hp (fun _ hk => hk) trivial (Below.refl _ _) (Nat.le_refl _) (by simp) ?_; (case hd => rfl); (case hg => rfl); (case hr => first | (go_simp; done) | (go_simp; rfl)); (case hp => exact (Reps.none _ _)); intro v0 w1 ho hb hg_ hnew_; clear hg_ hnew_; have HR := Aside0.mk ho; have HB := Aside0.mk hb; clear ho hb)
  go_wp2
  go_loopg [5, 11] n (fun gg s5 s11 wr => ∃ i : Nat, i ≤ n ∧ n - i ≤ gg ∧ s11 = .int .i64 i ∧ Aside0 (Below w.heap.size w wr) ∧ Aside0 (Kd.R (Kd.int .i64) 3 wr w.heap.size (fun _ => True) s5 (numI cs (ls.take i))))
  case atStart => exact ⟨0, Nat.zero_le _, by omega, rfl, HB, HR⟩
  case round =>
    clear HR HB
    obtain ⟨i, hi, hgg, rfl, HB, HR⟩ := hrel
    by_cases hlt : i < n
    · have hltz : (i : Int) < (n : Int) := by omega
      obtain ⟨ad, e1, hx⟩ := Kd.at_int HL.out (i : Int) (by omega) hltz
      cases e1
      rw [show rd ls (i : Int) = ls.getD i 0 from by simp [rd], Int.toNat_natCast] at hx
      have hmem : ls.getD i 0 ∈ ls := by have h := HNL.out; rw [List.getD_eq_getElem?_getD, List.getElem?_eq_getElem (by omega)]; exact List.getElem_mem _
      have hb := HIN.out _ hmem
      have HSN := Aside0.mk (numI_snoc cs ls i (by have h := HNL.out; omega))
      obtain ⟨x, hxx⟩ : ∃ x, ls.getD i 0 = x := ⟨_, rfl⟩
      rw [hxx] at hx hb HSN
      obtain ⟨q, rfl⟩ : ∃ q : Nat, x = (q : Int) := ⟨x.toNat, by omega⟩
      have hql : q < cs.length := by omega
      have hqz : (q : Int) < (cs.length : Int) := by omega
      replace hx := (HB.out.cell (World.block_lt_of_cell? w _ hx)).trans hx
      obtain ⟨adn, e1, hy⟩ := Kd.at_int HC.out (q : Int) (by omega) hqz
      cases e1
      rw [rd_nums cs q hql, Int.toNat_natCast] at hy
      rw [Int.toNat_natCast] at HSN
      obtain ⟨y, hyy⟩ : ∃ y, (cs.getD q z86).f0 = y := ⟨_, rfl⟩
      rw [hyy] at hy HSN
      replace hy := (HB.out.cell (World.block_lt_of_cell? w _ hy)).trans hy
      have g0 := (HO.out.step HB.out).c0
      have HXL := Aside0.mk (show (numI cs (ls.take i)).length ≤ 1000000 from by rw [numI_len, List.length_take]; have := HNL.out; have := H9.out; omega)
      clear hmem hb hxx hyy
      go_wp2_with ((with_reducible refine gate_builtin (b := .append) (xs := #[.tmp 15, .tmp 23]) rfl ?_); at_builtin; refine Kd.R_append (Kd.int .i64) (w0 := w) w.heap.size rfl (.tmp 15) (.tmp 23) 27 3 (.int .i64 0) 8 rfl Try.underlying27 info3 rfl (by decide) (by omega) u5 (numI cs (ls.take i)) y [.int .i64 y] (fun _ => True) (fun _ => False) rfl rfl rfl (fun _ hk => hk.elim) (fun _ _ => trivial) ?aO ?aB ?aS ?aL ?_; (case aO => exact (by (with_reducible repeat (first | apply Kd.R_alloc | apply Kd.R_drewN | apply Kd.R_drew)); exact HR.out)); (case aB => exact (by repeat (first | exact HB.out | apply below_alloc | apply pw_below_drewN | apply below_drew1))); (case aS => exact below_size (by repeat (first | exact HB.out | apply below_alloc | apply pw_below_drewN | apply below_drew1))); (case aL => (first | (simp only [List.length_nil]; omega) | (have := HXL.out; omega))); intro v9 w9 ho hb hg hat; have HB9 := Aside0.mk hb; have HR9 := Aside0.mk ho; clear hg hat ho hb)
      go_roundg (n - (i + 1))
      case measure => omega
      case rel => exact ⟨i + 1, by omega, by omega, by have := H9.out; first | go_num | exact congrArg (Value.int .i64) (by unfold wrap64; omega), HB9, by rw [HSN.out]; exact HR9⟩
    · obtain rfl : i = n := by omega
      have hltz : ¬ ((i : Int) < (i : Int)) := by omega
      have HE := Aside0.mk (show ls.take i = ls from by rw [← HNL.out, List.take_length])
      rw [HE.out] at HR
      go_wp2
      go_ret
      exact ⟨_, rfl, HR.out, HB.out⟩

end Go.Proofs.Ytdiejmhphhdcfaa.Q
