-- Written by a program of this session (wip/xprint.py over the kit's printer).
import Derived.Test.YtenphfagdpkjaaaQ0
import Derived.Test.YtenphfagdpkjaaaQB2
import Derived.Test.YtenphfagdpkjaaaQF39
import Derived.Test.YtenphfagdpkjaaaQF64
import Derived.Test.YtenphfagdpkjaaaQLBBaseInts
import Derived.Test.YtenphfagdpkjaaaQM2
namespace Go.Proofs.Ytenphfagdpkjaaa.Q
open Go.RowKit Go.Proofs.YtenphfagdpkjaaaW.PrintWords Go.Proofs.YtenphfagdpkjaaaW.PrintLast
set_option linter.unusedVariables false
set_option linter.unusedSimpArgs false

/-! ### laws_markPhaseS: function 29 -/
namespace LB
theorem wm64 (i : Nat) (h : i ≤ 4611686018427387904) : wrap64 ((i : Int) + 1) = ((i + 1 : Nat) : Int) := by unfold wrap64; omega
theorem mtext_loop : ∀ (u : Nat) (x : ByteArray), x.size + u ≤ 4611686018427387904 → ∃ t, Ev (fun k => laws_markText.l0 k (u : Int) x) t := by
  intro u
  induction u using Nat.strongRecOn with
  | ind u ih =>
    intro x hx
    by_cases h0 : u = 0
    · subst h0
      refine ⟨(⟨#[109]⟩ : ByteArray) ++ x, Ev.step (fun q => by rw [laws_markText.l0]) ?_⟩
      simp only [show ¬ (((0 : Nat) : Int) > 0) by omega, if_false, show 1 + x.size ≤ 9223372036854775807 by omega, if_true]
      exact Ev.now _
    · have hd : Int.tdiv (u : Int) 10 = ((u / 10 : Nat) : Int) := by
        rw [Int.tdiv_eq_ediv_of_nonneg (by omega)]
        omega
      have hw : wrap64 (((u / 10 : Nat) : Int)) = ((u / 10 : Nat) : Int) := by unfold wrap64; omega
      obtain ⟨y, hy⟩ : ∃ y : List Int, [(wrap64 (48 + (Int.tmod (u : Int) 10))) % 256] = y := ⟨_, rfl⟩
      have hs : (strOfNums y).size = 1 := by rw [← hy]; rfl
      obtain ⟨t, ht⟩ := ih (u / 10) (by omega) (strOfNums y ++ x) (by rw [ByteArray.size_append, hs]; omega)
      refine ⟨t, Ev.step (fun q => by rw [laws_markText.l0]) ?_⟩
      simp only [show (u : Int) > 0 by omega, if_true, Option.bind_some, hy, hs, show 1 + x.size ≤ 9223372036854775807 by omega, hd, hw]
      exact ht
theorem mtext_ev (i : Nat) (hi : i ≤ 1048577) : ∃ t, Ev (fun k => laws_markText.f k (1 + (i : Int))) t := by
  obtain ⟨t, ht⟩ := mtext_loop (1 + i) ⟨#[]⟩ (by show 0 + (1 + i) ≤ _; omega)
  refine ⟨t, ?_⟩
  unfold laws_markText.f
  simp only [show ¬ (1 + (i : Int) ≤ 0) by omega, if_false]
  rw [show ((1 + i : Nat) : Int) = 1 + (i : Int) by omega] at ht
  exact ht
/-- The text of the mark i + 1. -/
noncomputable def mty (i : Nat) : ByteArray := if h : i ≤ 1048577 then (mtext_ev i h).choose else ⟨#[]⟩
theorem mty_ev (i : Nat) (hi : i ≤ 1048577) : Ev (fun k => laws_markText.f k (1 + (i : Int))) (mty i) := by
  unfold mty
  rw [dif_pos hi]
  exact (mtext_ev i hi).choose_spec
/-- The marks of phases, of which j stand ahead. -/
noncomputable def mkPH : Nat → List S64 → List S64
  | _, [] => []
  | j, x :: t => ⟨mty j, ints (2 + (j : Int)) x.f1.length⟩ :: mkPH (j + (1 + x.f1.length)) t
def totPH : List S64 → Nat
  | [] => 0
  | x :: t => (1 + x.f1.length) + totPH t
theorem mkPH_len : ∀ (j : Nat) (l : List S64), (mkPH j l).length = l.length
  | _, [] => rfl
  | j, x :: t => by simp [mkPH, mkPH_len _ t]
theorem totPH_le (B : Nat) : ∀ (l : List S64), (∀ r ∈ l, r.f1.length ≤ B) → totPH l ≤ l.length * (1 + B)
  | [], _ => Nat.zero_le _
  | r :: t, h => by
    have h1 := totPH_le B t (fun x hx => h x (List.mem_cons_of_mem _ hx))
    have h2 := h r List.mem_cons_self
    simp only [totPH, List.length_cons, Nat.succ_mul]
    omega
theorem mkPH_snoc : ∀ (j : Nat) (l : List S64) (x : S64), mkPH j (l ++ [x]) = mkPH j l ++ [⟨mty (j + totPH l), ints (2 + ((j + totPH l : Nat) : Int)) x.f1.length⟩]
  | j, [], x => by simp [mkPH, totPH]
  | j, q :: t, x => by
    simp only [List.cons_append, mkPH, totPH, mkPH_snoc _ t x]
    rw [show j + (1 + q.f1.length) + totPH t = j + (1 + q.f1.length + totPH t) by omega]
theorem totPH_snoc : ∀ (l : List S64) (x : S64), totPH (l ++ [x]) = totPH l + (1 + x.f1.length)
  | [], x => by simp [totPH]
  | q :: t, x => by simp only [List.cons_append, totPH, totPH_snoc t x]; omega
theorem eqPhaseS_ev (a : List S64) (ha : a.length ≤ 1048576) (hr : ∀ r ∈ a, r.f1.length ≤ 1048576) : Ev (fun k => laws_eqPhaseS.f k a a) true := by
  unfold laws_eqPhaseS.f
  simp only [if_true]
  exact Ev.down a.length (fun k i => laws_eqPhaseS.l0 k a a (i : Int)) (fun _ => true)
    (by
      refine Ev.step (fun k => by rw [laws_eqPhaseS.l0]) ?_
      simp only [Int.lt_irrefl, if_false]
      exact Ev.now _)
    (fun i hi ih => by
      refine Ev.step (fun k => by rw [laws_eqPhaseS.l0]) ?_
      have a3 : (i : Int) < (a.length : Int) := by omega
      have a4 : (0 : Int) ≤ (i : Int) := by omega
      have e : rd_T64 a (i : Int) = a[i] := by simp [rd_T64, List.getD_eq_getElem?_getD, List.getElem?_eq_getElem hi]
      simp only [a3, a4, if_true, w64 i (by omega), e]
      have h1 : Ev (fun k => laws_eqPhase.f k a[i].f0 a[i].f1 a[i].f0 a[i].f1) true := by
        unfold laws_eqPhase.f
        simp only [if_true]
        refine Ev.bind (eqIntS_ev a[i].f1 (hr _ (List.getElem_mem hi))) ?_
        simp only [if_true]
        exact Ev.now _
      refine Ev.bind h1 ?_
      simp only [if_true]
      exact ih) 0 (Nat.zero_le _)
theorem heldPH_l0 (B : Nat) : ∀ (post pre : List S64) (j : Nat), (∀ r ∈ post, r.f1.length ≤ B) → j + totPH post ≤ 1048000 → (pre ++ post).length ≤ 1048576 → Ev (fun q => laws_heldPhaseS.l0 q (pre ++ mkPH j post) (1 + (j : Int)) (pre.length : Int)) (1 + ((j + totPH post : Nat) : Int))
  | [], pre, j, _, hk, hl => by
    refine Ev.step (fun q => by rw [laws_heldPhaseS.l0]) ?_
    simp only [mkPH, List.append_nil, Int.lt_irrefl, if_false, totPH, Nat.add_zero]
    exact Ev.now _
  | x :: t, pre, j, hr, hk, hl => by
    refine Ev.step (fun q => by rw [laws_heldPhaseS.l0]) ?_
    have hlen : (pre ++ mkPH j (x :: t)).length = pre.length + (t.length + 1) := by simp [mkPH, mkPH_len]
    have a3 : (pre.length : Int) < ((pre ++ mkPH j (x :: t)).length : Int) := by rw [hlen]; omega
    have a4 : (0 : Int) ≤ (pre.length : Int) := by omega
    have hl2 : pre.length + (t.length + 1) ≤ 1048576 := by simpa using hl
    simp only [totPH] at hk ⊢
    have e : rd_T64 (pre ++ mkPH j (x :: t)) (pre.length : Int) = ⟨mty j, ints (2 + (j : Int)) x.f1.length⟩ := by simp [rd_T64, mkPH, List.getD_eq_getElem?_getD]
    have hw : wrap64 (1 + (j : Int) + 1) = 2 + (j : Int) := by unfold wrap64; omega
    simp only [a3, a4, if_true, w64 pre.length (by omega), e, hw]
    refine Ev.bind (mty_ev j (by omega)) ?_
    simp only [if_true]
    refine Ev.bind (heldIntS_ev x.f1.length (2 + (j : Int)) (by omega) (by omega) (by omega)) ?_
    have h3 : ¬ (2 + (j : Int) + (x.f1.length : Int)) < 0 := by omega
    simp only [h3, if_false]
    have ih := heldPH_l0 B t (pre ++ [⟨mty j, ints (2 + (j : Int)) x.f1.length⟩]) (j + (1 + x.f1.length)) (fun y hy => hr y (List.mem_cons_of_mem _ hy)) (by omega) (by simp; omega)
    have e2 : pre ++ [(⟨mty j, ints (2 + (j : Int)) x.f1.length⟩ : S64)] ++ mkPH (j + (1 + x.f1.length)) t = pre ++ mkPH j (x :: t) := by simp [mkPH]
    rw [e2] at ih
    have e3 : ((pre ++ [(⟨mty j, ints (2 + (j : Int)) x.f1.length⟩ : S64)]).length : Int) = ((pre.length + 1 : Nat) : Int) := by simp
    rw [e3, show 1 + ((j + (1 + x.f1.length) : Nat) : Int) = 2 + (j : Int) + (x.f1.length : Int) by omega, show j + (1 + x.f1.length) + totPH t = j + (1 + x.f1.length + totPH t) by omega] at ih
    exact ih
theorem heldPhaseS_ev (a : List S64) (hl : a.length ≤ 1000) (hr : ∀ r ∈ a, r.f1.length ≤ 1000) : Ev (fun q => laws_heldPhaseS.f q (mkPH 0 a) 1) (1 + (totPH a : Int)) := by
  unfold laws_heldPhaseS.f
  have h1 := totPH_le 1000 a hr
  have h2 : a.length * (1 + 1000) ≤ 1000 * (1 + 1000) := Nat.mul_le_mul_right _ hl
  have h := heldPH_l0 1000 a [] 0 hr (by omega) (by simp; omega)
  simpa using h
end LB
def Frozen (p : Prop) : Prop := p
theorem unfreeze {p : Prop} (h : Frozen p) : p := h
set_option maxHeartbeats 8000000 in
set_option maxRecDepth 100000 in
theorem laws_markPhaseS.calls (ok : Nat → Prop) (v : Value) (l : List S64) (w0 w : World) (hB : Below w0.heap.size w0 w) (hS : Kd.S k64 64 w w0.heap.size ok v l) (hl : l.length ≤ 1000) (hr : ∀ r ∈ l, r.f1.length ≤ 1000) :
    Calls Try.prog 29 #[v, .int .i64 1] w fun e w' => e = .returned (.int .i64 (1 + (LB.totPH l : Int))) ∧ Kd.S k64 64 w' w0.heap.size (fun _ => True) v (LB.mkPH 0 l) ∧ Below w0.heap.size w0 w' := by
  obtain ⟨A, c, rfl, hc, hC⟩ := Kd.S_reads hS
  have HB := Aside0.mk hB
  have HS := Aside0.mk (Kd.S_mono hS (fun _ _ => trivial) : Kd.S k64 64 w w0.heap.size (fun _ => True) (.slice A l.length c) l)
  have HR := Aside0.mk hr
  have HL := Aside0.mk hl
  clear hC hB hS hr hl hc
  obtain ⟨n, hn⟩ : ∃ n, l.length = n := ⟨_, rfl⟩
  have HN := Aside0.mk hn
  rw [hn] at HS HL ⊢
  clear hn
  have HS := Aside0.mk (show Kd.S k64 64 w w0.heap.size (fun _ => True) (.slice A n c) (LB.mkPH 0 (l.take 0) ++ l.drop 0) from HS.out)
  go_enter Try.func29, Try.ntmps29
  go_wp2
  go_loopg [1, 5] n (fun gg s1 s5 wr => ∃ i : Nat, i ≤ n ∧ n - i ≤ gg ∧ s5 = .int .i64 i ∧ s1 = .int .i64 (1 + (LB.totPH (l.take i) : Int)) ∧ Aside0 (Below w0.heap.size w0 wr) ∧ Aside0 (Kd.S k64 64 wr w0.heap.size (fun _ => True) (.slice A n c) (LB.mkPH 0 (l.take i) ++ l.drop i)))
  case atStart => exact ⟨0, Nat.zero_le _, by omega, rfl, rfl, HB, HS⟩
  case round =>
    clear HB HS
    obtain ⟨i, hi, hgg, rfl, rfl, HB, HS⟩ := hrel
    by_cases hlt : i < n
    · have hltz : (i : Int) < (n : Int) := by omega
      have hil : i < l.length := by have := HN.out; omega
      have hxl : (LB.mkPH 0 (l.take i) ++ l.drop i).length = n := by have := HN.out; rw [List.length_append, LB.mkPH_len, List.length_take, List.length_drop]; omega
      obtain ⟨g, cap, hv, _, _, _⟩ := Kd.S_form HS.out (by rw [hxl]; omega)
      injection hv with hv1 hv2 hv3
      subst hv1
      clear hv2 hv3
      obtain ⟨oki, cc, hcl, hM, hcells, hfr, hoki, hH⟩ := Kd.S_elem HS.out z64 (i : Int) (by omega) hltz
      have hget : (LB.mkPH 0 (l.take i) ++ l.drop i).getD i z64 = l[i] := by
        rw [List.getD_eq_getElem?_getD, List.getElem?_append_right (by rw [LB.mkPH_len, List.length_take]; omega), LB.mkPH_len, List.length_take, show i - min i l.length = 0 by omega, List.getElem?_drop, Nat.add_zero, List.getElem?_eq_getElem hil]
        rfl
      rw [Int.toNat_natCast, hget] at hM
      obtain ⟨vd, rfl, hRd⟩ := k64_openM hM
      have hlen := HR.out _ (List.getElem_mem hil)
      have htk : l.take (i + 1) = l.take i ++ [l[i]] := List.take_succ_eq_append_getElem hil
      have htot := LB.totPH_le 1000 (l.take i) (fun r hr => HR.out r (List.mem_of_mem_take hr))
      have htl : (l.take i).length * (1 + 1000) ≤ 1000 * (1 + 1000) := Nat.mul_le_mul_right _ (by rw [List.length_take]; have := HL.out; omega)
      have HMK := Aside0.mk (show (LB.mkPH 0 (l.take i) ++ l.drop i).set i ⟨LB.mty (LB.totPH (l.take i)), LB.ints (2 + (LB.totPH (l.take i) : Int)) l[i].f1.length⟩ = LB.mkPH 0 (l.take (i + 1)) ++ l.drop (i + 1) from by
        rw [htk, LB.mkPH_snoc, List.set_append_right _ _ (by rw [LB.mkPH_len, List.length_take]; omega), LB.mkPH_len, List.length_take, show i - min i l.length = 0 by omega, List.drop_eq_getElem_cons hil, List.set_cons_zero, List.append_assoc, Nat.zero_add]
        rfl)
      have HTOT := Aside0.mk (show (LB.totPH (l.take (i + 1)) : Int) = (LB.totPH (l.take i) : Int) + 1 + (l[i].f1.length : Int) from by rw [htk, LB.totPH_snoc]; omega)
      obtain ⟨q, hq⟩ : ∃ q, LB.totPH (l.take i) = q := ⟨_, rfl⟩
      rw [hq] at HMK HTOT htot ⊢
      have hq1 : q ≤ 1001000 := by omega
      obtain ⟨kt, hkt⟩ := Ev.rounds (LB.mty_ev q (by omega))
      obtain ⟨kk, hkk⟩ := Ev.rounds (LB.markIntS_ev l[i].f1 (2 + (q : Int)) (by omega) (by omega) (by omega))
      have HKT := Aside0.mk hkt
      have HKK := Aside0.mk hkk
      have HQ1 := Aside0.mk hq1
      have HXL := Aside0.mk hxl
      obtain ⟨x, hx⟩ : ∃ x, l[i] = x := ⟨_, rfl⟩
      rw [hx] at HMK HTOT HKK hRd hM hH
      obtain ⟨xs, hxs⟩ : ∃ xs, LB.mkPH 0 (l.take i) ++ l.drop i = xs := ⟨_, rfl⟩
      rw [hxs] at HMK hH HXL
      obtain ⟨tx, htx⟩ : ∃ tx, LB.mty q = tx := ⟨_, rfl⟩
      rw [htx] at HMK HKT
      have HH := Aside0.mk hH
      have HRD := Aside0.mk hRd
      have HIL := Aside0.mk hltz
      clear hcells hget hRd hH hkk hkt hlen htk htot htl hoki hcl hq hq1 hxl hx hxs htx hM hfr HS
      have HWR := Aside0.mk (show wrap64 (1 + (q : Int) + 1) = 2 + (q : Int) from by have := HQ1.out; unfold wrap64; omega)
      have HLT := Aside0.mk hlt
      go_wp2_with (first | (go_at_call 64; (refine (laws_markText.calls kt _ tx _ HKT.out).mono ?_); rintro e w1 ⟨rfl, hb⟩; have HH := Aside0.mk (Kd.H_below HH.out hb); have HRD := Aside0.mk (Kd.R_below HRD.out hb); have HB := Aside0.mk (below_step HB.out hb); clear hb) | ((with_reducible refine gate_store (t := 9) (p := 17) rfl ?_); refine unfreeze ?_))
      unfold Frozen
      refine Kd.H_store k64 (w0 := w0) w0.heap.size ?a1 ?a2 9 (.tmp 17) (.tmp 15) ?a3 64 (g := g) (n := n) (cap := c) (o' := i * 2) (i : Int) 0 xs (⟨tx, x.f1⟩ : S64) (.string tx) [.string tx] [.string x.f0, vd] (fun _ => True) oki oki ?ha ?hof ?b1 ?b2 ?b3 ?b4 ?b5 ?b6 ?b7 ?b8 ?b9 ?c1 ?c2 ?_
      case a1 => rfl
      case a2 => rfl
      case a3 => rfl
      case ha => rfl
      case hof => (show i * 2 = (i : Int).toNat * 2 + 0; rw [Int.toNat_natCast]; rfl)
      case b1 => rfl
      case b2 => rfl
      case b3 => kernel_rfl
      case b4 => simp [Value.oneCell']
      case b5 => exact HH.out
      case b6 => omega
      case b7 => exact HIL.out
      case b8 => (show 0 + 1 ≤ 2; omega)
      case b9 => exact (show k64.M _ _ _ (⟨tx, x.f1⟩ : S64) [.string tx, vd] from k64_mkM _ _ _ _ HRD.out)
      case c1 => exact (fun _ hk => hk)
      case c2 => exact HB.out
      intro w2 hs hb hg
      have HB := Aside0.mk hb
      rw [Int.toNat_natCast] at hs
      clear hb hg HH HRD
      obtain ⟨oki2, cc2, hcl2, hM2, hcells2, hfr2, hoki2, hH2⟩ := Kd.S_elem hs z64 (i : Int) (by omega) HIL.out
      rw [Int.toNat_natCast, show (xs.set i (⟨tx, x.f1⟩ : S64)).getD i z64 = ⟨tx, x.f1⟩ from by rw [List.getD_eq_getElem?_getD, List.getElem?_set_self (by rw [HXL.out]; exact HLT.out)]; rfl] at hM2
      obtain ⟨vd2, rfl, hRd2⟩ := k64_openM hM2
      have hx1 : w2.cell? ⟨g, i * 2 + 1, none⟩ = some vd2 := by
        have := hcells2 1 vd2 rfl
        rw [Int.toNat_natCast] at this
        exact this
      have HH := Aside0.mk hH2
      have HRD := Aside0.mk hRd2
      clear hcells2 hfr2 hoki2 hcl2 hM2 hH2 hRd2 hs
      go_wp2_with (go_at_call 30; (try rw [HWR.out]); (refine (laws_markIntS.calls kk oki2 vd2 x.f1 (2 + (q : Int)) _ _ w0 w2 HB.out HRD.out HKK.out).mono ?_); rintro e w3 ⟨rfl, hy, hb, hkp⟩; have HY := Aside0.mk hy; have HB2 := Aside0.mk hb; have HKP := Aside0.mk hkp; clear hy hb hkp)
      have HS2 := Aside0.mk (Kd.H_back (Kd.H_step HH.out (fun k _ hn hlt => HKP.out.2 k hlt hn)) (okp := fun k => some k = vd2.ownBlock) (x' := (⟨tx, LB.ints (2 + (q : Int)) x.f1.length⟩ : S64)) (k64_mkM _ _ _ _ (Kd.R_tight rfl HY.out)) (fun k hk => HRD.out.1 k hk.symm))
      rw [Int.toNat_natCast, List.set_set, HMK.out] at HS2
      go_roundg (n - (i + 1))
      case measure => omega
      case rel => exact ⟨i + 1, by omega, by omega, by have := HL.out; first | go_num | exact congrArg (Value.int .i64) (by unfold wrap64; omega), by rw [HTOT.out]; exact congrArg (Value.int .i64) (by omega), HB2, HS2⟩
    · obtain rfl : i = n := by omega
      have hltz : ¬ ((i : Int) < (i : Int)) := by omega
      have HE := Aside0.mk (show l.take i = l from by rw [← HN.out, List.take_length])
      have HD := Aside0.mk (show l.drop i = [] from by rw [← HN.out, List.drop_length])
      rw [HE.out, HD.out, List.append_nil] at HS
      rw [HE.out]
      go_wp2
      go_ret
      exact ⟨rfl, HS.out, HB.out⟩
namespace LB
theorem mtext_any (k : Int) (hk : k ≤ 1000000000) : ∃ t, Ev (fun q => laws_markText.f q k) t := by
  by_cases h0 : k ≤ 0
  · refine ⟨⟨#[109, 48]⟩, ?_⟩
    unfold laws_markText.f
    simp only [h0, if_true]
    exact Ev.now _
  · obtain ⟨t, ht⟩ := mtext_loop k.toNat ⟨#[]⟩ (by show 0 + k.toNat ≤ _; omega)
    refine ⟨t, ?_⟩
    unfold laws_markText.f
    simp only [h0, if_false]
    rw [show ((k.toNat : Nat) : Int) = k by omega] at ht
    exact ht
def totTo (l : List S64) (i : Nat) : Nat := totPH (l.take i)
theorem totTo_succ (l : List S64) (i : Nat) (hi : i < l.length) : totTo l (i + 1) = totTo l i + (1 + (l.getD i z64).f1.length) := by
  unfold totTo
  rw [List.take_succ_eq_append_getElem hi, totPH_snoc, List.getD_eq_getElem?_getD, List.getElem?_eq_getElem hi]
  rfl
theorem totPH_app : ∀ (a b : List S64), totPH (a ++ b) = totPH a + totPH b
  | [], b => by simp [totPH]
  | x :: r, b => by rw [List.cons_append, totPH, totPH, totPH_app r b]; omega
theorem totTo_le (l : List S64) (i : Nat) : totTo l i ≤ totPH l := by
  have h := totPH_app (l.take i) (l.drop i)
  rw [List.take_append_drop] at h
  unfold totTo
  omega
theorem mem_le_tot : ∀ (l : List S64) (i : Nat), i < l.length → 1 + (l.getD i z64).f1.length ≤ totPH l
  | [], i, h => by simp at h
  | x :: r, 0, _ => by simp [totPH]
  | x :: r, i + 1, h => by
    have := mem_le_tot r i (by simpa using h)
    rw [totPH]
    simp only [List.getD_cons_succ]
    omega
end LB
theorem kept_below {w W w1 : World} {q : Nat → Prop} (hk : Kept w W q) (hb : Below W.heap.size W w1) : Kept w w1 q := hk.below hb
set_option maxHeartbeats 8000000 in
set_option maxRecDepth 100000 in
/-- The marks of phases from k0 on: where they end, and what they leave alone. -/
theorem laws_markPhaseS.callsA (ok : Nat → Prop) (v : Value) (l : List S64) (k0 : Int) (w0 w : World) (hB : Below w0.heap.size w0 w) (hS : Kd.S k64 64 w w0.heap.size ok v l) (h0 : 0 ≤ k0) (h1 : k0 ≤ 8388608) (hl : l.length ≤ 1048576) (ht : LB.totPH l ≤ 4194304) :
    Calls Try.prog 29 #[v, .int .i64 k0] w fun e w' => e = .returned (.int .i64 (k0 + (LB.totPH l : Int))) ∧ Below w0.heap.size w0 w' ∧ Kept w w' ok := by
  obtain ⟨A, c, rfl, hc, hC⟩ := Kd.S_reads hS
  have HB := Aside0.mk hB
  have HS0 := Aside0.mk hS
  have HL := Aside0.mk hl
  have HT := Aside0.mk ht
  have HK := Aside0.mk (Kept.refl w ok)
  clear hC hB hS hl hc ht
  obtain ⟨n, hn⟩ : ∃ n, l.length = n := ⟨_, rfl⟩
  have HN := Aside0.mk hn
  rw [hn] at HS0 HL ⊢
  clear hn
  have HE := Aside0.mk (show LB.totTo l n = LB.totPH l from by unfold LB.totTo; rw [← HN.out, List.take_length])
  go_enter Try.func29, Try.ntmps29
  go_wp2
  go_loopg [1, 5] n (fun gg s1 s5 wr => ∃ (i : Nat) (ys : List S64), i ≤ n ∧ n - i ≤ gg ∧ s5 = .int .i64 i ∧ s1 = .int .i64 (k0 + (LB.totTo l i : Int)) ∧ Aside0 (ys.length = n) ∧ Aside0 (∀ j, (ys.getD j z64).f1.length = (l.getD j z64).f1.length) ∧ Aside0 (Below w0.heap.size w0 wr) ∧ Aside0 (Kd.S k64 64 wr w0.heap.size ok (.slice A n c) ys) ∧ Aside0 (Kept w wr ok))
  case atStart => exact ⟨0, l, Nat.zero_le _, by omega, rfl, by first | rfl | (rw [show LB.totTo l 0 = 0 from rfl]; exact congrArg (Value.int .i64) (by omega)), HN, ⟨fun _ => rfl⟩, HB, HS0, HK⟩
  case round =>
    clear HB HS0 HK
    obtain ⟨i, xs, hi, hgg, rfl, rfl, HXL, HLE, HB, HS, HK⟩ := hrel
    by_cases hlt : i < n
    · have hltz : (i : Int) < (n : Int) := by omega
      obtain ⟨g, cap, hv, _, _, _⟩ := Kd.S_form HS.out (by rw [HXL.out]; omega)
      injection hv with hv1 hv2 hv3
      subst hv1
      clear hv2 hv3
      have hgok : ok g := HS.out.elim fun f hf => hf.1 g (by simp [Value.ownBlock])
      obtain ⟨oki, cc, hcl, hM, hcells, hfr, hoki, hH⟩ := Kd.S_elem HS.out z64 (i : Int) (by omega) hltz
      rw [Int.toNat_natCast] at hM
      have HLI := Aside0.mk (HLE.out i)
      obtain ⟨x, hx⟩ : ∃ x, xs.getD i z64 = x := ⟨_, rfl⟩
      rw [hx] at hM HLI
      obtain ⟨vd, rfl, hRd⟩ := k64_openM hM
      obtain ⟨q, hq⟩ : ∃ q, LB.totTo l i = q := ⟨_, rfl⟩
      have hq1 : q ≤ 4194304 := by have h1 := LB.totTo_le l i; have h2 := HT.out; omega
      have hxm : x.f1.length ≤ 4194304 := by have h1 := LB.mem_le_tot l i (by have := HN.out; omega); have h2 := HT.out; have h3 := HLI.out; omega
      have HTOT := Aside0.mk (show (LB.totTo l (i + 1) : Int) = (q : Int) + 1 + (x.f1.length : Int) from by have h1 := LB.totTo_succ l i (by have := HN.out; omega); have h3 := HLI.out; omega)
      rw [hq]
      obtain ⟨tx, htx⟩ := LB.mtext_any (k0 + (q : Int)) (by omega)
      obtain ⟨kt, hkt⟩ := Ev.rounds htx
      obtain ⟨kk, hkk⟩ := Ev.rounds (LB.markIntS_ev x.f1 (k0 + (q : Int) + 1) (by omega) (by omega) (by omega))
      have HKT := Aside0.mk hkt
      have HKK := Aside0.mk hkk
      have HQ1 := Aside0.mk hq1
      have HH := Aside0.mk hH
      have HRD := Aside0.mk hRd
      have HIL := Aside0.mk hltz
      have HGO := Aside0.mk hgok
      have HXM := Aside0.mk hxm
      have HX := Aside0.mk hx
      clear hcells hRd hH hkk hkt htx hoki hcl hq hq1 hM hfr HS hgok hxm hx
      have HWR := Aside0.mk (show wrap64 (k0 + (q : Int) + 1) = k0 + (q : Int) + 1 from by have := HQ1.out; unfold wrap64; omega)
      have HLT := Aside0.mk hlt
      go_wp2_with (first | (go_at_call 64; (refine (laws_markText.calls kt _ tx _ HKT.out).mono ?_); rintro e w1 ⟨rfl, hb⟩; have HH := Aside0.mk (Kd.H_below HH.out hb); have HRD := Aside0.mk (Kd.R_below HRD.out hb); have HK := Aside0.mk (HK.out.below hb); have HB := Aside0.mk (below_step HB.out hb); clear hb) | ((with_reducible refine gate_store (t := 9) (p := 17) rfl ?_); refine unfreeze ?_))
      unfold Frozen
      refine Kd.H_store k64 (w0 := w0) w0.heap.size ?a1 ?a2 9 (.tmp 17) (.tmp 15) ?a3 64 (g := g) (n := n) (cap := c) (o' := i * 2) (i : Int) 0 xs (⟨tx, x.f1⟩ : S64) (.string tx) [.string tx] [.string x.f0, vd] ok oki oki ?ha ?hof ?b1 ?b2 ?b3 ?b4 ?b5 ?b6 ?b7 ?b8 ?b9 ?c1 ?c2 ?_
      case a1 => rfl
      case a2 => rfl
      case a3 => rfl
      case ha => rfl
      case hof => (show i * 2 = (i : Int).toNat * 2 + 0; rw [Int.toNat_natCast]; rfl)
      case b1 => rfl
      case b2 => rfl
      case b3 => kernel_rfl
      case b4 => simp [Value.oneCell']
      case b5 => exact HH.out
      case b6 => omega
      case b7 => exact HIL.out
      case b8 => (show 0 + 1 ≤ 2; omega)
      case b9 => exact (show k64.M _ _ _ (⟨tx, x.f1⟩ : S64) [.string tx, vd] from k64_mkM _ _ _ _ HRD.out)
      case c1 => exact (fun _ hk => hk)
      case c2 => exact HB.out
      intro w2 hs hb hg
      have HB := Aside0.mk hb
      have HK := Aside0.mk (Kept.of_grown hg HK.out (fun k hk => .inl (by injection hk with hk; exact hk ▸ HGO.out)))
      rw [Int.toNat_natCast] at hs
      clear hb hg HH HRD
      obtain ⟨oki2, cc2, hcl2, hM2, hcells2, hfr2, hoki2, hH2⟩ := Kd.S_elem hs z64 (i : Int) (by omega) HIL.out
      rw [Int.toNat_natCast, show (xs.set i (⟨tx, x.f1⟩ : S64)).getD i z64 = ⟨tx, x.f1⟩ from by rw [List.getD_eq_getElem?_getD, List.getElem?_set_self (by rw [HXL.out]; exact HLT.out)]; rfl] at hM2
      obtain ⟨vd2, rfl, hRd2⟩ := k64_openM hM2
      have hx1 : w2.cell? ⟨g, i * 2 + 1, none⟩ = some vd2 := by
        have := hcells2 1 vd2 rfl
        rw [Int.toNat_natCast] at this
        exact this
      have HH := Aside0.mk hH2
      have HRD := Aside0.mk hRd2
      have HOI := Aside0.mk hoki2
      clear hcells2 hfr2 hoki2 hcl2 hM2 hH2 hRd2 hs
      go_wp2_with (go_at_call 30; (try rw [HWR.out]); (refine (laws_markIntS.calls kk oki2 vd2 x.f1 (k0 + (q : Int) + 1) _ _ w0 w2 HB.out HRD.out HKK.out).mono ?_); rintro e w3 ⟨rfl, hy, hb, hkp⟩; have HY := Aside0.mk hy; have HB2 := Aside0.mk hb; have HKP := Aside0.mk hkp; clear hy hb hkp)
      have HS2 := Aside0.mk (Kd.H_back (Kd.H_step HH.out (fun k _ hn hlt => HKP.out.2 k hlt hn)) (okp := fun k => some k = vd2.ownBlock) (x' := (⟨tx, LB.ints (k0 + (q : Int) + 1) x.f1.length⟩ : S64)) (k64_mkM _ _ _ _ (Kd.R_tight rfl HY.out)) (fun k hk => HRD.out.1 k hk.symm))
      rw [Int.toNat_natCast, List.set_set] at HS2
      have HK2 := Aside0.mk (HK.out.then_ HKP.out (fun k hk => .inl (HOI.out k hk).1))
      go_roundg (n - (i + 1))
      case measure => omega
      case rel =>
        refine ⟨i + 1, _, by omega, by omega, by have := HL.out; first | go_num | exact congrArg (Value.int .i64) (by unfold wrap64; omega), by rw [HTOT.out]; exact congrArg (Value.int .i64) (by omega), ⟨by rw [List.length_set]; exact HXL.out⟩, ⟨fun j => ?_⟩, HB2, HS2, HK2⟩
        by_cases e : j = i
        · subst e
          rw [List.getD_eq_getElem?_getD, List.getElem?_set_self (by rw [HXL.out]; exact HLT.out), Option.getD_some, ← HLI.out]
          exact LB.ints_length _ _
        · rw [List.getD_eq_getElem?_getD, List.getElem?_set_ne (by omega), ← List.getD_eq_getElem?_getD]
          exact HLE.out j
    · obtain rfl : i = n := by omega
      have hltz : ¬ ((i : Int) < (i : Int)) := by omega
      rw [HE.out]
      go_wp2
      go_ret
      exact ⟨rfl, HB.out, HK.out⟩

end Go.Proofs.Ytenphfagdpkjaaa.Q
