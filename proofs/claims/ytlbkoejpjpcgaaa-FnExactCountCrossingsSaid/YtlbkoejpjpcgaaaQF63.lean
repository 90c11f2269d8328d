-- Written by a program of this session (wip/xprint.py over the kit's printer).
import Derived.Test.YtlbkoejpjpcgaaaQ0
import Derived.Test.YtlbkoejpjpcgaaaQF104
import Derived.Test.YtlbkoejpjpcgaaaQF106
import Derived.Test.YtlbkoejpjpcgaaaQP
import Derived.Test.YtlbkoejpjpcgaaaQV2
namespace Go.Proofs.Ytlbkoejpjpcgaaa.Q
open Go.RowKit Go.Proofs.YtlbkoejpjpcgaaaW.PrintWords Go.Proofs.YtlbkoejpjpcgaaaW.PrintLast
set_option linter.unusedVariables false
set_option linter.unusedSimpArgs false

/-! ### spec_l5Arranged: function 63 -/
/-- A row's numbers from i on: each stands in 'want', none stands ahead of its place. -/
def arRow (k : Nat) (want row : List Int) : Nat → Nat → Option Bool
  | 0, _ => some true
  | m + 1, i => (spec_l5At.f k want (row.getD i 0)).bind fun a => if a < 0 then some false else (spec_l1Has.f k (row.take i) (row.getD i 0)).bind fun b => if b = true then some false else arRow k want row m (i + 1)
def arAll (k : Nat) (want rows : List (List Int)) : Nat → Nat → Option Bool
  | 0, _ => some true
  | m + 1, i => if (rows.getD i []).length = (want.getD i []).length then (arRow k (want.getD i []) (rows.getD i []) (rows.getD i []).length 0).bind fun b => if b = true then arAll k want rows m (i + 1) else some false else some false
def spec_l5Arranged.f (k : Nat) (want rows : List (List Int)) : Option Bool := if rows.length ≤ 4000000 ∧ (∀ r ∈ rows, r.length ≤ 4000000) then (if rows.length = want.length then arAll k want rows rows.length 0 else some false) else none
theorem arRow_mono (k : Nat) (want row : List Int) : ∀ m i, LeO (arRow k want row m i) (arRow (k + 1) want row m i)
  | 0, _ => LeO.refl _
  | m + 1, i => LeO.bind (spec_l5At.mono _ _ k) (fun a => LeO.ite (LeO.refl _) (LeO.bind (spec_l1Has.mono _ _ k) (fun b => LeO.ite (LeO.refl _) (arRow_mono k want row m (i + 1)))))
theorem arAll_mono (k : Nat) (want rows : List (List Int)) : ∀ m i, LeO (arAll k want rows m i) (arAll (k + 1) want rows m i)
  | 0, _ => LeO.refl _
  | m + 1, i => LeO.ite (LeO.bind (arRow_mono k _ _ _ _) (fun b => LeO.ite (arAll_mono k want rows m (i + 1)) (LeO.refl _))) (LeO.refl _)
theorem spec_l5Arranged.mono : ∀ a0 a1 k, LeO (spec_l5Arranged.f k a0 a1) (spec_l5Arranged.f (k + 1) a0 a1) := fun a0 a1 k => LeO.ite (LeO.ite (arAll_mono k a0 a1 _ _) (LeO.refl _)) (LeO.refl _)
set_option maxHeartbeats 8000000 in
set_option maxRecDepth 100000 in
theorem spec_l5Arranged.calls (k : Nat) (A0 : Option Addr) (c0 : Nat) (l0 : List (List Int)) (A1 : Option Addr) (c1 : Nat) (l1 : List (List Int)) (r : Bool) (w : World) (hr0 : Kd.C (Kd.slice 3 (Kd.int .i64)) w A0 l0.length l0) (hc0 : l0.length ≤ c0) (hr1 : Kd.C (Kd.slice 3 (Kd.int .i64)) w A1 l1.length l1) (hc1 : l1.length ≤ c1) (h : spec_l5Arranged.f k l0 l1 = some r) :
    Calls Try.prog 63 #[.slice A0 l0.length c0, .slice A1 l1.length c1] w fun e w' => e = .returned (.bool r) ∧ Below w.heap.size w w' := by
  unfold spec_l5Arranged.f at h
  have hs : l1.length ≤ 4000000 ∧ (∀ r ∈ l1, r.length ≤ 4000000) := by
    by_cases hx : l1.length ≤ 4000000 ∧ (∀ r ∈ l1, r.length ≤ 4000000)
    · exact hx
    · rw [if_neg hx] at h; cases h
  rw [if_pos hs] at h
  have HS := Aside0.mk hs
  have HR0 := Aside0.mk hr0
  have HR1 := Aside0.mk hr1
  clear hs hr0 hr1 hc0 hc1
  by_cases hlen : l1.length = l0.length
  · rw [if_pos hlen] at h
    have hne : ((l1.length : Int) != (l0.length : Int)) = false := by rw [hlen]; exact bne_self_eq_false _
    have HLE := Aside0.mk hlen
    have H0 := Aside0.mk h
    clear hlen h
    obtain ⟨i0, hi0_, hz0, hz1, hz2⟩ := info_parts info3
    have HI0 := Aside0.mk hi0_
    clear hi0_ hz0 hz1 hz2
    have HB := Aside0.mk (Below.refl w.heap.size w)
    obtain ⟨kq, hkq⟩ : ∃ q, q = k := ⟨_, rfl⟩
    rw [← hkq] at H0
    clear hkq k
    go_enter Try.func63, Try.ntmps63
    go_wp2
    go_loopg [5, 6] l1.length (fun gg s5 _ wr => ∃ i : Nat, i ≤ l1.length ∧ l1.length - i ≤ gg ∧ s5 = .int .i64 i ∧ Aside0 (arAll kq l0 l1 (l1.length - i) i = some r) ∧ Aside0 (Below w.heap.size w wr))
    case atStart => exact ⟨0, Nat.zero_le _, by omega, rfl, H0, HB⟩
    case round =>
      clear HB H0 hne
      obtain ⟨i, hi, hgg, rfl, HA, HB⟩ := hrel
      by_cases hil : i < l1.length
      · have hilz : (i : Int) < (l1.length : Int) := by omega
        have hilz0 : (i : Int) < (l0.length : Int) := by have := HLE.out; omega
        have hi0 : (0 : Int) ≤ (i : Int) := by omega
        have HA2 := HA.out
        obtain ⟨d, hd⟩ : ∃ d, l1.length - i = d + 1 := ⟨l1.length - i - 1, by omega⟩
        rw [hd] at HA2
        have HD := Aside0.mk (show l1.length - (i + 1) = d by omega)
        unfold arAll at HA2
        obtain ⟨ad, P1, p1, e1, hx, hpl, hpc⟩ := row_at HR1.out i hil
        obtain ⟨bd, Q1, q1, e2, hy, hql, hqc⟩ := row_at HR0.out i (by have := HLE.out; omega)
        subst e1; subst e2
        have HSZ := Aside0.mk (show (l1.getD i []).length ≤ 4000000 from HS.out.2 _ (by rw [List.getD_eq_getElem?_getD, List.getElem?_eq_getElem hil]; exact List.getElem_mem hil))
        obtain ⟨a, ha⟩ : ∃ a, l1.getD i [] = a := ⟨_, rfl⟩
        obtain ⟨b, hb⟩ : ∃ b, l0.getD i [] = b := ⟨_, rfl⟩
        rw [ha] at hx hpl hpc HA2 HSZ
        rw [hb] at hy hql hqc HA2
        have HX := Aside0.mk hx
        have HY := Aside0.mk hy
        have HPC := Aside0.mk hpc
        have HPL := Aside0.mk hpl
        have HQC := Aside0.mk hqc
        have HQL := Aside0.mk hql
        have hx := (HB.out.cell (World.block_lt_of_cell? w _ HX.out)).trans HX.out
        have hy := (HB.out.cell (World.block_lt_of_cell? w _ HY.out)).trans HY.out
        clear ha hb hpl hpc hql hqc hd HA
        by_cases hrl : a.length = b.length
        · rw [if_pos hrl] at HA2
          have hnb : ((a.length : Int) != (b.length : Int)) = false := by rw [hrl]; exact bne_self_eq_false _
          have HA := Aside0.mk HA2
          clear HA2 hrl
          go_upto_region 6 with (fail)
          go_quiet (fail)
          go_wp2
          clear hnb hx hy
          obtain ⟨w9, rfl⟩ : ∃ x, x = wr := ⟨_, rfl⟩
          have HB9 := Aside0.mk (show Below w.heap.size w (w9.drewN nq) from pw_below_drewN HB.out _)
          go_loopg [6] a.length (fun gg s6 wr => ∃ j : Nat, j ≤ a.length ∧ a.length - j ≤ gg ∧ s6 = .int .i64 j ∧ Aside0 ((arRow kq b a (a.length - j) j).bind (fun t => if t = true then arAll kq l0 l1 d (i + 1) else some false) = some r) ∧ Aside0 (Below w.heap.size w wr))
          case atStart => exact ⟨0, Nat.zero_le _, by omega, rfl, HA, HB9⟩
          case round =>
            clear HB HB9 HA
            obtain ⟨j, hj, hgg2, rfl, HA, HB⟩ := hrel
            have hx := (HB.out.cell (World.block_lt_of_cell? w _ HX.out)).trans HX.out
            have hy := (HB.out.cell (World.block_lt_of_cell? w _ HY.out)).trans HY.out
            by_cases hjl : j < a.length
            · have hjlz : (j : Int) < (a.length : Int) := by omega
              have hj0 : (0 : Int) ≤ (j : Int) := by omega
              have hjle : (j : Int) ≤ (a.length : Int) := by omega
              obtain ⟨pd, e3, hz⟩ := Kd.at_int HPC.out (j : Int) hj0 hjlz
              subst e3
              have e4 : rd a (j : Int) = a.getD j 0 := by simp [rd]
              rw [e4, Int.toNat_natCast] at hz
              replace hz := (HB.out.cell (World.block_lt_of_cell? w _ hz)).trans hz
              have HA2 := HA.out
              obtain ⟨m, hm⟩ : ∃ m, a.length - j = m + 1 := ⟨a.length - j - 1, by omega⟩
              rw [hm] at HA2
              have HM := Aside0.mk (show a.length - (j + 1) = m by omega)
              unfold arRow at HA2
              obtain ⟨x, hxx⟩ : ∃ x, a.getD j 0 = x := ⟨_, rfl⟩
              rw [hxx] at hz HA2
              have HCUT := Aside0.mk (show _ from cut_to (P := Try.prog) 54 3 .i64 Try.underlying54 HI0.out (some pd) a.length p1 (j : Int) hj0 hjle HPL.out)
              rw [Int.toNat_natCast] at HCUT
              have hcut := HCUT.out
              clear e4 hxx hm HA hjle HCUT
              obtain ⟨oa, hoa⟩ : ∃ o, spec_l5At.f kq b x = o := ⟨_, rfl⟩
              rw [hoa] at HA2
              cases oa with
              | none => cases HA2
              | some av =>
              rw [Option.bind_some] at HA2
              have HAT := Aside0.mk (fun (W : World) (hW : Below wr.heap.size wr W) => spec_l5At.calls kq _ _ b x av W (Kd.C_below HQC.out (below_chain HB.out hW)) HQL.out hoa)
              clear hoa
              by_cases hneg : av < 0
              · rw [if_pos hneg] at HA2
                obtain rfl := Option.some.inj HA2
                clear HA2
                have HHS := Aside0.mk trivial
                go_upto_region 11 with (fail)
                go_quiet (first | (go_at_call 104; (refine (HAT.out _ (by repeat (first | exact Below.refl _ _ | apply below_alloc | apply pw_below_drewN | apply below_drew1))).mono ?_); rintro e w' ⟨rfl, ⟨nd, rfl⟩⟩; (try first | exact ⟨rfl, _, World.drewN_drewN _ _ _⟩ | exact ⟨rfl, _, Eq.trans (World.drewN_drewN _ _ _) (congrArg (World.drewN _) (Nat.add_assoc _ _ _))⟩)))
                go_wp2
                go_ret
                exact ⟨rfl, pw_below_drewN HB.out _⟩
              · rw [if_neg hneg] at HA2
                obtain ⟨ob, hob⟩ : ∃ o, spec_l1Has.f kq (a.take j) x = o := ⟨_, rfl⟩
                rw [hob] at HA2
                cases ob with
                | none => cases HA2
                | some bv =>
                rw [Option.bind_some] at HA2
                have HHS := Aside0.mk (fun (W : World) (hW : Below wr.heap.size wr W) => show Calls Try.prog 105 #[.slice (some pd) j p1, .int .i64 x] W (fun e w' => e = .returned (.bool bv) ∧ Drawn0 W w') from by
                  have hlt : (a.take j).length = j := by rw [List.length_take]; omega
                  have h := spec_l1Has.calls kq (some pd) p1 (a.take j) x bv W (by have h := Kd.C_take (Kd.C_below HPC.out (below_chain HB.out hW)) (Nat.le_of_lt hjl); rw [hlt] at h ⊢; exact h) (by rw [hlt]; have := HPL.out; omega) hob
                  rw [hlt] at h
                  exact h)
                clear hob
                cases bv with
                | true =>
                  obtain rfl := Option.some.inj HA2
                  clear HA2
                  go_upto_region 11 with (fail)
                  go_quiet (first | (go_at_call 104; (refine (HAT.out _ (by repeat (first | exact Below.refl _ _ | apply below_alloc | apply pw_below_drewN | apply below_drew1))).mono ?_); rintro e w' ⟨rfl, ⟨nd, rfl⟩⟩; (try first | exact ⟨rfl, _, World.drewN_drewN _ _ _⟩ | exact ⟨rfl, _, Eq.trans (World.drewN_drewN _ _ _) (congrArg (World.drewN _) (Nat.add_assoc _ _ _))⟩)) | (go_at_call 105; (refine (HHS.out _ (by repeat (first | exact Below.refl _ _ | apply below_alloc | apply pw_below_drewN | apply below_drew1))).mono ?_); rintro e w' ⟨rfl, ⟨nd, rfl⟩⟩; (try first | exact ⟨rfl, _, World.drewN_drewN _ _ _⟩ | exact ⟨rfl, _, Eq.trans (World.drewN_drewN _ _ _) (congrArg (World.drewN _) (Nat.add_assoc _ _ _))⟩)))
                  go_wp2
                  go_ret
                  exact ⟨rfl, pw_below_drewN HB.out _⟩
                | false =>
                  have HA := Aside0.mk (show (arRow kq b a m (j + 1)).bind (fun t => if t = true then arAll kq l0 l1 d (i + 1) else some false) = some r from HA2)
                  clear HA2
                  go_upto_region 11 with (fail)
                  go_quiet (first | (go_at_call 104; (refine (HAT.out _ (by repeat (first | exact Below.refl _ _ | apply below_alloc | apply pw_below_drewN | apply below_drew1))).mono ?_); rintro e w' ⟨rfl, ⟨nd, rfl⟩⟩; (try first | exact ⟨rfl, _, World.drewN_drewN _ _ _⟩ | exact ⟨rfl, _, Eq.trans (World.drewN_drewN _ _ _) (congrArg (World.drewN _) (Nat.add_assoc _ _ _))⟩)) | (go_at_call 105; (refine (HHS.out _ (by repeat (first | exact Below.refl _ _ | apply below_alloc | apply pw_below_drewN | apply below_drew1))).mono ?_); rintro e w' ⟨rfl, ⟨nd, rfl⟩⟩; (try first | exact ⟨rfl, _, World.drewN_drewN _ _ _⟩ | exact ⟨rfl, _, Eq.trans (World.drewN_drewN _ _ _) (congrArg (World.drewN _) (Nat.add_assoc _ _ _))⟩)))
                  go_wp2
                  go_roundg (a.length - (j + 1))
                  case measure => omega
                  case rel => exact ⟨j + 1, by omega, by omega, by first | go_num | exact congrArg (Value.int .i64) (wrap_succ2 j (by have := HSZ.out; omega)), ⟨by rw [HM.out]; exact HA.out⟩, ⟨pw_below_drewN HB.out _⟩⟩
            · obtain rfl : j = a.length := by omega
              have hkz : ¬ ((a.length : Int) < (a.length : Int)) := by omega
              have HA2 := HA.out
              rw [Nat.sub_self] at HA2
              have HA3 := Aside0.mk (show arAll kq l0 l1 d (i + 1) = some r from HA2)
              clear HA2
              go_wp2
              go_roundg (l1.length - (i + 1))
              case measure => omega
              case rel => exact ⟨i + 1, by omega, by omega, by first | go_num | exact congrArg (Value.int .i64) (wrap_succ2 i (by have := HS.out.1; omega)), ⟨by rw [HD.out]; exact HA3.out⟩, HB⟩
        · rw [if_neg hrl] at HA2
          have hnb : ((a.length : Int) != (b.length : Int)) = true := bne_iff_ne.2 (fun e => hrl (by omega))
          obtain rfl := Option.some.inj HA2
          clear HA2 hrl
          go_wp2
          repeat (go_quiet (fail); try go_wp2)
          go_ret
          exact ⟨rfl, pw_below_drewN HB.out _⟩
      · obtain rfl : i = l1.length := by omega
        have hkz : ¬ ((l1.length : Int) < (l1.length : Int)) := by omega
        have HA2 := HA.out
        rw [Nat.sub_self] at HA2
        obtain rfl := Option.some.inj HA2
        clear HA2
        go_wp2
        go_ret
        exact ⟨rfl, HB.out⟩
  · rw [if_neg hlen] at h
    have hne : ((l1.length : Int) != (l0.length : Int)) = true := bne_iff_ne.2 (fun e => hlen (by omega))
    obtain rfl := Option.some.inj h
    clear h hlen
    go_enter Try.func63, Try.ntmps63
    go_wp2
    go_ret
    exact ⟨rfl, by repeat (first | exact Below.refl _ _ | apply below_alloc | apply pw_below_drewN | apply below_drew1)⟩

end Go.Proofs.Ytlbkoejpjpcgaaa.Q
