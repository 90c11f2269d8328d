-- Written by a program of this session (wip/xprint.py over the kit's printer).
import Derived.Test.YtlbkoejpjpcgaaaQ0
import Derived.Test.YtlbkoejpjpcgaaaQP
namespace Go.Proofs.Ytlbkoejpjpcgaaa.Q
open Go.RowKit Go.Proofs.YtlbkoejpjpcgaaaW.PrintWords Go.Proofs.YtlbkoejpjpcgaaaW.PrintLast
set_option linter.unusedVariables false
set_option linter.unusedSimpArgs false

/-! ### spec_l2Find: function 90 -/
/-- The index of a context, or -1. -/
def find (cs : List S108) (n : Int) : Int := idxI (fun c => c.f0 == n) cs
def before (a b : S100) : Bool := decide (a.f0 < b.f0) || (a.f0 == b.f0 && decide (a.f1 < b.f1))
def ctxOk : Option Int → List S108 → Bool
  | _, [] => true
  | p, c :: r => decide (1 ≤ c.f0) && decide (c.f0 ≤ 999) && (decide (1 ≤ c.f1) && decide (c.f1 ≤ 4)) && (match p with | none => true | some q => decide (q < c.f0)) && ctxOk (some c.f0) r
def relOk (cs : List S108) : Option S100 → List S100 → Bool
  | _, [] => true
  | p, x :: r => !(x.f0 == x.f1) && decide (0 ≤ find cs x.f0) && decide (0 ≤ find cs x.f1) && (match p with | none => true | some q => before q x) && relOk cs (some x) r
/-- A record is valid. -/
def goodB (cs : List S108) (rs : List S100) : Bool := decide (cs.length ≤ 10) && decide (rs.length ≤ 24) && ctxOk none cs && relOk cs none rs
def prevC (cs : List S108) : Nat → Option Int
  | 0 => none
  | i + 1 => some (cs.getD i z108).f0
def prevR (rs : List S100) : Nat → Option S100
  | 0 => none
  | i + 1 => some (rs.getD i z100)
theorem ctxOk_at (cs : List S108) (i : Nat) (hi : i < cs.length) : ctxOk (prevC cs i) (cs.drop i) = (decide (1 ≤ (cs.getD i z108).f0) && decide ((cs.getD i z108).f0 ≤ 999) && (decide (1 ≤ (cs.getD i z108).f1) && decide ((cs.getD i z108).f1 ≤ 4)) && (match prevC cs i with | none => true | some q => decide (q < (cs.getD i z108).f0)) && ctxOk (prevC cs (i + 1)) (cs.drop (i + 1))) := by
  rw [List.drop_eq_getElem_cons hi]
  simp only [ctxOk, prevC, List.getD_eq_getElem?_getD, List.getElem?_eq_getElem hi, Option.getD_some]
theorem relOk_at (cs : List S108) (rs : List S100) (i : Nat) (hi : i < rs.length) : relOk cs (prevR rs i) (rs.drop i) = (!((rs.getD i z100).f0 == (rs.getD i z100).f1) && decide (0 ≤ find cs (rs.getD i z100).f0) && decide (0 ≤ find cs (rs.getD i z100).f1) && (match prevR rs i with | none => true | some q => before q (rs.getD i z100)) && relOk cs (prevR rs (i + 1)) (rs.drop (i + 1))) := by
  rw [List.drop_eq_getElem_cons hi]
  simp only [relOk, prevR, List.getD_eq_getElem?_getD, List.getElem?_eq_getElem hi, Option.getD_some]
def spec_l2Find.f (l0_0 : List S108) (l0_1 : List S100) (a1 : Int) : Option Int := some (idxI (fun c => c.f0 == a1) l0_0)
theorem find_f (l0_0 : List S108) (l0_1 : List S100) (a1 : Int) : spec_l2Find.f l0_0 l0_1 a1 = some (find l0_0 a1) := rfl
set_option maxHeartbeats 8000000 in
set_option maxRecDepth 100000 in
theorem spec_l2Find.calls (A0_0 : Option Addr) (c0_0 : Nat) (l0_0 : List S108) (A0_1 : Option Addr) (c0_1 : Nat) (l0_1 : List S100) (a1 : Int) (r : Int) (w : World) (hr0_0 : Kd.C k108 w A0_0 l0_0.length l0_0) (hc0_0 : l0_0.length ≤ c0_0) (hr0_1 : Kd.C k100 w A0_1 l0_1.length l0_1) (hc0_1 : l0_1.length ≤ c0_1) (h : spec_l2Find.f l0_0 l0_1 a1 = some r) :
    Calls Try.prog 90 #[.agg #[.slice A0_0 l0_0.length c0_0, .slice A0_1 l0_1.length c0_1], .int .i64 a1] w fun e w' => e = .returned (.int .i64 r) ∧ Below w.heap.size w w' := by
  obtain rfl := Option.some.inj h
  clear h
  have hl : l0_0.length ≤ 9223372036854775807 := hr0_0.2.1
  have HR := Aside0.mk hr0_0
  clear hr0_0 hr0_1
  go_enter Try.func90, Try.ntmps90
  go_wp2
  go_loopg [5] l0_0.length (fun gg s5 wr => ∃ kk : Nat, kk ≤ l0_0.length ∧ l0_0.length - kk ≤ gg ∧ s5 = .int .i64 kk ∧ Aside0 (wr = w.alloc (.cells #[.slice A0_0 l0_0.length c0_0, .slice A0_1 l0_1.length c0_1] 33)) ∧ Aside0 (∀ j, j < kk → ((l0_0.getD j z108).f0 == a1) = false))
  case atStart => exact ⟨0, Nat.zero_le _, by omega, rfl, ⟨rfl⟩, ⟨fun j hj => absurd hj (Nat.not_lt_zero _)⟩⟩
  case round =>
    obtain ⟨kk, hkk, hg, rfl, HW, HA⟩ := hrel
    obtain rfl := HW.out
    by_cases hlt : kk < l0_0.length
    · have hltz : (kk : Int) < (l0_0.length : Int) := by omega
      obtain ⟨ad, e1, hx0, hx1⟩ := at_T108 HR.out (kk : Int) (by omega) hltz
      cases e1
      have e2 : rd_T108 l0_0 (kk : Int) = l0_0.getD kk z108 := by simp [rd_T108]
      rw [e2] at hx0 hx1
      clear e2
      simp only [Int.toNat_natCast] at hx0 hx1
      have hb0 := World.block_lt_of_cell? w _ hx0
      generalize hy : l0_0.getD kk z108 = y at hx0 hx1
      have HY := Aside0.mk hy
      clear hy
      have hx2 := pw_cell_below (w1 := w.alloc (.cells #[.slice (some ad) l0_0.length c0_0, .slice A0_1 l0_1.length c0_1] 33)) (below_alloc (Below.refl _ _) _) hx0
      clear hx0 hx1
      cases hq : (y.f0 == a1) with
      | true =>
        have HQ := Aside0.mk hq
        go_wp2
        go_ret
        refine ⟨?_, below_alloc (Below.refl _ _) _⟩
        rw [idxI_hit (fun c : S108 => c.f0 == a1) z108 l0_0 kk hlt (by show ((l0_0.getD kk z108).f0 == a1) = true; rw [HY.out]; exact HQ.out) HA.out]
        rfl
      | false =>
        have HQ := Aside0.mk hq
        go_wp2
        go_roundg (l0_0.length - (kk + 1))
        case measure => omega
        case rel =>
          refine ⟨kk + 1, by omega, by omega, by go_num, ⟨rfl⟩, ⟨fun j hj => ?_⟩⟩
          by_cases e : j = kk
          · subst e
            rw [HY.out]; exact HQ.out
          · exact HA.out j (by omega)
    · have hltz : ¬ (kk : Int) < (l0_0.length : Int) := by omega
      obtain rfl : kk = l0_0.length := by omega
      go_wp2
      go_ret
      refine ⟨?_, below_alloc (Below.refl _ _) _⟩
      rw [idxI_miss (fun c : S108 => c.f0 == a1) z108 l0_0 HA.out]
      rfl

end Go.Proofs.Ytlbkoejpjpcgaaa.Q
