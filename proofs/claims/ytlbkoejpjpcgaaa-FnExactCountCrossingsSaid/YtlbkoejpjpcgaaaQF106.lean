-- Written by a program of this session (wip/xprint.py over the kit's printer).
import Derived.Test.YtlbkoejpjpcgaaaQ0
import Derived.Test.YtlbkoejpjpcgaaaQP
namespace Go.Proofs.Ytlbkoejpjpcgaaa.Q
open Go.RowKit Go.Proofs.YtlbkoejpjpcgaaaW.PrintWords Go.Proofs.YtlbkoejpjpcgaaaW.PrintLast
set_option linter.unusedVariables false
set_option linter.unusedSimpArgs false

/-! ### slices_EqualFunc_int_int_int_int: function 106 -/
theorem row_at {w : World} {A : Option Addr} {n : Nat} {xs : List (List Int)} (h : Kd.C (Kd.slice 3 (Kd.int .i64)) w A n xs) (i : Nat) (h1 : i < n) :
    ∃ ad A1 c1, A = some ad ∧ w.cell? (ad.add i) = some (.slice A1 (xs.getD i []).length c1) ∧ (xs.getD i []).length ≤ c1 ∧ Kd.C (Kd.int .i64) w A1 (xs.getD i []).length (xs.getD i []) := by
  obtain ⟨ad, c, e, _, ⟨A1, c1, rfl, hl, hC⟩, hc⟩ := Kd.C_get h ([] : List Int) (i : Int) (by omega) (by omega)
  rw [Int.toNat_natCast] at hl hC hc
  refine ⟨ad, A1, c1, e, ?_, hl, hC⟩
  have := hc 0 _ rfl
  simpa [Kd.slice] using this
/-- What is asked of a comparison of rows that is handed over as a function value. -/
def PredEq (P : Program) (g : Nat) (lb : Array Value) (q : List Int → List Int → Bool) (l0 : List (List Int)) (w : World) : Prop :=
  ∀ (W : World) (a b : List Int) (A : Option Addr) (c : Nat) (B : Option Addr) (d : Nat), Below w.heap.size w W → a ∈ l0 → Kd.C (Kd.int .i64) W A a.length a → a.length ≤ c → Kd.C (Kd.int .i64) W B b.length b → b.length ≤ d →
    Calls P g (#[.slice A a.length c, .slice B b.length d] ++ lb) W fun e w' => e = .returned (.bool (q a b)) ∧ Below W.heap.size W w'
theorem wrap_succ2 (j : Nat) (h : j ≤ 4000000000) : wrap64 ((j : Int) + 1) = ((j + 1 : Nat) : Int) := by unfold wrap64; omega
def eqFB (q : List Int → List Int → Bool) (l0 l1 : List (List Int)) : Bool := decide (l0.length = l1.length) && (List.range l0.length).all fun i => q (l0.getD i []) (l1.getD i [])
set_option maxHeartbeats 8000000 in
set_option maxRecDepth 100000 in
theorem slices_EqualFunc_int_int_int_int.calls (g : Nat) (lb : Array Value) (eg : ∀ args w, (callFunc g args).run Try.prog w = .ok (.enter g args) w) (q : List Int → List Int → Bool) (A0 : Option Addr) (c0 : Nat) (l0 : List (List Int)) (A1 : Option Addr) (c1 : Nat) (l1 : List (List Int)) (w : World) (hr0 : Kd.C (Kd.slice 3 (Kd.int .i64)) w A0 l0.length l0) (hr1 : Kd.C (Kd.slice 3 (Kd.int .i64)) w A1 l1.length l1) (hl : l0.length ≤ 4000000) (hp : PredEq Try.prog g lb q l0 w) :
    Calls Try.prog 106 #[.slice A0 l0.length c0, .slice A1 l1.length c1, .func (.func g) #[] lb] w fun e w' => e = .returned (.bool (eqFB q l0 l1)) ∧ Below w.heap.size w w' := by
  have HR0 := Aside0.mk hr0
  have HR1 := Aside0.mk hr1
  have HP := Aside0.mk hp
  have HL := Aside0.mk hl
  clear hr0 hr1 hp hl
  by_cases hlen : l0.length = l1.length
  · have hne : ((l0.length : Int) != (l1.length : Int)) = false := by rw [hlen]; exact bne_self_eq_false _
    have HLE := Aside0.mk hlen
    clear hlen
    have HB := Aside0.mk (Below.refl w.heap.size w)
    go_enter Try.func106, Try.ntmps106
    go_wp2
    go_loopg [7, 8, 9, 17] l0.length (fun gg _ _ _ s17 wr => ∃ i : Nat, i ≤ l0.length ∧ l0.length - i ≤ gg ∧ s17 = .int .i64 i ∧ Aside0 (Below w.heap.size w wr) ∧ Aside0 (∀ j, j < i → q (l0.getD j []) (l1.getD j []) = true))
    case atStart => exact ⟨0, Nat.zero_le _, by omega, rfl, HB, ⟨fun j hj => absurd hj (Nat.not_lt_zero _)⟩⟩
    case round =>
      clear HB hne
      obtain ⟨i, hi, hgg, rfl, HB, HA⟩ := hrel
      by_cases hil : i < l0.length
      · have hilz : (i : Int) < (l0.length : Int) := by omega
        have hilz1 : (i : Int) < (l1.length : Int) := by have := HLE.out; omega
        have hi0 : (0 : Int) ≤ (i : Int) := by omega
        obtain ⟨ad, P1, p1, e1, hx, hpl, hpc⟩ := row_at HR0.out i hil
        obtain ⟨bd, Q1, q1, e2, hy, hql, hqc⟩ := row_at HR1.out i (by have := HLE.out; omega)
        subst e1; subst e2
        replace hx := (HB.out.cell (World.block_lt_of_cell? w _ hx)).trans hx
        replace hy := (HB.out.cell (World.block_lt_of_cell? w _ hy)).trans hy
        have hmem : l0.getD i [] ∈ l0 := by rw [List.getD_eq_getElem?_getD, List.getElem?_eq_getElem hil]; exact List.getElem_mem hil
        obtain ⟨a, ha⟩ : ∃ a, l0.getD i [] = a := ⟨_, rfl⟩
        obtain ⟨b, hb⟩ : ∃ b, l1.getD i [] = b := ⟨_, rfl⟩
        rw [ha] at hx hpl hpc hmem
        rw [hb] at hy hql hqc
        have HCL := Aside0.mk (fun (W : World) (hW : Below wr.heap.size wr W) => HP.out W a b P1 p1 Q1 q1 (below_chain HB.out hW) hmem (Kd.C_below hpc (below_chain HB.out hW)) hpl (Kd.C_below hqc (below_chain HB.out hW)) hql)
        have HQ := Aside0.mk (show q (l0.getD i []) (l1.getD i []) = q a b from by rw [ha, hb])
        clear ha hb hpl hpc hql hqc hmem
        obtain ⟨r, hr⟩ : ∃ r, q a b = r := ⟨_, rfl⟩
        rw [hr] at HCL HQ
        clear hr
        cases r with
        | true =>
          go_wp2_with (go_at_fn g; refine (HCL.out _ (by repeat (first | exact Below.refl _ _ | apply below_alloc | apply pw_below_drewN | apply below_drew1))).mono ?_; rintro e w5 ⟨rfl, hb5⟩; have HB := Aside0.mk (below_chain (w := w) (by repeat (first | exact HB.out | exact Below.refl _ _ | apply below_alloc | apply pw_below_drewN | apply below_drew1)) hb5); clear hb5)
          go_roundg (l0.length - (i + 1))
          case measure => omega
          case rel => exact ⟨i + 1, by omega, by omega, by first | go_num | exact congrArg (Value.int .i64) (wrap_succ2 i (by have := HL.out; omega)), HB, ⟨fun j hj => by
            by_cases e : j = i
            · subst e; exact HQ.out
            · exact HA.out j (by omega)⟩⟩
        | false =>
          go_wp2_with (go_at_fn g; refine (HCL.out _ (by repeat (first | exact Below.refl _ _ | apply below_alloc | apply pw_below_drewN | apply below_drew1))).mono ?_; rintro e w5 ⟨rfl, hb5⟩; have HB := Aside0.mk (below_chain (w := w) (by repeat (first | exact HB.out | exact Below.refl _ _ | apply below_alloc | apply pw_below_drewN | apply below_drew1)) hb5); clear hb5)
          go_ret
          refine ⟨?_, HB.out⟩
          rw [show eqFB q l0 l1 = false from by
            unfold eqFB
            rw [show ((List.range l0.length).all fun i => q (l0.getD i []) (l1.getD i [])) = false from by
              rw [List.all_eq_false]
              exact ⟨i, List.mem_range.2 hil, by rw [HQ.out]; decide⟩]
            exact Bool.and_false _]
          rfl
      · obtain rfl : i = l0.length := by omega
        have hkz : ¬ ((l0.length : Int) < (l0.length : Int)) := by omega
        go_wp2
        go_ret
        refine ⟨?_, HB.out⟩
        rw [show eqFB q l0 l1 = true from by
          unfold eqFB
          rw [decide_eq_true HLE.out, Bool.true_and, List.all_eq_true]
          intro j hj
          exact HA.out j (List.mem_range.1 hj)]
        rfl
  · have hne : ((l0.length : Int) != (l1.length : Int)) = true := bne_iff_ne.2 (fun e => hlen (by omega))
    go_enter Try.func106, Try.ntmps106
    go_wp2
    go_ret
    refine ⟨?_, by repeat (first | exact Below.refl _ _ | apply below_alloc | apply pw_below_drewN | apply below_drew1)⟩
    rw [show eqFB q l0 l1 = false from by unfold eqFB; rw [decide_eq_false hlen]; rfl]
    rfl

end Go.Proofs.Ytlbkoejpjpcgaaa.Q
