-- Written by a program of this session (wip/xprint.py over the kit's printer).
import Derived.Test.YtlbkoejpjpcgaaaQ0
import Derived.Test.YtlbkoejpjpcgaaaQF106
namespace Go.Proofs.Ytlbkoejpjpcgaaa.Q
open Go.RowKit Go.Proofs.YtlbkoejpjpcgaaaW.PrintWords Go.Proofs.YtlbkoejpjpcgaaaW.PrintLast
set_option linter.unusedVariables false
set_option linter.unusedSimpArgs false

/-! ### slices_Equal_int_int: function 109 -/
set_option maxHeartbeats 8000000 in
set_option maxRecDepth 100000 in
theorem slices_Equal_int_int.calls (A0 : Option Addr) (c0 : Nat) (l0 : List Int) (A1 : Option Addr) (c1 : Nat) (l1 : List Int) (w : World) (hr0 : Kd.C (Kd.int .i64) w A0 l0.length l0) (hr1 : Kd.C (Kd.int .i64) w A1 l1.length l1) (hl : l0.length ≤ 4000000) :
    Calls Try.prog 109 #[.slice A0 l0.length c0, .slice A1 l1.length c1] w fun e w' => e = .returned (.bool (decide (l0 = l1))) ∧ Below w.heap.size w w' := by
  have HR0 := Aside0.mk hr0
  have HR1 := Aside0.mk hr1
  have HL := Aside0.mk hl
  clear hr0 hr1 hl
  by_cases hlen : l0.length = l1.length
  · have hne : ((l0.length : Int) != (l1.length : Int)) = false := by rw [hlen]; exact bne_self_eq_false _
    have HLE := Aside0.mk hlen
    clear hlen
    have HB := Aside0.mk (Below.refl w.heap.size w)
    go_enter Try.func109, Try.ntmps109
    go_wp2
    go_loopg [5, 13] l0.length (fun gg _ s13 wr => ∃ i : Nat, i ≤ l0.length ∧ l0.length - i ≤ gg ∧ s13 = .int .i64 i ∧ Aside0 (Below w.heap.size w wr) ∧ Aside0 (∀ j, j < i → l0.getD j 0 = l1.getD j 0))
    case atStart => exact ⟨0, Nat.zero_le _, by omega, rfl, HB, ⟨fun j hj => absurd hj (Nat.not_lt_zero _)⟩⟩
    case round =>
      clear HB hne
      obtain ⟨i, hi, hgg, rfl, HB, HA⟩ := hrel
      by_cases hil : i < l0.length
      · have hilz : (i : Int) < (l0.length : Int) := by omega
        have hilz1 : (i : Int) < (l1.length : Int) := by have := HLE.out; omega
        have hi0 : (0 : Int) ≤ (i : Int) := by omega
        obtain ⟨ad, e1, hx⟩ := Kd.at_int HR0.out (i : Int) hi0 hilz
        obtain ⟨bd, e2, hy⟩ := Kd.at_int HR1.out (i : Int) hi0 hilz1
        subst e1; subst e2
        have e3 : rd l0 (i : Int) = l0.getD i 0 := by simp [rd]
        have e4 : rd l1 (i : Int) = l1.getD i 0 := by simp [rd]
        rw [e3, Int.toNat_natCast] at hx
        rw [e4, Int.toNat_natCast] at hy
        replace hx := (HB.out.cell (World.block_lt_of_cell? w _ hx)).trans hx
        replace hy := (HB.out.cell (World.block_lt_of_cell? w _ hy)).trans hy
        obtain ⟨a, ha⟩ : ∃ a, l0.getD i 0 = a := ⟨_, rfl⟩
        obtain ⟨b, hb⟩ : ∃ b, l1.getD i 0 = b := ⟨_, rfl⟩
        rw [ha] at hx
        rw [hb] at hy
        clear e3 e4
        by_cases hab : a = b
        · have HQ := Aside0.mk (show l0.getD i 0 = l1.getD i 0 from by rw [ha, hb, hab])
          have hnb : (a != b) = false := by rw [hab]; exact bne_self_eq_false _
          clear ha hb hab
          go_wp2
          repeat (go_quiet (fail); try go_wp2)
          go_roundg (l0.length - (i + 1))
          case measure => omega
          case rel => exact ⟨i + 1, by omega, by omega, by first | go_num | exact congrArg (Value.int .i64) (wrap_succ2 i (by have := HL.out; omega)), ⟨pw_below_drewN HB.out _⟩, ⟨fun j hj => by
            by_cases e : j = i
            · subst e; exact HQ.out
            · exact HA.out j (by omega)⟩⟩
        · have HQ := Aside0.mk (show l0 ≠ l1 from fun e => hab (by rw [← ha, ← hb, e]))
          have hnb : (a != b) = true := bne_iff_ne.2 hab
          clear ha hb hab
          go_wp2
          repeat (go_quiet (fail); try go_wp2)
          go_ret
          refine ⟨?_, pw_below_drewN HB.out _⟩
          rw [decide_eq_false HQ.out]
          rfl
      · obtain rfl : i = l0.length := by omega
        have hkz : ¬ ((l0.length : Int) < (l0.length : Int)) := by omega
        go_wp2
        go_ret
        refine ⟨?_, HB.out⟩
        rw [decide_eq_true (show l0 = l1 from by
          apply List.ext_getElem HLE.out
          intro j h1 h2
          have h3 := HA.out j h1
          simpa [List.getD_eq_getElem?_getD, h1, h2] using h3)]
        rfl
  · have hne : ((l0.length : Int) != (l1.length : Int)) = true := bne_iff_ne.2 (fun e => hlen (by omega))
    go_enter Try.func109, Try.ntmps109
    go_wp2
    go_ret
    refine ⟨?_, by repeat (first | exact Below.refl _ _ | apply below_alloc | apply pw_below_drewN | apply below_drew1)⟩
    rw [decide_eq_false (show l0 ≠ l1 from fun e => hlen (by rw [e]))]
    rfl

end Go.Proofs.Ytlbkoejpjpcgaaa.Q
