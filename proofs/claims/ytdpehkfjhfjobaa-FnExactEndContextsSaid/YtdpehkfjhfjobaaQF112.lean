-- Written by a program of this session (wip/xprint.py over the kit's printer).
import Derived.Test.YtdpehkfjhfjobaaQ0
import Derived.Test.YtdpehkfjhfjobaaQF106
import Derived.Test.YtdpehkfjhfjobaaQF60
import Derived.Test.YtdpehkfjhfjobaaQP
namespace Go.Proofs.Ytdpehkfjhfjobaa.Q
open Go.RowKit Go.Proofs.YtdpehkfjhfjobaaW.PrintWords Go.Proofs.YtdpehkfjhfjobaaW.PrintLast Go.Proofs.YtdpehkfjhfjobaaW.PrintMore
attribute [local go_sem] max2_int min2_int max_two min_two max_three min_three max_four min_four   -- for this text's walks alone
set_option linter.unusedVariables false
set_option linter.unusedSimpArgs false

/-! ### slices_IndexFunc_bool_bool: function 112 -/
/-- (OrdIn) What is asked of a predicate on a matrix's rows that is handed over as a function value. -/
def PredRow (P : Program) (g : Nat) (lb : Array Value) (q : Nat → Bool) (N n : Nat) (w : World) : Prop :=
  ∀ (W : World) (j : Nat), j < n → Below w.heap.size w W → Calls P g (#[.slice (some ⟨N + 1 + j, 0, none⟩) n n] ++ lb) W fun e w' => e = .returned (.bool (q j)) ∧ Below W.heap.size W w'
theorem range_getD {n k : Nat} (h : k < n) : (List.range n).getD k 0 = k := by simp [List.getD_eq_getElem?_getD, h]
theorem idx_range_hit {q : Nat → Bool} {n k : Nat} (hk : k < n) (h : q k = true) (hb : ∀ j, j < k → q j = false) : idxI q (List.range n) = (k : Int) :=
  idxI_hit q 0 (List.range n) k (by simpa using hk) (by rw [range_getD hk]; exact h) (fun j hj => by rw [range_getD (by omega)]; exact hb j hj)
theorem idx_range_miss {q : Nat → Bool} {n : Nat} (hb : ∀ j, j < n → q j = false) : idxI q (List.range n) = -1 :=
  idxI_miss q 0 (List.range n) (fun j hj => by
    have hj' : j < n := by simpa using hj
    rw [range_getD hj']; exact hb j hj')
set_option maxHeartbeats 8000000 in
set_option maxRecDepth 100000 in
theorem slices_IndexFunc_bool_bool.calls (g : Nat) (lb : Array Value) (eg : ∀ args w, (callFunc g args).run Try.prog w = .ok (.enter g args) w) (q : Nat → Bool) (N n : Nat) (M : Nat → Nat → Bool) (w : World) (H : Mat w N n M) (hn : n ≤ 1000) (hp : PredRow Try.prog g lb q N n w) :
    Calls Try.prog 112 #[.slice (some ⟨N, 0, none⟩) n n, .func (.func g) #[] lb] w fun e w' => e = .returned (.int .i64 (idxI q (List.range n))) ∧ Below w.heap.size w w' := by
  have HM := Aside0.mk H
  have HP := Aside0.mk hp
  clear H hp
  go_enter Try.func112, Try.ntmps112
  go_wp2
  go_loopg [5, 8] n (fun gg _ s8 wr => ∃ kk : Nat, kk ≤ n ∧ n - kk ≤ gg ∧ s8 = .int .i64 kk ∧ Aside0 (Below w.heap.size w wr) ∧ Aside0 (∀ j, j < kk → q j = false))
  case atStart => exact ⟨0, Nat.zero_le _, by omega, rfl, ⟨Below.refl _ _⟩, ⟨fun j hj => absurd hj (Nat.not_lt_zero _)⟩⟩
  case round =>
    obtain ⟨kk, hkk, hg, rfl, HB, HA⟩ := hrel
    by_cases hlt : kk < n
    · have hltz : (kk : Int) < (n : Int) := by omega
      have hx := HM.out.topc hlt
      replace hx := (HB.out.cell (World.block_lt_of_cell? w _ hx)).trans hx
      have hcall := HP.out wr kk hlt HB.out
      cases hq : q kk with
      | true =>
        rw [hq] at hcall
        have HQ := Aside0.mk hq
        clear hq
        go_wp2_with (go_at_fn g; refine hcall.mono ?_; rintro e w' ⟨rfl, hb'⟩)
        go_ret
        exact ⟨by rw [idx_range_hit hlt HQ.out HA.out]; rfl, below_chain HB.out hb'⟩
      | false =>
        rw [hq] at hcall
        have HQ := Aside0.mk hq
        clear hq
        go_wp2_with (go_at_fn g; refine hcall.mono ?_; rintro e w' ⟨rfl, hb'⟩)
        go_roundg (n - (kk + 1))
        case measure => omega
        case rel =>
          exact ⟨kk + 1, by omega, by omega, by go_num, ⟨below_chain HB.out hb'⟩, ⟨fun j hj => by
            by_cases e : j = kk
            · subst e; exact HQ.out
            · exact HA.out j (by omega)⟩⟩
    · have hltz : ¬ (kk : Int) < (n : Int) := by omega
      obtain rfl : kk = n := by omega
      go_wp2
      go_ret
      exact ⟨by rw [idx_range_miss HA.out]; rfl, HB.out⟩

end Go.Proofs.Ytdpehkfjhfjobaa.Q
