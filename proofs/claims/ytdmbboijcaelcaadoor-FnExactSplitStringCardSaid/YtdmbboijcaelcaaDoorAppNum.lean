/- Plain facts: the reference's checksum and seal are the program's; the law walked. -/
import Derived.Test.YtdmbboijcaelcaaDoorApp
import Derived.Test.YtdmbboijcaelcaaDoorNum
import Derived.Test.YtdmbboijcaelcaaDoorQF21
import Derived.Test.YtdmbboijcaelcaaDoorQF59
namespace Go.Proofs.YtdmbboijcaelcaaDoor.Q
open Go.RowKit Go.Proofs.YtdmbboijcaelcaaDoorW.PrintWords Go.Proofs.YtdmbboijcaelcaaDoorW.PrintLast
set_option linter.unusedVariables false
theorem w64 (i : Nat) (h : i ≤ 4611686018427387904) : wrap64 ((i : Int) + 1) = ((i + 1 : Nat) : Int) := by unfold wrap64; omega
theorem bt_range (s : ByteArray) (i : Int) : 0 ≤ bt s i ∧ bt s i ≤ 255 := by
  unfold bt
  split
  · rename_i h
    have := UInt8.toNat_lt (s[i.toNat]'h)
    omega
  · omega
theorem sum_both (s : ByteArray) (hs : s.size ≤ 1048576) : ∀ d i x, s.size - i = d → i ≤ s.size → 0 ≤ x → x ≤ 999979 → ∃ c, 0 ≤ c ∧ c ≤ 999979 ∧ Ev (fun k => spec_l1Sum.l0 k s x (i : Int)) c ∧ Ev (fun k => impl_checksum.l0 k s x (s.size : Int) (i : Int)) c := by
  intro d
  induction d with
  | zero =>
    intro i x hd hi h0 h1
    obtain rfl : i = s.size := by omega
    refine ⟨x, h0, h1, Ev.step (fun q => by rw [spec_l1Sum.l0]) ?_, Ev.step (fun q => by rw [impl_checksum.l0]) ?_⟩
    · simp only [Int.lt_irrefl, if_false]
      exact Ev.now _
    · simp only [Int.lt_irrefl, if_false]
      exact Ev.now _
  | succ d ih =>
    intro i x hd hi h0 h1
    have a3 : (i : Int) < (s.size : Int) := by omega
    have a4 : (0 : Int) ≤ (i : Int) := by omega
    have hb := bt_range s (i : Int)
    obtain ⟨y, hy⟩ : ∃ y, wrap64 ((wrap64 ((wrap64 (41 * x)) + (wrap64 (bt s (i : Int))))) + 1) = y := ⟨_, rfl⟩
    have q1 : wrap64 (41 * x) = 41 * x := by unfold wrap64; omega
    have q2 : wrap64 (bt s (i : Int)) = bt s (i : Int) := by unfold wrap64; omega
    have q3 : wrap64 (41 * x + bt s (i : Int)) = 41 * x + bt s (i : Int) := by unfold wrap64; omega
    have q4 : wrap64 (41 * x + bt s (i : Int) + 1) = 41 * x + bt s (i : Int) + 1 := by unfold wrap64; omega
    have hy0 : 0 ≤ y := by rw [← hy, q1, q2, q3, q4]; omega
    clear q1 q2 q3 q4
    have hm0 : 0 ≤ Int.tmod y 999979 := Int.tmod_nonneg _ hy0
    have hm1 : Int.tmod y 999979 < 999979 := Int.tmod_lt_of_pos _ (by omega)
    obtain ⟨c, c0, c1, e1, e2⟩ := ih (i + 1) (Int.tmod y 999979) (by omega) (by omega) hm0 (by omega)
    refine ⟨c, c0, c1, Ev.step (fun q => by rw [spec_l1Sum.l0]) ?_, Ev.step (fun q => by rw [impl_checksum.l0]) ?_⟩
    · simp only [a3, a4, if_true, hy, w64 i (by omega)]
      exact e1
    · simp only [a3, a4, if_true, hy, w64 i (by omega)]
      exact e2
theorem ix_ge (c : UInt8) : ∀ l, -1 ≤ Lib.indexByte l c
  | [] => by simp [Lib.indexByte]
  | b :: r => by
    have := ix_ge c r
    simp only [Lib.indexByte]
    split
    · omega
    · split <;> omega
theorem ix_cons (c b : UInt8) (r : List UInt8) : decide (0 ≤ Lib.indexByte (b :: r) c) = (b == c || decide (0 ≤ Lib.indexByte r c)) := by
  have h0 := ix_ge c r
  have key : (0 ≤ Lib.indexByte (b :: r) c) ↔ ((b == c) = true ∨ 0 ≤ Lib.indexByte r c) := by
    simp only [Lib.indexByte]
    by_cases h : (b == c) = true
    · rw [if_pos h]
      exact ⟨fun _ => .inl h, fun _ => Int.le_refl _⟩
    · rw [if_neg h]
      by_cases h2 : Lib.indexByte r c = -1
      · rw [if_pos (beq_iff_eq.2 h2)]
        exact ⟨fun h3 => absurd h3 (by omega), fun h3 => by rcases h3 with h3 | h3; exact absurd h3 h; omega⟩
      · rw [if_neg (fun h3 => h2 (beq_iff_eq.1 h3))]
        exact ⟨fun h3 => .inr (by omega), fun h3 => by omega⟩
  rw [Bool.eq_iff_iff]
  simp only [decide_eq_true_eq, Bool.or_eq_true]
  exact key
theorem bt_nat (x : ByteArray) (i : Nat) (h : i < x.size) : bt x (i : Int) = ((x.data.toList[i]'(by simpa using h)).toNat : Int) := by
  unfold bt
  rw [dif_pos (show (i : Int).toNat < x.size by omega)]
  rfl
theorem stands_ev (x : ByteArray) (c : UInt8) (hx : x.size ≤ 1048576) : Ev (fun k => spec_l1Stands.f k x (c.toNat : Int)) (decide (0 ≤ Lib.indexByte x.data.toList c)) := by
  have hl : x.data.toList.length = x.size := by simp
  have key : ∀ d i, x.size - i = d → i ≤ x.size → Ev (fun k => spec_l1Stands.l0 k x (c.toNat : Int) (i : Int)) (decide (0 ≤ Lib.indexByte (x.data.toList.drop i) c)) := by
    intro d
    induction d with
    | zero =>
      intro i hd hi
      obtain rfl : i = x.size := by omega
      refine Ev.step (fun q => by rw [spec_l1Stands.l0]) ?_
      rw [List.drop_of_length_le (by omega)]
      simp only [Int.lt_irrefl, if_false, Lib.indexByte]
      exact Ev.now _
    | succ d ih =>
      intro i hd hi
      have hlt : i < x.size := by omega
      have a3 : (i : Int) < (x.size : Int) := by omega
      have a4 : (0 : Int) ≤ (i : Int) := by omega
      refine Ev.step (fun q => by rw [spec_l1Stands.l0]) ?_
      simp only [a3, a4, if_true, bt_nat x i hlt, w64 i (by omega)]
      rw [List.drop_eq_getElem_cons (by omega), ix_cons]
      by_cases h : x.data.toList[i]'(by omega) = c
      · rw [h]
        simp only [if_true, beq_self_eq_true, Bool.true_or]
        exact Ev.now _
      · have h2 : ¬ ((x.data.toList[i]'(by omega)).toNat : Int) = (c.toNat : Int) := fun e => h (UInt8.toNat_inj.1 (by omega))
        have h3 : (x.data.toList[i]'(by omega) == c) = false := beq_eq_false_iff_ne.2 h
        simp only [h2, if_false, h3, Bool.false_or]
        exact ih (i + 1) (by omega) (by omega)
  exact key x.size 0 (by omega) (by omega)
theorem seal_ev (s : ByteArray) (hs : s.size ≤ 1048576) (c : Int) (hc : Ev (fun k => spec_l1Sum.f k s) c) (h0 : 0 ≤ c) (h1 : c ≤ 999979) (hl : (Lib.itoa c).length ≤ 1048576) : Ev (fun k => spec_l1Seal.f k s) (sealB s c) := by
  have hsz : (s ++ (⟨#[35]⟩ : ByteArray)).size = s.size + 1 := by rw [ByteArray.size_append]; rfl
  unfold spec_l1Seal.f
  simp only [show s.size + 1 ≤ 9223372036854775807 by omega, if_true]
  refine Ev.bind hc ?_
  refine Ev.bind (num_ev c (by omega) (by omega)) ?_
  simp only [hsz, ba_size, show s.size + 1 + (Lib.itoa c).length ≤ 9223372036854775807 by omega, if_true]
  exact Ev.now _
theorem append_both (s : ByteArray) (hs : s.size ≤ 1048576) : ∃ k c, impl_checksum.f k s = some c ∧ 0 ≤ c ∧ c ≤ 999979 ∧ (Lib.itoa c).length ≤ 1048576 ∧ ∃ k2, spec_AppendChecksum.f k2 s = some (appI s c) := by
  obtain ⟨c, c0, c1, e1, e2⟩ := sum_both s hs s.size 0 7 (by omega) (by omega) (by omega) (by omega)
  obtain ⟨k, hk⟩ := Ev.rounds e2
  have hl : (Lib.itoa c).length ≤ 1048576 := by
    unfold Lib.itoa
    rw [if_neg (by omega)]
    have := dig_len c.toNat
    omega
  refine ⟨k, c, hk, c0, c1, hl, Ev.rounds ?_⟩
  have hse := seal_ev s hs c e1 c0 c1 hl
  unfold spec_AppendChecksum.f appI
  by_cases h1 : 4000 < s.size
  · rw [if_pos h1]
    simp only [show (s.size : Int) > 4000 by omega, if_true]
    exact Ev.now _
  · rw [if_neg h1]
    simp only [show ¬ (s.size : Int) > 4000 by omega, if_false]
    refine Ev.bind (stands_ev s 35 hs) ?_
    show Ev (fun k => if hasB s = true then _ else _) _
    cases hb : hasB s with
    | true =>
      simp only [if_true]
      exact Ev.now _
    | false =>
      simp only [Bool.false_eq_true, if_false]
      refine Ev.bind hse ?_
      by_cases h2 : 4000 < (sealB s c).size
      · rw [if_pos h2]
        simp only [show ((sealB s c).size : Int) > 4000 by omega, if_true]
        exact Ev.now _
      · rw [if_neg h2]
        simp only [show ¬ ((sealB s c).size : Int) > 4000 by omega, if_false]
        refine Ev.bind hse ?_
        exact Ev.now _
set_option maxHeartbeats 8000000 in
set_option maxRecDepth 100000 in
theorem alaw_calls (s : ByteArray) (w : World) (hl : LW w) :
    Calls Tryd.prog 5 #[.string s] w fun e w' => e = .returned (.bool true) ∧ Below w.heap.size w w' := by
  by_cases hbig : 1048576 < s.size
  · have h1z : decide (1048576 < (s.size : Int)) = true := decide_eq_true (by omega)
    have h1y : decide (1048576 < s.size) = true := decide_eq_true hbig
    clear hl
    go_enter Tryd.func5, Tryd.ntmps5
    go_wp2
    go_ret
    exact ⟨rfl, by repeat (first | exact Below.refl _ _ | apply below_alloc | apply pw_below_drewN | apply below_drew1)⟩
  · obtain ⟨k, c, hk, c0, c1, hle, k2, hk2⟩ := append_both s (by omega)
    have h1z : decide (1048576 < (s.size : Int)) = false := decide_eq_false (by omega)
    have h1y : decide (1048576 < s.size) = false := decide_eq_false hbig
    have HF := fun (W : World) (h : LW W) => append_calls s (by omega) k c hk c0 c1 hle W h
    generalize appI s c = r at hk2 HF
    obtain ⟨t, b⟩ := r
    have HK := Aside0.mk hk2
    have HF := Aside0.mk HF
    have HL := Aside0.mk hl
    have hne : (b != b) = false := bne_self_eq_false b
    clear hk hk2 hl hbig c0 c1 hle
    go_enter Tryd.func5, Tryd.ntmps5
    go_wp2_with (first | (go_at_call 21; (refine (spec_AppendChecksum.calls k2 s t b _ HK.out).mono ?_); rintro e w1 ⟨rfl, hb⟩; have HB := Aside0.mk (below_chain (w := w) (by repeat (first | exact Below.refl _ _ | apply below_alloc | apply pw_below_drewN | apply below_drew1)) hb); clear hb) | (go_at_call 22; (refine (HF.out _ (LW.below HL.out (by repeat (first | exact HB.out | exact Below.refl _ _ | apply below_alloc | apply pw_below_drewN | apply below_drew1)))).mono ?_); rintro e w2 ⟨rfl, hb⟩; have HB := Aside0.mk (below_chain (w := w) (by repeat (first | exact HB.out | exact Below.refl _ _ | apply below_alloc | apply pw_below_drewN | apply below_drew1)) hb); clear hb))
    go_ret
    exact ⟨rfl, by repeat (first | exact HB.out | exact Below.refl _ _ | apply below_alloc | apply pw_below_drewN | apply below_drew1)⟩
end Go.Proofs.YtdmbboijcaelcaaDoor.Q
