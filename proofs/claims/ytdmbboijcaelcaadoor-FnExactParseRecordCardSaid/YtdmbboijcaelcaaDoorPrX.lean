/- Texts App, Num, AppNum, Spl, Cut, SplE, Int, IntE, IntL, Fr, Wf, Std, QF43 of this seat as one (wip/tools/mergeup.py). -/
import Derived.Test.YtdmbboijcaelcaaDoorShelfB
import Derived.Test.YtdmbboijcaelcaaDoorFmt
import Derived.Test.YtdmbboijcaelcaaDoorQF61
import Derived.Test.YtdmbboijcaelcaaDoorQF21
import Derived.Test.YtdmbboijcaelcaaDoorQF59
import Derived.Lib.SplitLaws
import Derived.Lib.Join
import Derived.Test.YtdmbboijcaelcaaDoorShelfE
import Derived.Test.YtdmbboijcaelcaaDoorQF55
import Derived.Lib.IndexBytes
import Derived.Test.YtdmbboijcaelcaaDoorShelfF
import Derived.Test.YtdmbboijcaelcaaDoorRead
import Derived.Lib.AtoiAllCases
import Derived.Lib.SmallJoins
import Derived.Lib.Strings
import Derived.Test.YtdmbboijcaelcaaDoorQF68
import Derived.Test.YtdmbboijcaelcaaDoorQF29
import Derived.Test.YtdmbboijcaelcaaDoorLib
import Derived.Test.YtdmbboijcaelcaaDoorQF10
import Derived.Test.YtdmbboijcaelcaaDoorQF38
import Derived.Test.YtdmbboijcaelcaaDoorQF36
import Derived.Test.YtdmbboijcaelcaaDoorQ0
import Derived.Test.YtdmbboijcaelcaaDoorQF73
import Derived.Test.YtdmbboijcaelcaaDoorQF74
import Derived.Test.YtdmbboijcaelcaaDoorQF91
/-! ### App -/
namespace Go.Proofs.YtdmbboijcaelcaaDoor.Q
open Go.RowKit Go.Proofs.YtdmbboijcaelcaaDoorW.PrintWords Go.Proofs.YtdmbboijcaelcaaDoorW.PrintLast
set_option linter.unusedVariables false
def sealB (s : ByteArray) (c : Int) : ByteArray := (s ++ (⟨#[35]⟩ : ByteArray)) ++ (⟨(Lib.itoa c).toArray⟩ : ByteArray)
def hasB (s : ByteArray) : Bool := decide (0 ≤ Lib.indexByte s.data.toList 35)
def appI (s : ByteArray) (c : Int) : ByteArray × Bool := if 4000 < s.size then (⟨#[]⟩, false) else if hasB s then (⟨#[]⟩, false) else if 4000 < (sealB s c).size then (⟨#[]⟩, false) else (sealB s c, true)
theorem contains_calls (s : ByteArray) (w : World) : Calls Tryd.prog 60 #[.string s, .string ⟨#[35]⟩] w fun e w' => e = .returned (.bool (hasB s)) ∧ w' = w :=
  Any.strings_Contains_one Tryd.laysContains s 35 w
set_option maxHeartbeats 8000000 in
set_option maxRecDepth 100000 in
theorem append_calls (s : ByteArray) (hs : s.size ≤ 1048576) (k : Nat) (c : Int) (hc : impl_checksum.f k s = some c) (hc0 : 0 ≤ c) (hc1 : c ≤ 999979) (hlen : (Lib.itoa c).length ≤ 1048576) (w : World) (hl : LW w) :
    Calls Tryd.prog 22 #[.string s] w fun e w' => e = .returned (.tuple #[.string (appI s c).1, .bool (appI s c).2]) ∧ Below w.heap.size w w' := by
  have HL := Aside0.mk hl
  have HC := Aside0.mk hc
  have HR := Aside0.mk (And.intro hc0 hc1)
  clear hl hc hc0 hc1
  by_cases h1 : 4000 < s.size
  · have HF := Aside0.mk (show appI s c = (⟨#[]⟩, false) from if_pos h1)
    have h1z : decide (4000 < (s.size : Int)) = true := decide_eq_true (by omega)
    have h1y : decide (4000 < s.size) = true := decide_eq_true h1
    clear hlen hs
    go_enter Tryd.func22, Tryd.ntmps22
    go_wp2
    go_ret2
    exact ⟨by rw [HF.out]; rfl, by repeat (first | exact Below.refl _ _ | apply below_alloc | apply pw_below_drewN | apply below_drew1)⟩
  · have h1z : decide (4000 < (s.size : Int)) = false := decide_eq_false (by omega)
    have h1y : decide (4000 < s.size) = false := decide_eq_false h1
    obtain ⟨b, hb⟩ : ∃ b, hasB s = b := ⟨_, rfl⟩
    have HB := Aside0.mk hb
    cases b with
    | true =>
      have HF := Aside0.mk (show appI s c = (⟨#[]⟩, false) from by unfold appI; rw [if_neg h1, if_pos hb])
      clear hlen hs hb
      go_enter Tryd.func22, Tryd.ntmps22
      go_wp2_with (go_at_call 60; (refine (contains_calls s _).mono ?_); rintro e w1 ⟨rfl, rfl⟩; rw [HB.out])
      go_ret2
      exact ⟨by rw [HF.out]; rfl, by repeat (first | exact Below.refl _ _ | apply below_alloc | apply pw_below_drewN | apply below_drew1)⟩
    | false =>
      have hsz : (s ++ (⟨#[35]⟩ : ByteArray)).size = s.size + 1 := by rw [ByteArray.size_append]; rfl
      have hiz : (⟨(Lib.itoa c).toArray⟩ : ByteArray).size = (Lib.itoa c).length := by show (Lib.itoa c).toArray.size = _; simp
      have hss : (sealB s c).size = s.size + 1 + (⟨(Lib.itoa c).toArray⟩ : ByteArray).size := by unfold sealB; rw [ByteArray.size_append, hsz]
      have hF2 : ¬ 4000 < (sealB s c).size → appI s c = (sealB s c, true) := fun h2 => by unfold appI; rw [if_neg h1, hb, if_neg (by simp), if_neg h2]
      have hF1 : 4000 < (sealB s c).size → appI s c = (⟨#[]⟩, false) := fun h2 => by unfold appI; rw [if_neg h1, hb, if_neg (by simp), if_pos h2]
      have hi0 := fun (W : World) (h : LW W) => itoa_calls c (by have := HR.out.1; omega) (by have := HR.out.2; omega) W h
      unfold sealB at hF1 hF2 hss
      generalize (⟨(Lib.itoa c).toArray⟩ : ByteArray) = t at hF1 hF2 hss hiz hi0
      have HI := Aside0.mk hi0
      have f1 : (9223372036854775807 < s.size + 1) = False := eq_false (by omega)
      have f2 : (9223372036854775807 < s.size + 1 + t.size) = False := eq_false (by omega)
      clear hi0
      by_cases h2 : 4000 < s.size + 1 + t.size
      · have HF := Aside0.mk (hF1 (by rw [hss]; exact h2))
        have g1 : decide (4000 < (s.size : Int) + 1 + (t.size : Int)) = true := decide_eq_true (by omega)
        have g2 : decide (4000 < s.size + 1 + t.size) = true := decide_eq_true h2
        clear hF1 hF2 hss hiz hsz hlen hs hb h1 h2
        go_enter Tryd.func22, Tryd.ntmps22
        go_wp2_with (first | (go_at_call 60; (refine (contains_calls s _).mono ?_); rintro e w1 ⟨rfl, rfl⟩; rw [HB.out]) | (go_at_call 61; (refine (impl_checksum.calls k s c _ HC.out).mono ?_); rintro e w2 ⟨rfl, ⟨nd, rfl⟩⟩) | (go_at_call 54; (refine (HI.out _ (LW.below HL.out (by repeat (first | exact Below.refl _ _ | apply below_alloc | apply pw_below_drewN | apply below_drew1)))).mono ?_); rintro e w3 ⟨rfl, hb3⟩))
        go_ret2
        exact ⟨by rw [HF.out]; rfl, below_chain (by repeat (first | exact Below.refl _ _ | apply below_alloc | apply pw_below_drewN | apply below_drew1)) hb3⟩
      · have HF := Aside0.mk (hF2 (by rw [hss]; exact h2))
        have g1 : decide (4000 < (s.size : Int) + 1 + (t.size : Int)) = false := decide_eq_false (by omega)
        have g2 : decide (4000 < s.size + 1 + t.size) = false := decide_eq_false h2
        clear hF1 hF2 hss hiz hsz hlen hs hb h1 h2
        go_enter Tryd.func22, Tryd.ntmps22
        go_wp2_with (first | (go_at_call 60; (refine (contains_calls s _).mono ?_); rintro e w1 ⟨rfl, rfl⟩; rw [HB.out]) | (go_at_call 61; (refine (impl_checksum.calls k s c _ HC.out).mono ?_); rintro e w2 ⟨rfl, ⟨nd, rfl⟩⟩) | (go_at_call 54; (refine (HI.out _ (LW.below HL.out (by repeat (first | exact Below.refl _ _ | apply below_alloc | apply pw_below_drewN | apply below_drew1)))).mono ?_); rintro e w3 ⟨rfl, hb3⟩))
        go_ret2
        exact ⟨by rw [HF.out]; rfl, below_chain (by repeat (first | exact Below.refl _ _ | apply below_alloc | apply pw_below_drewN | apply below_drew1)) hb3⟩
end Go.Proofs.YtdmbboijcaelcaaDoor.Q
/-! ### Num -/
/- Plain facts: the reference's numeral is the library's. No program is walked here. -/
namespace Go.Proofs.YtdmbboijcaelcaaDoor.Q
open Go.RowKit Go.Proofs.YtdmbboijcaelcaaDoorW.PrintWords Go.Proofs.YtdmbboijcaelcaaDoorW.PrintLast
set_option linter.unusedVariables false
theorem dig_len : ∀ u : Nat, (Lib.decDigits u).length ≤ u + 1 := by
  intro u
  induction u using Nat.strongRecOn with
  | ind u ih =>
    rw [Lib.decDigits]
    split
    · simp
    · rename_i h
      have := ih (u / 10) (by omega)
      rw [List.length_append, List.length_singleton]
      omega
theorem cut_digit (d : Nat) (h : d < 10) : (⟨#[48, 49, 50, 51, 52, 53, 54, 55, 56, 57]⟩ : ByteArray).extract d (d + 1) = ⟨([UInt8.ofNat (48 + d)] : List UInt8).toArray⟩ := by
  match d, h with
  | 0, _ => rfl
  | 1, _ => rfl
  | 2, _ => rfl
  | 3, _ => rfl
  | 4, _ => rfl
  | 5, _ => rfl
  | 6, _ => rfl
  | 7, _ => rfl
  | 8, _ => rfl
  | 9, _ => rfl
theorem ba_append (a b : List UInt8) : (⟨a.toArray⟩ : ByteArray) ++ ⟨b.toArray⟩ = ⟨(a ++ b).toArray⟩ := by
  apply ByteArray.ext
  simp
theorem ba_size (a : List UInt8) : (⟨a.toArray⟩ : ByteArray).size = a.length := by
  show a.toArray.size = a.length
  simp
theorem dig_ev : ∀ u : Nat, u ≤ 999999 → Ev (fun k => spec_l1Num.f k (u : Int)) ⟨(Lib.decDigits u).toArray⟩ := by
  intro u
  induction u using Nat.strongRecOn with
  | ind u ih =>
    intro hu
    have h0 : ¬ (u : Int) < 0 := by omega
    refine Ev.step (fun q => by rw [spec_l1Num.f]) ?_
    by_cases h10 : u < 10
    · have e1 : wrap64 ((u : Int) + 1) = ((u + 1 : Nat) : Int) := by unfold wrap64; omega
      have hc := cut_digit u h10
      rw [Lib.decDigits, dif_pos h10]
      simp only [h0, if_false, show (u : Int) < 10 by omega, if_true, show (0 : Int) ≤ (u : Int) by omega, e1, show (u : Int) ≤ ((u + 1 : Nat) : Int) by omega, show ((u + 1 : Nat) : Int) ≤ 10 by omega, Int.toNat_natCast, hc]
      exact Ev.now _
    · have ed : Int.tdiv (u : Int) 10 = ((u / 10 : Nat) : Int) := by
        rw [Int.tdiv_eq_ediv_of_nonneg (by omega)]
        omega
      have em : Int.tmod (u : Int) 10 = ((u % 10 : Nat) : Int) := by
        rw [Int.tmod_eq_emod_of_nonneg (by omega)]
        omega
      have ew : wrap64 ((u / 10 : Nat) : Int) = ((u / 10 : Nat) : Int) := by unfold wrap64; omega
      have e1 : wrap64 (((u % 10 : Nat) : Int) + 1) = ((u % 10 + 1 : Nat) : Int) := by unfold wrap64; omega
      have hc := cut_digit (u % 10) (by omega)
      have hl := dig_len (u / 10)
      have hd : Lib.decDigits u = Lib.decDigits (u / 10) ++ [UInt8.ofNat (48 + u % 10)] := by
        rw [Lib.decDigits, dif_neg h10]
      rw [hd]
      simp only [h0, if_false, show ¬ (u : Int) < 10 by omega, ed, em, ew, e1]
      refine Ev.bind (ih (u / 10) (by omega) (by omega)) ?_
      simp only [show (0 : Int) ≤ ((u % 10 : Nat) : Int) by omega, if_true, show ((u % 10 : Nat) : Int) ≤ ((u % 10 + 1 : Nat) : Int) by omega, show ((u % 10 + 1 : Nat) : Int) ≤ 10 by omega, Int.toNat_natCast, hc, ba_size, List.length_singleton, show (Lib.decDigits (u / 10)).length + 1 ≤ 9223372036854775807 by omega, ba_append]
      exact Ev.now _
theorem num_ev (n : Int) (h1 : -999999 ≤ n) (h2 : n ≤ 999999) : Ev (fun k => spec_l1Num.f k n) ⟨(Lib.itoa n).toArray⟩ := by
  unfold Lib.itoa
  by_cases h : n < 0
  · rw [if_pos h]
    obtain ⟨u, hu⟩ : ∃ u : Nat, n.natAbs = u := ⟨_, rfl⟩
    have ew : wrap64 (-n) = (u : Int) := by unfold wrap64; omega
    have hl := dig_len u
    rw [hu]
    refine Ev.step (fun q => by rw [spec_l1Num.f]) ?_
    simp only [h, if_true, ew]
    refine Ev.bind (dig_ev u (by omega)) ?_
    simp only [ba_size, show 1 + (Lib.decDigits u).length ≤ 9223372036854775807 by omega, if_true]
    rw [show (⟨#[45]⟩ : ByteArray) = ⟨([45] : List UInt8).toArray⟩ from rfl, ba_append]
    exact Ev.now _
  · rw [if_neg h]
    obtain ⟨u, hu⟩ : ∃ u : Nat, n.toNat = u := ⟨_, rfl⟩
    have hn : n = (u : Int) := by omega
    rw [hu, hn]
    exact dig_ev u (by omega)
theorem format_ev (n : Int) : ∃ k, spec_FormatInt.f k n = some (fmtI n) := by
  refine Ev.rounds ?_
  unfold spec_FormatInt.f fmtI
  simp only [l1In_eq, Option.bind_some]
  by_cases h : -999999 ≤ n ∧ n ≤ 999999
  · rw [if_pos h]
    simp only [show (decide (-999999 ≤ n) && decide (n ≤ 999999)) = true by simp [h], if_true]
    refine Ev.bind (num_ev n h.1 h.2) ?_
    exact Ev.now _
  · rw [if_neg h]
    simp only [show (decide (-999999 ≤ n) && decide (n ≤ 999999)) = false by simpa using h, Bool.false_eq_true, if_false]
    exact Ev.now _
end Go.Proofs.YtdmbboijcaelcaaDoor.Q
/-! ### AppNum -/
/- Plain facts: the reference's checksum and seal are the program's; the law walked. -/
namespace Go.Proofs.YtdmbboijcaelcaaDoor.Q
open Go.RowKit Go.Proofs.YtdmbboijcaelcaaDoorW.PrintWords Go.Proofs.YtdmbboijcaelcaaDoorW.PrintLast
set_option linter.unusedVariables false
theorem w64 (i : Nat) (h : i ≤ 4611686018427387904) : wrap64 ((i : Int) + 1) = ((i + 1 : Nat) : Int) := by unfold wrap64; omega
theorem bt_range (s : ByteArray) (i : Int) : 0 ≤ bt s i ∧ bt s i ≤ 255 := by
  unfold bt
  split
  · rename_i h
    have := UInt8.toNat_lt (s[i.toNat]'h)
    omega
  · omega
theorem sum_both (s : ByteArray) (hs : s.size ≤ 1048576) : ∀ d i x, s.size - i = d → i ≤ s.size → 0 ≤ x → x ≤ 999979 → ∃ c, 0 ≤ c ∧ c ≤ 999979 ∧ Ev (fun k => spec_l1Sum.l0 k s x (i : Int)) c ∧ Ev (fun k => impl_checksum.l0 k s x (s.size : Int) (i : Int)) c := by
  intro d
  induction d with
  | zero =>
    intro i x hd hi h0 h1
    obtain rfl : i = s.size := by omega
    refine ⟨x, h0, h1, Ev.step (fun q => by rw [spec_l1Sum.l0]) ?_, Ev.step (fun q => by rw [impl_checksum.l0]) ?_⟩
    · simp only [Int.lt_irrefl, if_false]
      exact Ev.now _
    · simp only [Int.lt_irrefl, if_false]
      exact Ev.now _
  | succ d ih =>
    intro i x hd hi h0 h1
    have a3 : (i : Int) < (s.size : Int) := by omega
    have a4 : (0 : Int) ≤ (i : Int) := by omega
    have hb := bt_range s (i : Int)
    obtain ⟨y, hy⟩ : ∃ y, wrap64 ((wrap64 ((wrap64 (41 * x)) + (wrap64 (bt s (i : Int))))) + 1) = y := ⟨_, rfl⟩
    have q1 : wrap64 (41 * x) = 41 * x := by unfold wrap64; omega
    have q2 : wrap64 (bt s (i : Int)) = bt s (i : Int) := by unfold wrap64; omega
    have q3 : wrap64 (41 * x + bt s (i : Int)) = 41 * x + bt s (i : Int) := by unfold wrap64; omega
    have q4 : wrap64 (41 * x + bt s (i : Int) + 1) = 41 * x + bt s (i : Int) + 1 := by unfold wrap64; omega
    have hy0 : 0 ≤ y := by rw [← hy, q1, q2, q3, q4]; omega
    clear q1 q2 q3 q4
    have hm0 : 0 ≤ Int.tmod y 999979 := Int.tmod_nonneg _ hy0
    have hm1 : Int.tmod y 999979 < 999979 := Int.tmod_lt_of_pos _ (by omega)
    obtain ⟨c, c0, c1, e1, e2⟩ := ih (i + 1) (Int.tmod y 999979) (by omega) (by omega) hm0 (by omega)
    refine ⟨c, c0, c1, Ev.step (fun q => by rw [spec_l1Sum.l0]) ?_, Ev.step (fun q => by rw [impl_checksum.l0]) ?_⟩
    · simp only [a3, a4, if_true, hy, w64 i (by omega)]
      exact e1
    · simp only [a3, a4, if_true, hy, w64 i (by omega)]
      exact e2
theorem ix_ge (c : UInt8) : ∀ l, -1 ≤ Lib.indexByte l c
  | [] => by simp [Lib.indexByte]
  | b :: r => by
    have := ix_ge c r
    simp only [Lib.indexByte]
    split
    · omega
    · split <;> omega
theorem ix_cons (c b : UInt8) (r : List UInt8) : decide (0 ≤ Lib.indexByte (b :: r) c) = (b == c || decide (0 ≤ Lib.indexByte r c)) := by
  have h0 := ix_ge c r
  have key : (0 ≤ Lib.indexByte (b :: r) c) ↔ ((b == c) = true ∨ 0 ≤ Lib.indexByte r c) := by
    simp only [Lib.indexByte]
    by_cases h : (b == c) = true
    · rw [if_pos h]
      exact ⟨fun _ => .inl h, fun _ => Int.le_refl _⟩
    · rw [if_neg h]
      by_cases h2 : Lib.indexByte r c = -1
      · rw [if_pos (beq_iff_eq.2 h2)]
        exact ⟨fun h3 => absurd h3 (by omega), fun h3 => by rcases h3 with h3 | h3; exact absurd h3 h; omega⟩
      · rw [if_neg (fun h3 => h2 (beq_iff_eq.1 h3))]
        exact ⟨fun h3 => .inr (by omega), fun h3 => by omega⟩
  rw [Bool.eq_iff_iff]
  simp only [decide_eq_true_eq, Bool.or_eq_true]
  exact key
theorem bt_nat (x : ByteArray) (i : Nat) (h : i < x.size) : bt x (i : Int) = ((x.data.toList[i]'(by simpa using h)).toNat : Int) := by
  unfold bt
  rw [dif_pos (show (i : Int).toNat < x.size by omega)]
  rfl
theorem stands_ev (x : ByteArray) (c : UInt8) (hx : x.size ≤ 1048576) : Ev (fun k => spec_l1Stands.f k x (c.toNat : Int)) (decide (0 ≤ Lib.indexByte x.data.toList c)) := by
  have hl : x.data.toList.length = x.size := by simp
  have key : ∀ d i, x.size - i = d → i ≤ x.size → Ev (fun k => spec_l1Stands.l0 k x (c.toNat : Int) (i : Int)) (decide (0 ≤ Lib.indexByte (x.data.toList.drop i) c)) := by
    intro d
    induction d with
    | zero =>
      intro i hd hi
      obtain rfl : i = x.size := by omega
      refine Ev.step (fun q => by rw [spec_l1Stands.l0]) ?_
      rw [List.drop_of_length_le (by omega)]
      simp only [Int.lt_irrefl, if_false, Lib.indexByte]
      exact Ev.now _
    | succ d ih =>
      intro i hd hi
      have hlt : i < x.size := by omega
      have a3 : (i : Int) < (x.size : Int) := by omega
      have a4 : (0 : Int) ≤ (i : Int) := by omega
      refine Ev.step (fun q => by rw [spec_l1Stands.l0]) ?_
      simp only [a3, a4, if_true, bt_nat x i hlt, w64 i (by omega)]
      rw [List.drop_eq_getElem_cons (by omega), ix_cons]
      by_cases h : x.data.toList[i]'(by omega) = c
      · rw [h]
        simp only [if_true, beq_self_eq_true, Bool.true_or]
        exact Ev.now _
      · have h2 : ¬ ((x.data.toList[i]'(by omega)).toNat : Int) = (c.toNat : Int) := fun e => h (UInt8.toNat_inj.1 (by omega))
        have h3 : (x.data.toList[i]'(by omega) == c) = false := beq_eq_false_iff_ne.2 h
        simp only [h2, if_false, h3, Bool.false_or]
        exact ih (i + 1) (by omega) (by omega)
  exact key x.size 0 (by omega) (by omega)
theorem seal_ev (s : ByteArray) (hs : s.size ≤ 1048576) (c : Int) (hc : Ev (fun k => spec_l1Sum.f k s) c) (h0 : 0 ≤ c) (h1 : c ≤ 999979) (hl : (Lib.itoa c).length ≤ 1048576) : Ev (fun k => spec_l1Seal.f k s) (sealB s c) := by
  have hsz : (s ++ (⟨#[35]⟩ : ByteArray)).size = s.size + 1 := by rw [ByteArray.size_append]; rfl
  unfold spec_l1Seal.f
  simp only [show s.size + 1 ≤ 9223372036854775807 by omega, if_true]
  refine Ev.bind hc ?_
  refine Ev.bind (num_ev c (by omega) (by omega)) ?_
  simp only [hsz, ba_size, show s.size + 1 + (Lib.itoa c).length ≤ 9223372036854775807 by omega, if_true]
  exact Ev.now _
theorem append_both (s : ByteArray) (hs : s.size ≤ 1048576) : ∃ k c, impl_checksum.f k s = some c ∧ 0 ≤ c ∧ c ≤ 999979 ∧ (Lib.itoa c).length ≤ 1048576 ∧ ∃ k2, spec_AppendChecksum.f k2 s = some (appI s c) := by
  obtain ⟨c, c0, c1, e1, e2⟩ := sum_both s hs s.size 0 7 (by omega) (by omega) (by omega) (by omega)
  obtain ⟨k, hk⟩ := Ev.rounds e2
  have hl : (Lib.itoa c).length ≤ 1048576 := by
    unfold Lib.itoa
    rw [if_neg (by omega)]
    have := dig_len c.toNat
    omega
  refine ⟨k, c, hk, c0, c1, hl, Ev.rounds ?_⟩
  have hse := seal_ev s hs c e1 c0 c1 hl
  unfold spec_AppendChecksum.f appI
  by_cases h1 : 4000 < s.size
  · rw [if_pos h1]
    simp only [show (s.size : Int) > 4000 by omega, if_true]
    exact Ev.now _
  · rw [if_neg h1]
    simp only [show ¬ (s.size : Int) > 4000 by omega, if_false]
    refine Ev.bind (stands_ev s 35 hs) ?_
    show Ev (fun k => if hasB s = true then _ else _) _
    cases hb : hasB s with
    | true =>
      simp only [if_true]
      exact Ev.now _
    | false =>
      simp only [Bool.false_eq_true, if_false]
      refine Ev.bind hse ?_
      by_cases h2 : 4000 < (sealB s c).size
      · rw [if_pos h2]
        simp only [show ((sealB s c).size : Int) > 4000 by omega, if_true]
        exact Ev.now _
      · rw [if_neg h2]
        simp only [show ¬ ((sealB s c).size : Int) > 4000 by omega, if_false]
        refine Ev.bind hse ?_
        exact Ev.now _
set_option maxHeartbeats 8000000 in
set_option maxRecDepth 100000 in
theorem alaw_calls (s : ByteArray) (w : World) (hl : LW w) :
    Calls Tryd.prog 5 #[.string s] w fun e w' => e = .returned (.bool true) ∧ Below w.heap.size w w' := by
  by_cases hbig : 1048576 < s.size
  · have h1z : decide (1048576 < (s.size : Int)) = true := decide_eq_true (by omega)
    have h1y : decide (1048576 < s.size) = true := decide_eq_true hbig
    clear hl
    go_enter Tryd.func5, Tryd.ntmps5
    go_wp2
    go_ret
    exact ⟨rfl, by repeat (first | exact Below.refl _ _ | apply below_alloc | apply pw_below_drewN | apply below_drew1)⟩
  · obtain ⟨k, c, hk, c0, c1, hle, k2, hk2⟩ := append_both s (by omega)
    have h1z : decide (1048576 < (s.size : Int)) = false := decide_eq_false (by omega)
    have h1y : decide (1048576 < s.size) = false := decide_eq_false hbig
    have HF := fun (W : World) (h : LW W) => append_calls s (by omega) k c hk c0 c1 hle W h
    generalize appI s c = r at hk2 HF
    obtain ⟨t, b⟩ := r
    have HK := Aside0.mk hk2
    have HF := Aside0.mk HF
    have HL := Aside0.mk hl
    have hne : (b != b) = false := bne_self_eq_false b
    clear hk hk2 hl hbig c0 c1 hle
    go_enter Tryd.func5, Tryd.ntmps5
    go_wp2_with (first | (go_at_call 21; (refine (spec_AppendChecksum.calls k2 s t b _ HK.out).mono ?_); rintro e w1 ⟨rfl, hb⟩; have HB := Aside0.mk (below_chain (w := w) (by repeat (first | exact Below.refl _ _ | apply below_alloc | apply pw_below_drewN | apply below_drew1)) hb); clear hb) | (go_at_call 22; (refine (HF.out _ (LW.below HL.out (by repeat (first | exact HB.out | exact Below.refl _ _ | apply below_alloc | apply pw_below_drewN | apply below_drew1)))).mono ?_); rintro e w2 ⟨rfl, hb⟩; have HB := Aside0.mk (below_chain (w := w) (by repeat (first | exact HB.out | exact Below.refl _ _ | apply below_alloc | apply pw_below_drewN | apply below_drew1)) hb); clear hb))
    go_ret
    exact ⟨rfl, by repeat (first | exact HB.out | exact Below.refl _ _ | apply below_alloc | apply pw_below_drewN | apply below_drew1)⟩
end Go.Proofs.YtdmbboijcaelcaaDoor.Q
/-! ### Spl -/
/- Plain facts: a text cut at a byte, or at a comma and a space. No program is walked here. -/
namespace Go.Proofs.YtdmbboijcaelcaaDoor.Q
open Go.Lib
set_option linter.unusedVariables false
set_option linter.unusedSimpArgs false
/-- The first piece gets p ahead. -/
def pre (p : List UInt8) : List (List UInt8) → List (List UInt8)
  | [] => [p]
  | h :: t => (p ++ h) :: t
/-- The pieces between the bytes c. -/
def spl (c : UInt8) : List UInt8 → List (List UInt8)
  | [] => [[]]
  | b :: r => if b = c then [] :: spl c r else pre [b] (spl c r)
theorem pre_ne (p : List UInt8) (l : List (List UInt8)) : pre p l ≠ [] := by cases l <;> simp [pre]
theorem spl_ne (c : UInt8) (l : List UInt8) : spl c l ≠ [] := by
  cases l with
  | nil => simp [spl]
  | cons b r =>
    unfold spl
    split
    · simp
    · exact pre_ne _ _
theorem pre_pre (p q : List UInt8) (l : List (List UInt8)) : pre p (pre q l) = pre (p ++ q) l := by cases l <;> simp [pre]
theorem pre_nil {l : List (List UInt8)} (h : l ≠ []) : pre [] l = l := by
  cases l with
  | nil => exact absurd rfl h
  | cons a t => rfl
theorem pre_length (p : List UInt8) {l : List (List UInt8)} (h : l ≠ []) : (pre p l).length = l.length := by
  cases l with
  | nil => exact absurd rfl h
  | cons a t => rfl
theorem spl_length_le (c : UInt8) : ∀ l, (spl c l).length ≤ l.length + 1
  | [] => by simp [spl]
  | b :: r => by
    have := spl_length_le c r
    unfold spl
    split
    · simp only [List.length_cons]; omega
    · rw [pre_length _ (spl_ne c r)]; simp only [List.length_cons]; omega
theorem index_cons_ne (b c : UInt8) (r : List UInt8) (h : b ≠ c) : index (b :: r) [c] = if index r [c] == -1 then -1 else index r [c] + 1 := by
  have hp : ([c] : List UInt8).isPrefixOf (b :: r) = false := by simp [List.isPrefixOf, Ne.symm h]
  rw [index, hp]
  simp
theorem splitK_one (c : UInt8) : ∀ l : List UInt8, splitK [c] 0 (count l [c]) l = spl c l
  | [] => by
    rw [count_miss (by simp [index])]
    rfl
  | b :: r => by
    have ih := splitK_one c r
    by_cases h : b = c
    · subst h
      have hix : index (b :: r) [b] = ((0 : Nat) : Int) := by rw [index]; simp [List.isPrefixOf]
      rw [count_cons_eq, Nat.add_comm, splitK, if_neg (by rw [hix]; decide), hix, spl, if_pos rfl, ← ih]
      rfl
    · rw [count_cons_ne b c r h, spl, if_neg h, ← ih]
      have hge := index_ge r [c]
      by_cases hm : index r [c] = -1
      · rw [count_miss hm]
        rfl
      · obtain ⟨j, hj⟩ : ∃ j : Nat, index r [c] = j := ⟨(index r [c]).toNat, by omega⟩
        have hix' : index (b :: r) [c] = ((j + 1 : Nat) : Int) := by rw [index_cons_ne b c r h, if_neg (fun e => hm (beq_iff_eq.1 e)), hj]; omega
        have hk := count_hit (s := r) (sub := [c]) (by simp) hj
        rw [hk, Nat.add_comm, splitK, if_neg (by rw [hix']; simp; omega), splitK, if_neg (by rw [hj]; simp), hix', hj]
        simp [pre]
theorem splitB_one (c : UInt8) (s : ByteArray) : (splitB ⟨#[c]⟩ 0 (countB s ⟨#[c]⟩) s).map (·.data.toList) = spl c s.data.toList := by
  rw [splitB_data]
  exact splitK_one c _
theorem spl_not (c : UInt8) : ∀ l : List UInt8, c ∉ l → spl c l = [l]
  | [], _ => rfl
  | b :: r, h => by
    have h1 : b ≠ c := fun e => h (by simp [e])
    have h2 : c ∉ r := fun e => h (by simp [e])
    rw [spl, if_neg h1, spl_not c r h2]
    rfl
theorem spl_cat (c : UInt8) (r : List UInt8) : ∀ l : List UInt8, c ∉ l → spl c (l ++ c :: r) = l :: spl c r
  | [], _ => by rw [List.nil_append, spl, if_pos rfl]
  | b :: q, h => by
    have h1 : b ≠ c := fun e => h (by simp [e])
    have h2 : c ∉ q := fun e => h (by simp [e])
    rw [List.cons_append, spl, if_neg h1, spl_cat c r q h2]
    rfl
/-- Pieces and joints. -/
theorem spl_join (c : UInt8) : ∀ l : List UInt8, join (spl c l) [c] = l
  | [] => by rw [spl, join_one]
  | b :: r => by
    have ih := spl_join c r
    have hn := spl_ne c r
    unfold spl
    cases hs : spl c r with
    | nil => exact absurd hs hn
    | cons a t =>
      rw [hs, join_cons] at ih
      split
      · rename_i h
        subst h
        rw [join_cons, joinTail, List.map_cons, List.flatten_cons]
        show [] ++ ([b] ++ a ++ joinTail [b] t) = _
        rw [List.nil_append, List.append_assoc, ih]
        rfl
      · rw [pre, join_cons, List.append_assoc, ih]
        rfl
/-- No piece holds the byte. -/
theorem spl_free (c : UInt8) : ∀ (l : List UInt8) (p : List UInt8), p ∈ spl c l → c ∉ p
  | [], p, h => by
    simp only [spl, List.mem_singleton] at h
    subst h
    simp
  | b :: r, p, h => by
    have ih := spl_free c r
    have hn := spl_ne c r
    unfold spl at h
    cases hs : spl c r with
    | nil => exact absurd hs hn
    | cons a t =>
      rw [hs] at h ih
      split at h
      · rcases List.mem_cons.1 h with h | h
        · subst h; simp
        · exact ih p h
      · rename_i hb
        rw [pre] at h
        rcases List.mem_cons.1 h with h | h
        · subst h
          simp only [List.singleton_append, List.mem_cons, not_or]
          exact ⟨fun e => hb e.symm, ih a (by simp)⟩
        · exact ih p (by simp [h])
/-! ### at a comma and a space -/
theorem index_two_not : ∀ l : List UInt8, 44 ∉ l → index l [44, 32] = -1
  | [], _ => by simp [index]
  | b :: r, h => by
    have h1 : b ≠ 44 := fun e => h (by simp [e])
    have h2 : 44 ∉ r := fun e => h (by simp [e])
    have hp : ([44, 32] : List UInt8).isPrefixOf (b :: r) = false := by simp [List.isPrefixOf, Ne.symm h1]
    rw [index, hp, index_two_not r h2]
    simp
theorem index_two_cat (r : List UInt8) : ∀ l : List UInt8, 44 ∉ l → index (l ++ 44 :: 32 :: r) [44, 32] = (l.length : Int)
  | [], _ => by
    rw [List.nil_append, index]
    simp [List.isPrefixOf]
  | b :: q, h => by
    have h1 : b ≠ 44 := fun e => h (by simp [e])
    have h2 : 44 ∉ q := fun e => h (by simp [e])
    have hp : ([44, 32] : List UInt8).isPrefixOf (b :: (q ++ 44 :: 32 :: r)) = false := by simp [List.isPrefixOf, Ne.symm h1]
    rw [List.cons_append, index, hp, index_two_cat r q h2]
    have hz : (((q.length : Nat) : Int) == -1) = false := by simp
    rw [hz]
    simp
theorem split_two_not (l : List UInt8) (h : 44 ∉ l) : splitK [44, 32] 0 (count l [44, 32]) l = [l] := by
  rw [count_miss (index_two_not l h)]
  rfl
theorem split_two_cat (l r : List UInt8) (h : 44 ∉ l) : splitK [44, 32] 0 (count (l ++ 44 :: 32 :: r) [44, 32]) (l ++ 44 :: 32 :: r) = l :: splitK [44, 32] 0 (count r [44, 32]) r := by
  have hix := index_two_cat r l h
  have hd : (l ++ 44 :: 32 :: r).drop (l.length + 2) = r := by
    rw [← List.drop_drop, List.drop_append_of_le_length (Nat.le_refl _)]
    simp
  rw [count_hit (by simp) hix, Nat.add_comm, splitK, if_neg (by rw [hix]; simp), hix]
  simp only [Int.toNat_natCast, Nat.add_zero, List.length_cons, List.length_nil]
  rw [hd]
  simp
theorem split_two_join : ∀ (x : List UInt8) (xs : List (List UInt8)), (∀ y ∈ x :: xs, 44 ∉ y) → splitK [44, 32] 0 (count (join (x :: xs) [44, 32]) [44, 32]) (join (x :: xs) [44, 32]) = x :: xs
  | x, [], h => by
    rw [join_one]
    exact split_two_not x (h x (by simp))
  | x, y :: ys, h => by
    have e : join (x :: y :: ys) [44, 32] = x ++ 44 :: 32 :: join (y :: ys) [44, 32] := by
      rw [join_cons, join_cons, joinTail, List.map_cons, List.flatten_cons]
      show x ++ (([44, 32] ++ y) ++ joinTail [44, 32] ys) = _
      simp
    rw [e, split_two_cat x _ (h x (by simp)), split_two_join y ys (fun z hz => h z (List.mem_cons_of_mem _ hz))]
theorem splitB_two (s : ByteArray) : (splitB ⟨#[44, 32]⟩ 0 (countB s ⟨#[44, 32]⟩) s).map (·.data.toList) = splitK [44, 32] 0 (count s.data.toList [44, 32]) s.data.toList := splitB_data _ _ _ _
end Go.Proofs.YtdmbboijcaelcaaDoor.Q
/-! ### Cut -/
/- strings.Split off the shelf: what it answers as a row that is read; the library's length bound. -/
namespace Go.Proofs.YtdmbboijcaelcaaDoor.Q
open Go.RowKit Go.Proofs.YtdmbboijcaelcaaDoorW.PrintWords Go.Proofs.YtdmbboijcaelcaaDoorW.PrintLast
set_option linter.unusedVariables false
set_option linter.unusedSimpArgs false
/-- The library's bound on lengths holds some number. -/
def MX (w : World) : Prop := ∃ m, w.cell? ⟨Tryd.laysSplit_ren.g 1, 0, none⟩ = some (.int .i64 m)
theorem MX.below {w w' : World} (h : MX w) (hb : Below w.heap.size w w') : MX w' := by
  obtain ⟨m, hm⟩ := h
  exact ⟨m, (hb.cell (World.block_lt_of_cell? w _ hm)).trans hm⟩
theorem mx_of {w : World} (h : w.ShapedOpen Tryd.prog) : MX w := Tryd.laysSplit.s1_3 w h
/-- The pieces. -/
def cutB (s sep : ByteArray) : List ByteArray := Lib.splitB sep 0 (Lib.countB s sep) s
theorem cutB_length (s sep : ByteArray) (h1 : 1 ≤ sep.size) : (cutB s sep).length = Lib.countB s sep + 1 := Lib.splitB_all sep h1 0 _ s rfl
theorem cutB_le (s sep : ByteArray) (h1 : 1 ≤ sep.size) : (cutB s sep).length ≤ s.size + 1 := by
  rw [cutB_length s sep h1]
  have := Lib.countB_le sep h1 s.size s (Nat.le_refl _)
  omega
theorem row_new (w : World) (xs : List ByteArray) (e : TypeId) (hl : xs.length ≤ 9223372036854775807) : Kd.R Kd.string e (w.alloc (.cells (xs.map Value.string).toArray e)) w.heap.size (fun _ => True) (.slice (some ⟨w.heap.size, 0, none⟩) xs.length xs.length) xs := by
  have he : encs Value.string xs = xs.map Value.string := rfl
  refine Kd.R_of_own ⟨?_, .inr ⟨w.heap.size, xs.length, _, rfl, Nat.le_refl _, blk_new w _, Nat.le_refl _, hl, by simp, ?_⟩⟩ (fun _ _ => trivial)
  · rw [he, List.length_map, Nat.mul_one]
  · rw [he, Nat.mul_one, List.take_of_length_le (by simp)]
theorem split_calls (s sep : ByteArray) (w : World) (h1 : 1 ≤ sep.size) (hs : s.size ≤ 1048576) (hm : MX w) :
    Calls Tryd.prog 56 #[.string s, .string sep] w fun e w' => ∃ A, e = .returned (.slice A (cutB s sep).length (cutB s sep).length) ∧ Kd.R Kd.string 9 w' w.heap.size (fun _ => True) (.slice A (cutB s sep).length (cutB s sep).length) (cutB s sep) ∧ Below w.heap.size w w' := by
  obtain ⟨m, hm⟩ := hm
  refine (Any.strings_Split { Tryd.laysSplit with } Tryd.laysSplit.i9 s sep m w (by omega) hm h1).mono fun e w' ⟨he, hw⟩ => ?_
  have hl := cutB_length s sep h1
  have hle := cutB_le s sep h1
  refine ⟨some ⟨w.heap.size, 0, none⟩, by rw [hl]; exact he, ?_, ?_⟩
  · rw [hw]
    exact row_new w (cutB s sep) 9 (by omega)
  · rw [hw]
    exact below_alloc (Below.refl _ _) _
end Go.Proofs.YtdmbboijcaelcaaDoor.Q
/-! ### SplE -/
/- Plain facts: the reference's cut text is 'spl'. No program is walked here. -/
namespace Go.Proofs.YtdmbboijcaelcaaDoor.Q
open Go.RowKit Go.Proofs.YtdmbboijcaelcaaDoorW.PrintWords Go.Proofs.YtdmbboijcaelcaaDoorW.PrintLast
set_option linter.unusedVariables false
set_option linter.unusedSimpArgs false
def toB (l : List (List UInt8)) : List ByteArray := l.map fun x => ⟨x.toArray⟩
theorem toB_cons (x : List UInt8) (l : List (List UInt8)) : toB (x :: l) = ⟨x.toArray⟩ :: toB l := rfl
theorem toB_length (l : List (List UInt8)) : (toB l).length = l.length := by simp [toB]
theorem ba_of (s : ByteArray) (l : List UInt8) (h : s.data.toList = l) : s = ⟨l.toArray⟩ := by subst h; cases s; simp
theorem cut_of (s : ByteArray) (a b : Nat) : s.extract a b = ⟨((s.data.toList.drop a).take (b - a)).toArray⟩ := ba_of _ _ (by
  rw [← Lib.extract_toList, Lib.toList_data])
theorem cut_end (s : ByteArray) (a : Nat) : s.extract a s.size = ⟨(s.data.toList.drop a).toArray⟩ := ba_of _ _ (Lib.extract_to_end s a)
theorem split_key (s : ByteArray) (c : UInt8) (hs : s.size ≤ 1048576) : ∀ d i from_ (out : List ByteArray), s.size - i = d → from_ ≤ i → i ≤ s.size → out.length ≤ i →
    Ev (fun k => spec_l1Split.l0 k s (c.toNat : Int) out (from_ : Int) (i : Int)) (out ++ toB (pre ((s.data.toList.drop from_).take (i - from_)) (spl c (s.data.toList.drop i)))) := by
  have hl : s.data.toList.length = s.size := by simp
  intro d
  induction d with
  | zero =>
    intro i fr out hd hf hi ho
    obtain rfl : i = s.size := by omega
    refine Ev.step (fun q => by rw [spec_l1Split.l0]) ?_
    rw [List.drop_of_length_le (l := s.data.toList) (i := s.size) (by omega), List.take_of_length_le (by rw [List.length_drop]; omega)]
    simp only [Int.lt_irrefl, if_false, show (0 : Int) ≤ (fr : Int) by omega, if_true, show (fr : Int) ≤ (s.size : Int) by omega, show out.length < 8796093022208 by omega, Int.toNat_natCast, cut_end, spl, pre, List.append_nil]
    exact Ev.now _
  | succ d ih =>
    intro i fr out hd hf hi ho
    have hlt : i < s.size := by omega
    have a3 : (i : Int) < (s.size : Int) := by omega
    have a4 : (0 : Int) ≤ (i : Int) := by omega
    have hd2 : s.data.toList.drop i = s.data.toList[i]'(by omega) :: s.data.toList.drop (i + 1) := List.drop_eq_getElem_cons (by omega)
    refine Ev.step (fun q => by rw [spec_l1Split.l0]) ?_
    simp only [a3, a4, if_true, bt_nat s i hlt]
    rw [hd2]
    by_cases h : s.data.toList[i]'(by omega) = c
    · rw [h, spl, if_pos rfl, pre, List.append_nil, toB_cons]
      simp only [if_true, show (0 : Int) ≤ (fr : Int) by omega, show (fr : Int) ≤ (i : Int) by omega, show (i : Int) ≤ (s.size : Int) by omega, show out.length < 8796093022208 by omega, Int.toNat_natCast, w64 i (by omega), cut_of]
      have h2 := ih (i + 1) (i + 1) (out ++ [⟨((s.data.toList.drop fr).take (i - fr)).toArray⟩]) (by omega) (Nat.le_refl _) (by omega) (by rw [List.length_append, List.length_singleton]; omega)
      rw [Nat.sub_self, List.take_zero, pre_nil (spl_ne _ _), List.append_assoc] at h2
      exact h2
    · have h2 : ¬ ((s.data.toList[i]'(by omega)).toNat : Int) = (c.toNat : Int) := fun e => h (UInt8.toNat_inj.1 (by omega))
      simp only [h2, if_false, w64 i (by omega)]
      have h3 := ih (i + 1) fr out (by omega) (by omega) (by omega) (by omega)
      have ht : (s.data.toList.drop fr).take (i + 1 - fr) = (s.data.toList.drop fr).take (i - fr) ++ [s.data.toList[i]'(by omega)] := by
        have hlen : i - fr < (s.data.toList.drop fr).length := by rw [List.length_drop]; omega
        rw [show i + 1 - fr = (i - fr) + 1 by omega, List.take_succ_eq_append_getElem hlen, List.getElem_drop]
        congr 3
        omega
      rw [spl, if_neg h, pre_pre]
      rw [ht] at h3
      exact h3
theorem split_ev (s : ByteArray) (c : UInt8) (hs : s.size ≤ 1048576) : Ev (fun k => spec_l1Split.f k s (c.toNat : Int)) (toB (spl c s.data.toList)) := by
  have h := split_key s c hs s.size 0 0 [] (by omega) (Nat.le_refl _) (by omega) (by simp)
  unfold spec_l1Split.f
  simpa [pre_nil (spl_ne _ _)] using h
/-- The first piece, and where it ends. -/
theorem spl_head (c : UInt8) (l : List UInt8) : (Lib.indexByte l c = -1 ∧ spl c l = [l]) ∨ (∃ i : Nat, Lib.indexByte l c = i ∧ i < l.length ∧ c ∉ l.take i ∧ spl c l = l.take i :: spl c (l.drop (i + 1))) := by
  have hge := Lib.indexByte_ge l c
  by_cases h : Lib.indexByte l c = -1
  · refine .inl ⟨h, spl_not c l (fun hm => ?_)⟩
    obtain ⟨k, hk⟩ := List.getElem?_of_mem hm
    exact Lib.indexByte_none h k hk
  · obtain ⟨i, hi⟩ : ∃ i : Nat, Lib.indexByte l c = i := ⟨(Lib.indexByte l c).toNat, by omega⟩
    obtain ⟨h1, h2⟩ := Lib.indexByte_some hi
    obtain ⟨hlt, hx⟩ := List.getElem?_eq_some_iff.1 h1
    have hn : c ∉ l.take i := fun hm => by
      obtain ⟨k, hk⟩ := List.getElem?_of_mem hm
      rw [List.getElem?_take] at hk
      split at hk
      · rename_i hki
        exact h2 k hki hk
      · cases hk
    refine .inr ⟨i, hi, hlt, hn, ?_⟩
    have e : l = l.take i ++ c :: l.drop (i + 1) := by
      rw [← hx, ← List.drop_eq_getElem_cons hlt, List.take_append_drop]
    have h3 := spl_cat c (l.drop (i + 1)) (l.take i) hn
    rw [← e] at h3
    exact h3
end Go.Proofs.YtdmbboijcaelcaaDoor.Q
/-! ### Int -/
/- The walk of ParseInt. -/
namespace Go.Proofs.YtdmbboijcaelcaaDoor.Q
open Go.RowKit Go.Proofs.YtdmbboijcaelcaaDoorW.PrintWords Go.Proofs.YtdmbboijcaelcaaDoorW.PrintLast
set_option linter.unusedVariables false
set_option linter.unusedSimpArgs false
/-- The library's two sentinels hold errors. -/
def EW (w : World) : Prop := (∃ t p, w.var? Tryd.prog "strconv.ErrSyntax" = some #[.iface t p]) ∧ ∃ t p, w.var? Tryd.prog "strconv.ErrRange" = some #[.iface t p]
theorem var_below {w w' : World} {n : String} {g : Nat} {v : Value} (hg : Tryd.prog.globalNamed n = some g) (h : w.var? Tryd.prog n = some #[v]) (hb : Below w.heap.size w w') : w'.var? Tryd.prog n = some #[v] := by
  have hc := World.var?_cell hg h 0
  have hc2 : w.cell? ⟨g, 0, none⟩ = some v := by simpa using hc
  exact var?_below hb hg (World.block_lt_of_cell? w _ hc2) h
theorem named (n : String) (h : (Tryd.prog.globalNamed n).isSome = true) : ∃ g, Tryd.prog.globalNamed n = some g := by
  cases hh : Tryd.prog.globalNamed n with
  | some g => exact ⟨g, rfl⟩
  | none => rw [hh] at h; cases h
theorem EW.below {w w' : World} (h : EW w) (hb : Below w.heap.size w w') : EW w' := by
  obtain ⟨⟨t1, p1, h1⟩, ⟨t2, p2, h2⟩⟩ := h
  obtain ⟨g1, hg1⟩ := named "strconv.ErrSyntax" (by kernel_rfl)
  obtain ⟨g2, hg2⟩ := named "strconv.ErrRange" (by kernel_rfl)
  exact ⟨⟨t1, p1, var_below hg1 h1 hb⟩, ⟨t2, p2, var_below hg2 h2 hb⟩⟩
theorem atoi_calls (s : ByteArray) (hs : s.size ≤ 281474976710656) (w : World) (he : EW w) :
    Calls Tryd.prog 69 #[.string s] w fun e w' => ∃ v ev, e = .returned (.tuple #[.int .i64 v, ev]) ∧ ((Lib.atoiAll s.data.toList = .ok v ∧ ev = .nilIface) ∨ ((∀ x, Lib.atoiAll s.data.toList ≠ .ok x) ∧ ∃ t p, ev = .iface t p)) ∧ Below w.heap.size w w' := by
  obtain ⟨⟨t1, p1, h1⟩, ⟨t2, p2, h2⟩⟩ := he
  cases hc : Lib.atoiAll s.data.toList with
  | ok v =>
    refine (Any.strconv_Atoi_ok Tryd.laysAtoi s (by omega) v hc w).mono fun e w' ⟨he, hw⟩ => ⟨v, .nilIface, he, .inl ⟨rfl, rfl⟩, ?_⟩
    rcases hw with rfl | ⟨t, rfl⟩
    · exact Below.refl _ _
    · exact Go.Joins.below_bytesWorld _ _ _ _ (Nat.le_refl _)
  | «syntax» => exact (Any.strconv_Atoi_syntax_var Tryd.laysAtoi s hs hc t1 p1 w h1).mono fun e w' ⟨N, he, _, _, hb⟩ => ⟨_, _, he, .inr ⟨(fun x h => by cases h), _, _, rfl⟩, hb⟩
  | range => exact (Any.strconv_Atoi_range_var Tryd.laysAtoi s hs hc t2 p2 w h2).mono fun e w' ⟨N, he, _, _, hb⟩ => ⟨_, _, he, .inr ⟨(fun x h => by cases h), _, _, rfl⟩, hb⟩
theorem toList_mk (l : List UInt8) (s : ByteArray) : ((⟨l.toArray⟩ : ByteArray).toList = s.toList) ↔ l = s.data.toList := by
  rw [Lib.toList_data, Lib.toList_data]
set_option maxHeartbeats 2000000 in
set_option maxRecDepth 100000 in
theorem parseint_calls (s : ByteArray) (hs : s.size ≤ 1048576) (w : World) (hl : LW w) (he : EW w) :
    Calls Tryd.prog 30 #[.string s] w fun e w' => e = .returned (.tuple #[.int .i64 (readL s.data.toList).1, .bool (readL s.data.toList).2]) ∧ Below w.heap.size w w' := by
  have HE := Aside0.mk he
  have HL := Aside0.mk hl
  have HB := Aside0.mk (Below.refl w.heap.size w)
  have HQ := Aside0.mk (toList_mk · s)
  have HF := Aside0.mk (fun h => readL_fell (l := s.data.toList) h)
  have HO := Aside0.mk (fun v => readL_other (l := s.data.toList) (v := v))
  have HH := Aside0.mk (fun v => readL_hit (l := s.data.toList) (n := v))
  have HA := Aside0.mk (fun (W : World) (h : EW W) => atoi_calls s (by omega) W h)
  have HBD := Aside0.mk (fun v h => Lib.atoiAll_bounds (l := s.data.toList) (v := v) h)
  generalize readL s.data.toList = R at HF HO HH ⊢
  generalize s.data.toList = L at HF HO HH HA HQ HBD
  clear he hl
  go_enter Tryd.func30, Tryd.ntmps30
  go_upto_region 2 with (go_at_call 69; refine (HA.out _ (EW.below HE.out (by repeat (first | exact HB.out | apply below_alloc | apply pw_below_drewN | apply below_drew1)))).mono ?_; rintro e w1 ⟨v, ev, rfl, hc, hb⟩; have HB := Aside0.mk (below_chain (w := w) (by repeat (first | exact HB.out | apply below_alloc | apply pw_below_drewN | apply below_drew1)) hb); clear hb; have HC := Aside0.mk hc; clear hc)
  rcases HC.out with ⟨hok, rfl⟩ | ⟨hno, t, p, rfl⟩
  · have HK := Aside0.mk hok
    clear hok HC
    obtain ⟨b, hb⟩ : ∃ b, (decide (-999999 ≤ v) && decide (v ≤ 999999)) = b := ⟨_, rfl⟩
    have A1 := Aside0.mk ((within_eq v (-999999) 999999).trans (congrArg some hb))
    have HI := Aside0.mk (fun (W : World) (h : LW W) => itoa_calls v (HBD.out v HK.out).1 (HBD.out v HK.out).2 W h)
    cases b with
    | false =>
      have HR := Aside0.mk (HO.out v HK.out (fun h => by rw [decide_eq_true h.1, decide_eq_true h.2.1] at hb; cases hb))
      clear hb
      go_wp2_with (go_at_call 53; (with_reducible refine (impl_within.calls v (-999999) 999999 _ _ A1.out).mono ?_); rintro e w2 ⟨rfl, ⟨nd, rfl⟩⟩)
      go_ret2
      exact ⟨by rw [HR.out]; rfl, by repeat (first | exact HB.out | apply below_alloc | apply pw_below_drewN | apply below_drew1)⟩
    | true =>
      have hh : -999999 ≤ v ∧ v ≤ 999999 := by simpa using hb
      clear hb
      by_cases hq : Lib.itoa v = L
      · have e0 : ((⟨(Lib.itoa v).toArray⟩ : ByteArray).toList == s.toList) = true := beq_iff_eq.mpr ((HQ.out _).2 hq)
        have e1 : ((⟨(Lib.itoa v).toArray⟩ : ByteArray).toList != s.toList) = false := bne_eq_false_iff_eq.mpr ((HQ.out _).2 hq)
        have HR := Aside0.mk (HH.out v hh.1 hh.2 hq)
        generalize (⟨(Lib.itoa v).toArray⟩ : ByteArray) = y at e0 e1 HI
        clear hh hq
        go_wp2_with (first | (go_at_call 53; (with_reducible refine (impl_within.calls v (-999999) 999999 _ _ A1.out).mono ?_); rintro e w2 ⟨rfl, ⟨nd, rfl⟩⟩) | (go_at_call 54; refine (HI.out _ (LW.below HL.out (by repeat (first | exact HB.out | apply below_alloc | apply pw_below_drewN | apply below_drew1)))).mono ?_; rintro e w3 ⟨rfl, hb⟩; have HB := Aside0.mk (below_chain (w := w) (by repeat (first | exact HB.out | apply below_alloc | apply pw_below_drewN | apply below_drew1)) hb); clear hb))
        go_ret2
        exact ⟨by rw [HR.out]; rfl, by repeat (first | exact HB.out | apply below_alloc | apply pw_below_drewN | apply below_drew1)⟩
      · have e0 : ((⟨(Lib.itoa v).toArray⟩ : ByteArray).toList == s.toList) = false := beq_eq_false_iff_ne.mpr (fun h => hq ((HQ.out _).1 h))
        have e1 : ((⟨(Lib.itoa v).toArray⟩ : ByteArray).toList != s.toList) = true := bne_iff_ne.mpr (fun h => hq ((HQ.out _).1 h))
        have HR := Aside0.mk (HO.out v HK.out (fun h => hq h.2.2))
        generalize (⟨(Lib.itoa v).toArray⟩ : ByteArray) = y at e0 e1 HI
        clear hh hq
        go_wp2_with (first | (go_at_call 53; (with_reducible refine (impl_within.calls v (-999999) 999999 _ _ A1.out).mono ?_); rintro e w2 ⟨rfl, ⟨nd, rfl⟩⟩) | (go_at_call 54; refine (HI.out _ (LW.below HL.out (by repeat (first | exact HB.out | apply below_alloc | apply pw_below_drewN | apply below_drew1)))).mono ?_; rintro e w3 ⟨rfl, hb⟩; have HB := Aside0.mk (below_chain (w := w) (by repeat (first | exact HB.out | apply below_alloc | apply pw_below_drewN | apply below_drew1)) hb); clear hb))
        go_ret2
        exact ⟨by rw [HR.out]; rfl, by repeat (first | exact HB.out | apply below_alloc | apply pw_below_drewN | apply below_drew1)⟩
  · have HR := Aside0.mk (HF.out hno)
    clear HC hno
    go_wp2
    go_ret2
    exact ⟨by rw [HR.out]; rfl, by repeat (first | exact HB.out | apply below_alloc | apply pw_below_drewN | apply below_drew1)⟩
end Go.Proofs.YtdmbboijcaelcaaDoor.Q
/-! ### IntE -/
/- Plain facts: the reference reads a numeral as the program does. No program is walked here. -/
namespace Go.Proofs.YtdmbboijcaelcaaDoor.Q
open Go.RowKit Go.Proofs.YtdmbboijcaelcaaDoorW.PrintWords Go.Proofs.YtdmbboijcaelcaaDoorW.PrintLast
set_option linter.unusedVariables false
set_option linter.unusedSimpArgs false
/-- How the reference ends. -/
def finR (s t : ByteArray) : Option Nat → Int × Bool
  | none => (0, false)
  | some m => if t.size < s.size then (if Lib.itoa (-(m : Int)) = s.data.toList then (-(m : Int), true) else (0, false)) else (if Lib.itoa (m : Int) = s.data.toList then ((m : Int), true) else (0, false))
theorem read_loop (s t : ByteArray) (ht : t.size ≤ 6) (hs : s.size ≤ 1048576) : ∀ d i (n : Nat), t.size - i = d → i ≤ t.size → n + 1 ≤ 10 ^ i → Ev (fun k => spec_l1Read.l0 k s t (n : Int) (i : Int)) (finR s t (Lib.decFrom n (t.data.toList.drop i))) := by
  have hl : t.data.toList.length = t.size := by simp
  intro d
  induction d with
  | zero =>
    intro i n hd hi hn
    obtain rfl : i = t.size := by omega
    have hp : 10 ^ t.size ≤ 10 ^ 6 := Nat.pow_le_pow_right (by omega) ht
    refine Ev.step (fun q => by rw [spec_l1Read.l0]) ?_
    rw [List.drop_of_length_le (by omega), Lib.decFrom]
    simp only [Int.lt_irrefl, if_false]
    unfold finR
    by_cases h : t.size < s.size
    · simp only [show (t.size : Int) < (s.size : Int) by omega, h, if_true]
      rw [show wrap64 (-(n : Int)) = -(n : Int) by unfold wrap64; omega]
      refine Ev.bind (num_ev (-(n : Int)) (by omega) (by omega)) ?_
      simp only [toList_mk]
      by_cases h2 : Lib.itoa (-(n : Int)) = s.data.toList
      · simp only [h2, if_true]; exact Ev.now _
      · simp only [h2, if_false]; exact Ev.now _
    · simp only [show ¬ (t.size : Int) < (s.size : Int) by omega, h, if_false]
      refine Ev.bind (num_ev (n : Int) (by omega) (by omega)) ?_
      simp only [toList_mk]
      by_cases h2 : Lib.itoa (n : Int) = s.data.toList
      · simp only [h2, if_true]; exact Ev.now _
      · simp only [h2, if_false]; exact Ev.now _
  | succ d ih =>
    intro i n hd hi hn
    have hlt : i < t.size := by omega
    have a3 : (i : Int) < (t.size : Int) := by omega
    have a4 : (0 : Int) ≤ (i : Int) := by omega
    have hp : 10 ^ i ≤ 10 ^ 6 := Nat.pow_le_pow_right (by omega) (by omega)
    have hd2 : t.data.toList.drop i = t.data.toList[i]'(by omega) :: t.data.toList.drop (i + 1) := List.drop_eq_getElem_cons (by omega)
    refine Ev.step (fun q => by rw [spec_l1Read.l0]) ?_
    simp only [a3, a4, if_true, bt_nat t i hlt]
    rw [hd2]
    generalize t.data.toList[i]'(by omega) = b
    have hb := UInt8.toNat_lt b
    rw [Lib.decFrom, Lib.digitVal]
    by_cases h1 : b.toNat < 48
    · simp only [show (b.toNat : Int) < 48 by omega, if_true]
      rw [if_neg (by omega)]
      exact Ev.now _
    · simp only [show ¬ (b.toNat : Int) < 48 by omega, if_false]
      by_cases h2 : 57 < b.toNat
      · simp only [show (b.toNat : Int) > 57 by omega, if_true]
        rw [if_neg (by omega)]
        exact Ev.now _
      · simp only [show ¬ (b.toNat : Int) > 57 by omega, if_false]
        rw [if_pos (by omega)]
        have g1 : n * 10 + (b.toNat - 48) + 1 ≤ 10 ^ (i + 1) := by rw [Nat.pow_succ]; omega
        have g2 := w64 i (by omega)
        have g3 := ih (i + 1) (n * 10 + (b.toNat - 48)) (by clear g2; omega) (by clear g2; omega) g1
        rw [g2]
        clear g2 ih
        have e2 : ((b.toNat : Int) - 48) % 256 = ((b.toNat - 48 : Nat) : Int) := by omega
        rw [e2, show wrap64 (10 * (n : Int)) = 10 * (n : Int) from by clear g3 e2; unfold wrap64; omega, show wrap64 (10 * (n : Int) + ((b.toNat - 48 : Nat) : Int)) = ((n * 10 + (b.toNat - 48) : Nat) : Int) from by clear g3 e2; unfold wrap64; omega]
        exact g3
theorem read_j1 (s t : ByteArray) (hs : s.size ≤ 1048576) (ht : t.size ≤ s.size) : Ev (fun k => spec_l1Read.j1 k s t) (if 1 ≤ t.size ∧ t.size ≤ 6 then finR s t (Lib.decFrom 0 t.data.toList) else (0, false)) := by
  refine Ev.step (fun q => by rw [spec_l1Read.j1]) ?_
  simp only [l1In_eq, Option.bind_some]
  by_cases h : 1 ≤ t.size ∧ t.size ≤ 6
  · rw [if_pos h]
    simp only [show (decide ((1 : Int) ≤ (t.size : Int)) && decide ((t.size : Int) ≤ 6)) = true by simp; omega, if_true]
    have h2 := read_loop s t h.2 hs t.size 0 0 (by omega) (by omega) (by simp)
    exact h2
  · rw [if_neg h]
    simp only [show (decide ((1 : Int) ≤ (t.size : Int)) && decide ((t.size : Int) ≤ 6)) = false by (rw [Bool.and_eq_false_iff]; simp only [decide_eq_false_iff_not]; omega), Bool.false_eq_true, if_false]
    exact Ev.now _
/-- The part that the reference reads. -/
def bodyR (s : ByteArray) : ByteArray := if 1 < s.size ∧ bt s 0 = 45 then s.extract 1 s.size else s
theorem read_body (s : ByteArray) (hs : s.size ≤ 1048576) : Ev (fun k => spec_l1Read.f k s) (if 1 ≤ (bodyR s).size ∧ (bodyR s).size ≤ 6 then finR s (bodyR s) (Lib.decFrom 0 (bodyR s).data.toList) else (0, false)) := by
  unfold spec_l1Read.f
  by_cases h1 : 1 < s.size
  · simp only [show (s.size : Int) > 1 by omega, if_true, show (0 : Int) < (s.size : Int) by omega]
    refine Ev.step (fun q => by rw [spec_l1Read.j0]) ?_
    by_cases h2 : bt s 0 = 45
    · rw [show bodyR s = s.extract 1 s.size from if_pos ⟨h1, h2⟩]
      simp only [h2, beq_self_eq_true, if_true, show (1 : Int) ≤ (s.size : Int) by omega]
      exact read_j1 s _ hs (by rw [ByteArray.size_extract]; omega)
    · rw [show bodyR s = s from if_neg (fun h => h2 h.2)]
      simp only [show (bt s 0 == 45) = false from beq_eq_false_iff_ne.2 h2, Bool.false_eq_true, if_false]
      exact read_j1 s s hs (Nat.le_refl _)
  · rw [show bodyR s = s from if_neg (fun h => h1 h.1)]
    simp only [show ¬ (s.size : Int) > 1 by omega, if_false]
    refine Ev.step (fun q => by rw [spec_l1Read.j0]) ?_
    simp only [Bool.false_eq_true, if_false]
    exact read_j1 s s hs (Nat.le_refl _)
theorem decNat_from {l : List UInt8} {u : Nat} (h : Lib.decNat l = some u) : Lib.decFrom 0 l = some u := (Lib.decNat_some h).2
theorem read_ev (s : ByteArray) (hs : s.size ≤ 1048576) : Ev (fun k => spec_l1Read.f k s) (readL s.data.toList) := by
  have h := read_body s hs
  have hl : s.data.toList.length = s.size := by simp
  suffices he : (if 1 ≤ (bodyR s).size ∧ (bodyR s).size ≤ 6 then finR s (bodyR s) (Lib.decFrom 0 (bodyR s).data.toList) else (0, false)) = readL s.data.toList by rw [← he]; exact h
  clear h
  rcases readL_cases s.data.toList with ⟨n, h1, h2, h3, h4⟩ | ⟨h4, h5⟩
  · rw [h4]
    by_cases hn : n < 0
    · obtain ⟨u, hu⟩ : ∃ u : Nat, n.natAbs = u := ⟨_, rfl⟩
      have hnu : n = -(u : Int) := by omega
      have hd := decDigits_len 5 u (by omega)
      have hne := decDigits_ne u
      have hl3 : s.data.toList = 45 :: Lib.decDigits u := by rw [← h3]; unfold Lib.itoa; rw [if_pos hn, hu]
      have hpos : 1 ≤ (Lib.decDigits u).length := by
        cases hq : Lib.decDigits u with
        | nil => exact absurd hq hne
        | cons _ _ => simp
      have hsz : s.size = (Lib.decDigits u).length + 1 := by rw [← hl, hl3, List.length_cons]
      have hb0 : bt s 0 = 45 := by
        have := bt_nat s 0 (by omega)
        rw [show ((0 : Nat) : Int) = 0 from rfl] at this
        rw [this]
        have : s.data.toList[0]'(by omega) = 45 := by simp [hl3]
        rw [this]
        rfl
      have hbd : bodyR s = s.extract 1 s.size := if_pos ⟨by omega, hb0⟩
      have hbl : (bodyR s).data.toList = Lib.decDigits u := by rw [hbd, Lib.extract_to_end, hl3]; rfl
      have hbs : (bodyR s).size = (Lib.decDigits u).length := by rw [← hbl]; simp
      rw [if_pos (by omega), hbl, decFrom_digits]
      unfold finR
      simp only
      rw [if_pos (by omega), if_pos (by rw [← hnu]; exact h3), hnu]
    · obtain ⟨u, hu⟩ : ∃ u : Nat, n.toNat = u := ⟨_, rfl⟩
      have hnu : n = (u : Int) := by omega
      have hd := decDigits_len 5 u (by omega)
      have hne := decDigits_ne u
      have hl3 : s.data.toList = Lib.decDigits u := by rw [← h3]; unfold Lib.itoa; rw [if_neg hn, hu]
      have hpos : 1 ≤ (Lib.decDigits u).length := by
        cases hq : Lib.decDigits u with
        | nil => exact absurd hq hne
        | cons _ _ => simp
      have hsz : s.size = (Lib.decDigits u).length := by rw [← hl, hl3]
      have hb0 : ¬ bt s 0 = 45 := by
        have := bt_nat s 0 (by omega)
        rw [show ((0 : Nat) : Int) = 0 from rfl] at this
        rw [this]
        have hm : s.data.toList[0]'(by omega) ∈ Lib.decDigits u := by rw [← hl3]; exact List.getElem_mem _
        have := decDigits_digit u _ hm
        omega
      have hbd : bodyR s = s := if_neg (fun h => hb0 h.2)
      rw [hbd, if_pos (by omega), hl3, decFrom_digits]
      unfold finR
      simp only
      rw [if_neg (by omega), if_pos (by rw [← hnu]; exact h3), hnu]
  · rw [h4]
    split
    · rename_i hb
      cases hd : Lib.decFrom 0 (bodyR s).data.toList with
      | none => rfl
      | some m =>
        have hm := Lib.decFrom_lt _ _ _ hd
        have hlen : (bodyR s).data.toList.length = (bodyR s).size := by simp
        have hp : 10 ^ (bodyR s).data.toList.length ≤ 10 ^ 6 := Nat.pow_le_pow_right (by omega) (by omega)
        unfold finR
        simp only
        split
        · exact if_neg (h5 _ (by omega) (by omega))
        · exact if_neg (h5 _ (by omega) (by omega))
    · rfl
end Go.Proofs.YtdmbboijcaelcaaDoor.Q
/-! ### IntL -/
/- ParseInt: the law walked. -/
namespace Go.Proofs.YtdmbboijcaelcaaDoor.Q
open Go.RowKit Go.ChangeShapes Go.Proofs.YtdmbboijcaelcaaDoorW.PrintWords Go.Proofs.YtdmbboijcaelcaaDoorW.PrintLast
set_option linter.unusedVariables false
set_option linter.unusedSimpArgs false
theorem parseint_ev (s : ByteArray) (hs : s.size ≤ 1048576) : ∃ k, spec_ParseInt.f k s = some (readL s.data.toList) := by
  obtain ⟨k, hk⟩ := Ev.rounds (read_ev s hs)
  exact ⟨k, by unfold spec_ParseInt.f; rw [hk]; rfl⟩
theorem star : "*" ++ "errors.errorString" = "*errors.errorString" := by decide
theorem row180 (u : TypeId) (h : Tryd.prog.typeName? 3 u = some "*errors.errorString") : u = 180 :=
  typeName_ptr_named (nm := "errors.errorString") (by rw [star]; kernel_rfl) (by kernel_rfl) (by decide) u (by rw [star]; exact h)
theorem named_type {n : String} {t : TypeId} (h : (Tryd.prog.globalNamed n).bind (fun g => (Tryd.prog.globals[g]?).map (·.type)) = some t) : ∃ g, Tryd.prog.globalNamed n = some g ∧ (Tryd.prog.globals[g]?).map (·.type) = some t := by
  cases hh : Tryd.prog.globalNamed n with
  | some g => rw [hh] at h; exact ⟨g, rfl, h⟩
  | none => rw [hh] at h; cases h
/-- The sentinels, out of the laid condition. -/
theorem ew_of {W : World} {r : List (String × DataW Unit)} (h : laidMet Tryd.prog (("strconv.ErrRange", Rows.laid_strconv_ErrRange) :: ("strconv.ErrSyntax", Rows.laid_strconv_ErrSyntax) :: r) W) : EW W := by
  obtain ⟨g1, hg1, ht1⟩ := named_type (n := "strconv.ErrSyntax") (t := 78) (by kernel_rfl)
  obtain ⟨g2, hg2, ht2⟩ := named_type (n := "strconv.ErrRange") (t := 78) (by kernel_rfl)
  obtain ⟨a1, _, hv1, _⟩ := laid_sentinel h.tail hg1 ht1 Tryd.underlying78 row180 Tryd.underlying180 Tryd.underlying182 rfl rfl Tryd.underlying9 (by kernel_rfl) (by kernel_rfl)
  obtain ⟨a2, _, hv2, _⟩ := laid_sentinel h hg2 ht2 Tryd.underlying78 row180 Tryd.underlying180 Tryd.underlying182 rfl rfl Tryd.underlying9 (by kernel_rfl) (by kernel_rfl)
  exact ⟨⟨_, _, hv1⟩, ⟨_, _, hv2⟩⟩
set_option maxHeartbeats 2000000 in
set_option maxRecDepth 100000 in
theorem law_FnExactParseInt_calls (s : ByteArray) (w : World) (hl : LW w) (he : EW w) :
    Calls Tryd.prog 8 #[.string s] w fun e w' => e = .returned (.bool true) ∧ Below w.heap.size w w' := by
  by_cases hbig : 1048576 < s.size
  · have h1z : decide (1048576 < (s.size : Int)) = true := decide_eq_true (by omega)
    have h1y : decide (1048576 < s.size) = true := decide_eq_true hbig
    clear hl he
    go_enter Tryd.func8, Tryd.ntmps8
    go_wp2
    go_ret
    exact ⟨rfl, by repeat (first | exact Below.refl _ _ | apply below_alloc | apply pw_below_drewN | apply below_drew1)⟩
  · obtain ⟨k2, hk2⟩ := parseint_ev s (by omega)
    have h1z : decide (1048576 < (s.size : Int)) = false := decide_eq_false (by omega)
    have h1y : decide (1048576 < s.size) = false := decide_eq_false hbig
    have hF := fun (W : World) (h : LW W) (h2 : EW W) => parseint_calls s (by omega) W h h2
    generalize readL s.data.toList = r at hk2 hF
    obtain ⟨x, b⟩ := r
    have HK := Aside0.mk hk2
    have HF := Aside0.mk hF
    have HL := Aside0.mk hl
    have HE := Aside0.mk he
    have hne : (b != b) = false := bne_self_eq_false b
    have hnx : (x != x) = false := bne_self_eq_false x
    have HB := Aside0.mk (Below.refl w.heap.size w)
    clear hk2 hF hl he hbig
    go_enter Tryd.func8, Tryd.ntmps8
    go_wp2_with (first | (go_at_call 29; (refine (spec_ParseInt.calls k2 s x b _ HK.out).mono ?_); rintro e w1 ⟨rfl, hb⟩; have HB := Aside0.mk (below_chain (w := w) (by repeat (first | exact HB.out | apply below_alloc | apply pw_below_drewN | apply below_drew1)) hb); clear hb) | (go_at_call 30; (refine (HF.out _ (LW.below HL.out (by repeat (first | exact HB.out | apply below_alloc | apply pw_below_drewN | apply below_drew1))) (EW.below HE.out (by repeat (first | exact HB.out | apply below_alloc | apply pw_below_drewN | apply below_drew1)))).mono ?_); rintro e w2 ⟨rfl, hb⟩; have HB := Aside0.mk (below_chain (w := w) (by repeat (first | exact HB.out | apply below_alloc | apply pw_below_drewN | apply below_drew1)) hb); clear hb))
    go_ret
    exact ⟨rfl, by repeat (first | exact HB.out | apply below_alloc | apply pw_below_drewN | apply below_drew1)⟩
end Go.Proofs.YtdmbboijcaelcaaDoor.Q
/-! ### Fr -/
/- Plain facts: the text of a record, written by the program and by the reference; the law of FormatRecord. -/
namespace Go.Proofs.YtdmbboijcaelcaaDoor.Q
open Go.RowKit Go.Proofs.YtdmbboijcaelcaaDoorW.PrintWords Go.Proofs.YtdmbboijcaelcaaDoorW.PrintLast
set_option linter.unusedVariables false
set_option linter.unusedSimpArgs false
def nlFrom : ByteArray → List ByteArray → ByteArray
  | a, [] => a
  | a, x :: r => nlFrom (a ++ (x ++ (⟨#[10]⟩ : ByteArray))) r
theorem nl_size (x : ByteArray) : (x ++ (⟨#[10]⟩ : ByteArray)).size = x.size + 1 := by rw [ByteArray.size_append]; rfl
theorem nlFrom_append (a : ByteArray) (x y : List ByteArray) : nlFrom a (x ++ y) = nlFrom (nlFrom a x) y := by
  induction x generalizing a with
  | nil => rfl
  | cons z r ih => rw [List.cons_append, nlFrom, nlFrom, ih]
theorem newlines_ev (xs : List ByteArray) (hl : xs.length ≤ 1000) (hx : ∀ x ∈ xs, x.size ≤ 100) : Ev (fun k => impl_withNewlines.f k xs) (nlFrom ⟨#[]⟩ xs) := by
  have key : ∀ d i (a : ByteArray), xs.length - i = d → i ≤ xs.length → a.size ≤ 200 * i → Ev (fun k => impl_withNewlines.l0 k a xs (xs.length : Int) (i : Int)) (nlFrom a (xs.drop i)) := by
    intro d
    induction d with
    | zero =>
      intro i a hd hi ha
      obtain rfl : i = xs.length := by omega
      refine Ev.step (fun q => by rw [impl_withNewlines.l0]) ?_
      simp only [Int.lt_irrefl, if_false, List.drop_length, nlFrom]
      exact Ev.now _
    | succ d ih =>
      intro i a hd hi ha
      have hlt : i < xs.length := by omega
      have hs := hx xs[i] (List.getElem_mem hlt)
      have e2 : rdOf ByteArray.empty xs (i : Int) = xs[i] := by simp [rdOf, hlt]
      refine Ev.step (fun q => by rw [impl_withNewlines.l0]) ?_
      simp only [show (i : Int) < (xs.length : Int) by omega, show (0 : Int) ≤ (i : Int) by omega, if_true, e2, nl_size, show xs[i].size + 1 ≤ 9223372036854775807 by omega, show a.size + (xs[i].size + 1) ≤ 9223372036854775807 by omega, wsucc i (by omega)]
      rw [List.drop_eq_getElem_cons hlt, nlFrom]
      exact ih (i + 1) _ (by omega) (by omega) (by rw [ByteArray.size_append, nl_size]; omega)
  exact key xs.length 0 ⟨#[]⟩ (by omega) (by omega) (by show 0 ≤ _; omega)
theorem ctxB_size {x : S94} (h : 1 ≤ x.f0 ∧ x.f0 ≤ 999 ∧ 1 ≤ x.f1 ∧ x.f1 ≤ 4) : (ctxB x).size ≤ 100 := by
  have h1 := itB_small x.f0 (by omega) (by omega)
  have h2 := kw_small x.f1 (by omega) (by omega)
  unfold ctxB
  rw [ByteArray.size_append, ByteArray.size_append, ByteArray.size_append]
  have e1 : (⟨#[99, 111, 110, 116, 101, 120, 116, 32]⟩ : ByteArray).size = 8 := rfl
  have e2 : (⟨#[32]⟩ : ByteArray).size = 1 := rfl
  omega
theorem relB_size {x : S96} (h : (1 ≤ x.f0 ∧ x.f0 ≤ 999) ∧ 1 ≤ x.f1 ∧ x.f1 ≤ 999) : (relB x).size ≤ 100 := by
  have h1 := itB_small x.f0 (by omega) (by omega)
  have h2 := itB_small x.f1 (by omega) (by omega)
  unfold relB
  rw [ByteArray.size_append, ByteArray.size_append]
  have e1 : (⟨#[32, 97, 98, 111, 118, 101, 32]⟩ : ByteArray).size = 7 := rfl
  omega
theorem ctx_ev {x : S94} (h : 1 ≤ x.f0 ∧ x.f0 ≤ 999 ∧ 1 ≤ x.f1 ∧ x.f1 ≤ 4) : Ev (fun k => spec_l3Context.f k x.f0 x.f1) (ctxB x) := by
  have h1 := itB_small x.f0 (by omega) (by omega)
  have h2 := kw_small x.f1 (by omega) (by omega)
  unfold spec_l3Context.f
  refine Ev.bind (num_ev x.f0 (by omega) (by omega)) ?_
  rw [if_pos ⟨by omega, by omega, Nat.le_trans h1 (by decide), Nat.le_trans h2 (by decide)⟩]
  exact Ev.now _
theorem rel_ev {x : S96} (h : (1 ≤ x.f0 ∧ x.f0 ≤ 999) ∧ 1 ≤ x.f1 ∧ x.f1 ≤ 999) : Ev (fun k => spec_l3Relation.f k x.f0 x.f1) (relB x) := by
  have h1 := itB_small x.f0 (by omega) (by omega)
  have h2 := itB_small x.f1 (by omega) (by omega)
  unfold spec_l3Relation.f
  refine Ev.bind (num_ev x.f0 (by omega) (by omega)) ?_
  refine Ev.bind (num_ev x.f1 (by omega) (by omega)) ?_
  rw [if_pos ⟨Nat.le_trans h1 (by decide), Nat.le_trans h2 (by decide)⟩]
  exact Ev.now _
theorem app_assoc (a b c : ByteArray) : (a ++ b) ++ c = a ++ (b ++ c) := by
  apply ByteArray.ext
  simp [Array.append_assoc]
theorem rectext_ev (cs : List S94) (rs : List S96) (hc : ∀ x ∈ cs, 1 ≤ x.f0 ∧ x.f0 ≤ 999 ∧ 1 ≤ x.f1 ∧ x.f1 ≤ 4) (hr : ∀ x ∈ rs, (1 ≤ x.f0 ∧ x.f0 ≤ 999) ∧ 1 ≤ x.f1 ∧ x.f1 ≤ 999) (hcl : cs.length ≤ 1000) (hrl : rs.length ≤ 1000) :
    Ev (fun k => spec_l3Text.f k cs rs) (nlFrom ⟨#[]⟩ (cs.map ctxB ++ rs.map relB)) := by
  have key1 : ∀ d i (a : ByteArray), rs.length - i = d → i ≤ rs.length → a.size ≤ 200 * (i + 1000) → Ev (fun k => spec_l3Text.l1 k a (i : Int) cs rs) (nlFrom a ((rs.drop i).map relB)) := by
    intro d
    induction d with
    | zero =>
      intro i a hd hi ha
      obtain rfl : i = rs.length := by omega
      refine Ev.step (fun q => by rw [spec_l3Text.l1]) ?_
      simp only [Int.lt_irrefl, if_false, List.drop_length, List.map_nil, nlFrom]
      exact Ev.now _
    | succ d ih =>
      intro i a hd hi ha
      have hlt : i < rs.length := by omega
      have hm := hr rs[i] (List.getElem_mem hlt)
      have hs := relB_size hm
      have e2 : rd_T96 rs (i : Int) = rs[i] := by simp [rd_T96, hlt]
      refine Ev.step (fun q => by rw [spec_l3Text.l1]) ?_
      simp only [show (i : Int) < (rs.length : Int) by omega, show (0 : Int) ≤ (i : Int) by omega, if_true, e2]
      refine Ev.bind (rel_ev hm) ?_
      simp only [ByteArray.size_append, show a.size + (relB rs[i]).size ≤ 9223372036854775807 by omega, show a.size + (relB rs[i]).size + 1 ≤ 9223372036854775807 by omega, if_true, wsucc i (by omega), app_assoc]
      rw [List.drop_eq_getElem_cons hlt, List.map_cons, nlFrom]
      exact ih (i + 1) _ (by omega) (by omega) (by rw [ByteArray.size_append, nl_size]; omega)
  have key0 : ∀ d i (a : ByteArray), cs.length - i = d → i ≤ cs.length → a.size ≤ 200 * i → Ev (fun k => spec_l3Text.l0 k a (i : Int) cs rs) (nlFrom a ((cs.drop i).map ctxB ++ rs.map relB)) := by
    intro d
    induction d with
    | zero =>
      intro i a hd hi ha
      obtain rfl : i = cs.length := by omega
      refine Ev.step (fun q => by rw [spec_l3Text.l0]) ?_
      simp only [Int.lt_irrefl, if_false, List.drop_length, List.map_nil, List.nil_append]
      have h := key1 rs.length 0 a (by omega) (by omega) (by omega)
      rw [List.drop_zero] at h
      exact h
    | succ d ih =>
      intro i a hd hi ha
      have hlt : i < cs.length := by omega
      have hm := hc cs[i] (List.getElem_mem hlt)
      have hs := ctxB_size hm
      have e2 : rd_T94 cs (i : Int) = cs[i] := by simp [rd_T94, hlt]
      refine Ev.step (fun q => by rw [spec_l3Text.l0]) ?_
      simp only [show (i : Int) < (cs.length : Int) by omega, show (0 : Int) ≤ (i : Int) by omega, if_true, e2]
      refine Ev.bind (ctx_ev hm) ?_
      simp only [ByteArray.size_append, show a.size + (ctxB cs[i]).size ≤ 9223372036854775807 by omega, show a.size + (ctxB cs[i]).size + 1 ≤ 9223372036854775807 by omega, if_true, wsucc i (by omega), app_assoc]
      rw [List.drop_eq_getElem_cons hlt, List.map_cons, List.cons_append, nlFrom]
      exact ih (i + 1) _ (by omega) (by omega) (by rw [ByteArray.size_append, nl_size]; omega)
  exact key0 cs.length 0 ⟨#[]⟩ (by omega) (by omega) (by show 0 ≤ _; omega)
theorem keep_all (cs : List S94) (rs : List S96) : keepR allK cs rs = cs.map ctxB ++ rs.map relB := by
  have h1 : cs.filter (fun x => allK [x.f0]) = cs := List.filter_eq_self.2 (fun x _ => rfl)
  have h2 : rs.filter (fun x => allK [x.f0, x.f1]) = rs := List.filter_eq_self.2 (fun x _ => rfl)
  unfold keepR keepC
  rw [h1, h2]
/-- The text of a record. -/
def recT (cs : List S94) (rs : List S96) : ByteArray := nlFrom ⟨#[]⟩ (cs.map ctxB ++ rs.map relB)
theorem format_spec (cs : List S94) (rs : List S96) : ∃ k, spec_FormatRecord.f k cs rs = some (fmtRI cs rs (recT cs rs)) := by
  refine Ev.rounds ?_
  unfold spec_FormatRecord.f fmtRI
  have hg : spec_l2Good.f cs rs = some (goodB cs rs) := rfl
  simp only [hg, Option.bind_some]
  cases hb : goodB cs rs with
  | false => simp only [Bool.false_eq_true, if_false]; exact Ev.now _
  | true =>
    have h := good_bounds hb
    simp only [if_true]
    refine Ev.bind (rectext_ev cs rs h.2.2.1 h.2.2.2 (by omega) (by omega)) ?_
    exact Ev.now _
theorem newlines_rec {cs : List S94} {rs : List S96} (hb : goodB cs rs = true) : ∃ kn, impl_withNewlines.f kn (keepR allK cs rs) = some (recT cs rs) := by
  have h := good_bounds hb
  refine Ev.rounds ?_
  rw [keep_all]
  refine newlines_ev _ (by rw [List.length_append, List.length_map, List.length_map]; omega) (fun x hx => ?_)
  rcases List.mem_append.1 hx with hx | hx
  · obtain ⟨y, hy, rfl⟩ := List.mem_map.1 hx
    exact ctxB_size (h.2.2.1 y hy)
  · obtain ⟨y, hy, rfl⟩ := List.mem_map.1 hx
    exact relB_size (h.2.2.2 y hy)
theorem FormatRecord_both (cs : List S94) (rs : List S96) : ∃ (k : Nat) (tx : ByteArray) (bb : Bool), spec_FormatRecord.f k cs rs = some (tx, bb) ∧ ∀ (W : World) (A B : Option Addr) (c d : Nat), LW W → Kd.C k94 W A cs.length cs → cs.length ≤ c → Kd.C k96 W B rs.length rs → rs.length ≤ d → Calls Tryd.prog 38 #[.agg #[.slice A cs.length c, .slice B rs.length d]] W fun e w' => e = .returned (.tuple #[.string tx, .bool bb]) ∧ Below W.heap.size W w' := by
  obtain ⟨k, hk⟩ := format_spec cs rs
  have hn : ∃ kn, goodB cs rs = true → impl_withNewlines.f kn (keepR allK cs rs) = some (recT cs rs) := by
    cases hb : goodB cs rs with
    | false => exact ⟨0, fun h => by cases h⟩
    | true =>
      obtain ⟨kn, hkn⟩ := newlines_rec hb
      exact ⟨kn, fun _ => hkn⟩
  obtain ⟨kn, hkn⟩ := hn
  exact ⟨k, _, _, hk, fun W A B c d hl h1 h2 h3 h4 => impl_FormatRecord.calls kn (recT cs rs) A c cs B d rs W h1 h2 h3 h4 hkn hl⟩
theorem law_FnExactFormatRecord_calls (A0 : Option Addr) (c0 : Nat) (l0 : List S119) (A1 : Option Addr) (c1 : Nat) (l1 : List S121) (w : World) (hr0 : Kd.C k119 w A0 l0.length l0) (hc0 : l0.length ≤ c0) (hr1 : Kd.C k121 w A1 l1.length l1) (hc1 : l1.length ≤ c1) (hlw : LW w) :
    Calls Tryd.prog 10 #[.agg #[.slice A0 l0.length c0, .slice A1 l1.length c1]] w fun e w' => e = .returned (.bool true) ∧ Below w.heap.size w w' :=
  laws_FnExactFormatRecord.calls A0 c0 l0 A1 c1 l1 w hr0 hc0 hr1 hc1 hlw (fun cs rs _ _ => FormatRecord_both cs rs)
end Go.Proofs.YtdmbboijcaelcaaDoor.Q
/-! ### Wf -/
/- What the library's callees want of the world, in one word. -/
namespace Go.Proofs.YtdmbboijcaelcaaDoor.Q
open Go.RowKit
def WF (w : World) : Prop := LW w ∧ EW w ∧ MX w
theorem WF.below {w w' : World} (h : WF w) (hb : Below w.heap.size w w') : WF w' := ⟨LW.below h.1 hb, EW.below h.2.1 hb, MX.below h.2.2 hb⟩
end Go.Proofs.YtdmbboijcaelcaaDoor.Q
/-! ### Std -/
/- strings.Split, ParseInt and FormatRecord in the printed form, over the world's word WF. -/
namespace Go.Proofs.YtdmbboijcaelcaaDoor.Q
open Go.RowKit Go.Proofs.YtdmbboijcaelcaaDoorW.PrintWords Go.Proofs.YtdmbboijcaelcaaDoorW.PrintLast
set_option linter.unusedVariables false
set_option linter.unusedSimpArgs false
def strings_Split.f (a0 a1 : ByteArray) : Option (List ByteArray) := if a0.size ≤ 1048576 ∧ 1 ≤ a1.size then some (cutB a0 a1) else none
theorem strings_Split.calls (a0 a1 : ByteArray) (r : List ByteArray) (w : World) (h : strings_Split.f a0 a1 = some r) (hwf : WF w) :
    Calls Tryd.prog 56 #[.string a0, .string a1] w fun e w' => ∃ v0_ : Value, e = .returned v0_ ∧ Kd.R Kd.string 9 w' w.heap.size (fun _ => True) v0_ r ∧ Below w.heap.size w w' := by
  unfold strings_Split.f at h
  by_cases hc : a0.size ≤ 1048576 ∧ 1 ≤ a1.size
  · rw [if_pos hc] at h
    obtain rfl := Option.some.inj h
    exact (split_calls a0 a1 w hc.2 hc.1 hwf.2.2).mono fun e w' ⟨A, he, hR, hb⟩ => ⟨_, he, hR, hb⟩
  · rw [if_neg hc] at h
    cases h
def impl_ParseInt.f (a0 : ByteArray) : Option (Int × Bool) := if a0.size ≤ 1048576 then some (readL a0.data.toList) else none
theorem impl_ParseInt.calls (a0 : ByteArray) (r1 : Int) (r2 : Bool) (w : World) (h : impl_ParseInt.f a0 = some (r1, r2)) (hwf : WF w) :
    Calls Tryd.prog 30 #[.string a0] w fun e w' => e = .returned (.tuple #[.int .i64 r1, .bool r2]) ∧ Below w.heap.size w w' := by
  unfold impl_ParseInt.f at h
  by_cases hc : a0.size ≤ 1048576
  · rw [if_pos hc] at h
    have h2 := Option.some.inj h
    have h3 := parseint_calls a0 hc w hwf.1 hwf.2.1
    rw [h2] at h3
    exact h3
  · rw [if_neg hc] at h
    cases h
def impl_FmtStd.f (cs : List S94) (rs : List S96) : Option (ByteArray × Bool) := some (fmtRI cs rs (recT cs rs))
theorem impl_FmtStd.calls (A0_0 : Option Addr) (c0_0 : Nat) (l0_0 : List S94) (A0_1 : Option Addr) (c0_1 : Nat) (l0_1 : List S96) (r1 : ByteArray) (r2 : Bool) (w : World) (hr0_0 : Kd.C k94 w A0_0 l0_0.length l0_0) (hc0_0 : l0_0.length ≤ c0_0) (hr0_1 : Kd.C k96 w A0_1 l0_1.length l0_1) (hc0_1 : l0_1.length ≤ c0_1) (h : impl_FmtStd.f l0_0 l0_1 = some (r1, r2)) (hwf : WF w) :
    Calls Tryd.prog 38 #[.agg #[.slice A0_0 l0_0.length c0_0, .slice A0_1 l0_1.length c0_1]] w fun e w' => e = .returned (.tuple #[.string r1, .bool r2]) ∧ Below w.heap.size w w' := by
  have h2 := Option.some.inj h
  have hn : ∃ kn, goodB l0_0 l0_1 = true → impl_withNewlines.f kn (keepR allK l0_0 l0_1) = some (recT l0_0 l0_1) := by
    cases hb : goodB l0_0 l0_1 with
    | false => exact ⟨0, fun h => by cases h⟩
    | true =>
      obtain ⟨kn, hkn⟩ := newlines_rec hb
      exact ⟨kn, fun _ => hkn⟩
  obtain ⟨kn, hkn⟩ := hn
  have h3 := impl_FormatRecord.calls kn (recT l0_0 l0_1) A0_0 c0_0 l0_0 A0_1 c0_1 l0_1 w hr0_0 hc0_0 hr0_1 hc0_1 hkn hwf.1
  rw [h2] at h3
  exact h3
end Go.Proofs.YtdmbboijcaelcaaDoor.Q
/-! ### QF43 -/
-- Written by a program of this session (wip/xprint.py over the kit's printer).
namespace Go.Proofs.YtdmbboijcaelcaaDoor.Q
open Go.RowKit Go.Proofs.YtdmbboijcaelcaaDoorW.PrintWords Go.Proofs.YtdmbboijcaelcaaDoorW.PrintLast
set_option linter.unusedVariables false
set_option linter.unusedSimpArgs false

/-! ### spec_ParseRecord: function 43 -/
mutual
def spec_ParseRecord.j0 : Nat → ByteArray → List ByteArray → Bool → Option ((List (S94)) × (List (S96)) × Bool)
 | 0, _, _, _ => none
 | k + 1, x0, x5, x28 => if x28 = true then (some (([] : List (S94)), ([] : List (S96)), false)) else (spec_ParseRecord.l0 k x0 x5 0 ([] : List (S94)) ([] : List (S96)))
def spec_ParseRecord.l0 : Nat → ByteArray → List ByteArray → Int → List (S94) → List (S96) → Option ((List (S94)) × (List (S96)) × Bool)
 | 0, _, _, _, _, _ => none
 | k + 1, x0, x5, x6, x153000, x153001 => if x6 < (wrap64 ((x5.length : Int) - 1)) then (if 0 ≤ x6 then (if x6 < (x5.length : Int) then ((spec_l1Split.f k (rdOf ByteArray.empty x5 x6) 32).bind fun t158 => (if (t158.length : Int) = 3 then (if 0 < (t158.length : Int) then ((spec_l1Read.f k (rdOf ByteArray.empty t158 0)).bind fun bt162 => (if 1 < (t158.length : Int) then ((spec_l1Read.f k (rdOf ByteArray.empty t158 1)).bind fun bt165 => (if 2 < (t158.length : Int) then ((spec_l1Read.f k (rdOf ByteArray.empty t158 2)).bind fun bt168 => (if (rdOf ByteArray.empty t158 0).toList = ([99, 111, 110, 116, 101, 120, 116] : List UInt8) then (if bt165.2 = true then ((spec_l3Kind.f k (rdOf ByteArray.empty t158 2)).bind fun t172 => (spec_ParseRecord.j2 k x0 x5 x6 t158 bt162.1 bt162.2 bt165.1 bt168.1 bt168.2 (decide (t172 > 0)) x153000 x153001)) else (spec_ParseRecord.j2 k x0 x5 x6 t158 bt162.1 bt162.2 bt165.1 bt168.1 bt168.2 false x153000 x153001)) else (spec_ParseRecord.j2 k x0 x5 x6 t158 bt162.1 bt162.2 bt165.1 bt168.1 bt168.2 false x153000 x153001))) else (none))) else (none))) else (none)) else (some (([] : List (S94)), ([] : List (S96)), false)))) else (none)) else (none)) else ((spec_l2Good.f x153000 x153001).bind fun t182 => (if t182 = true then ((spec_l3Text.f k x153000 x153001).bind fun t183 => (if t183.toList = x0.toList then (some (x153000, x153001, true)) else (some (([] : List (S94)), ([] : List (S96)), false)))) else (some (([] : List (S94)), ([] : List (S96)), false))))
def spec_ParseRecord.j2 : Nat → ByteArray → List ByteArray → Int → List ByteArray → Int → Bool → Int → Int → Bool → Bool → List (S94) → List (S96) → Option ((List (S94)) × (List (S96)) × Bool)
 | 0, _, _, _, _, _, _, _, _, _, _, _, _ => none
 | k + 1, x0, x5, x6, x7, x8, x9, x10, x12, x13, x68, x153000, x153001 => if x68 = true then (if 2 < (x7.length : Int) then ((spec_l3Kind.f k (rdOf ByteArray.empty x7 2)).bind fun t174 => (if x153000.length < 8796093022208 then (spec_ParseRecord.l0 k x0 x5 (wrap64 (x6 + 1)) (x153000 ++ [(⟨x10, t174⟩ : S94)]) x153001) else (none))) else (none)) else (if x9 = true then (if 1 < (x7.length : Int) then (if (rdOf ByteArray.empty x7 1).toList = ([97, 98, 111, 118, 101] : List UInt8) then (if x13 = true then (if x153001.length < 8796093022208 then (spec_ParseRecord.l0 k x0 x5 (wrap64 (x6 + 1)) x153000 (x153001 ++ [(⟨x8, x12⟩ : S96)])) else (none)) else (some (([] : List (S94)), ([] : List (S96)), false))) else (some (([] : List (S94)), ([] : List (S96)), false))) else (none)) else (some (([] : List (S94)), ([] : List (S96)), false)))
end
def spec_ParseRecord.f (k : Nat) (a0 : ByteArray) : Option ((List (S94)) × (List (S96)) × Bool) := (spec_l1Split.f k a0 10).bind fun t153 => (if (a0.size : Int) > 4000 then (spec_ParseRecord.j0 k a0 t153 true) else (if 0 ≤ (wrap64 ((t153.length : Int) - 1)) then (if (wrap64 ((t153.length : Int) - 1)) < (t153.length : Int) then (spec_ParseRecord.j0 k a0 t153 ((rdOf ByteArray.empty t153 (wrap64 ((t153.length : Int) - 1))).toList != ([] : List UInt8))) else (none)) else (none)))
theorem spec_ParseRecord.mono_l : ∀ k, (∀ y0 y1 y2, LeO (spec_ParseRecord.j0 k y0 y1 y2) (spec_ParseRecord.j0 (k + 1) y0 y1 y2)) ∧ (∀ y0 y1 y2 y3 y4, LeO (spec_ParseRecord.l0 k y0 y1 y2 y3 y4) (spec_ParseRecord.l0 (k + 1) y0 y1 y2 y3 y4)) ∧ (∀ y0 y1 y2 y3 y4 y5 y6 y7 y8 y9 y10 y11, LeO (spec_ParseRecord.j2 k y0 y1 y2 y3 y4 y5 y6 y7 y8 y9 y10 y11) (spec_ParseRecord.j2 (k + 1) y0 y1 y2 y3 y4 y5 y6 y7 y8 y9 y10 y11))
 | 0 => ⟨fun _ _ _ r h => by simp [spec_ParseRecord.j0] at h, fun _ _ _ _ _ r h => by simp [spec_ParseRecord.l0] at h, fun _ _ _ _ _ _ _ _ _ _ _ _ r h => by simp [spec_ParseRecord.j2] at h⟩
 | k + 1 => by
  obtain ⟨ih0, ih1, ih2⟩ := spec_ParseRecord.mono_l k
  refine ⟨?_, ?_, ?_⟩
  ·intro y0 y1 y2
   unfold spec_ParseRecord.j0
   repeat' first
   | (with_reducible exact ih0 _ _ _)
   | (with_reducible exact ih1 _ _ _ _ _)
   | (with_reducible exact ih2 _ _ _ _ _ _ _ _ _ _ _ _)
   | (with_reducible exact spec_l1Read.mono _ _)
   | (with_reducible exact spec_l1Split.mono _ _ _)
   | (with_reducible exact spec_l3Kind.mono _ _)
   | (with_reducible exact spec_l3Text.mono _ _ _)
   | (with_reducible exact LeO.refl _)
   | (with_reducible exact LeO.none _)
   | (with_reducible refine LeO.ite ?_ ?_)
   | (with_reducible refine LeO.bind ?_ (fun _ => ?_))
   | exact ih0 _ _ _
   | exact ih1 _ _ _ _ _
   | exact ih2 _ _ _ _ _ _ _ _ _ _ _ _
   | exact spec_l1Read.mono _ _
   | exact spec_l1Split.mono _ _ _
   | exact spec_l3Kind.mono _ _
   | exact spec_l3Text.mono _ _ _
   | exact LeO.none _
   | refine LeO.ite ?_ ?_
   | refine LeO.bind ?_ (fun _ => ?_)
  ·intro y0 y1 y2 y3 y4
   unfold spec_ParseRecord.l0
   repeat' first
   | (with_reducible exact ih0 _ _ _)
   | (with_reducible exact ih1 _ _ _ _ _)
   | (with_reducible exact ih2 _ _ _ _ _ _ _ _ _ _ _ _)
   | (with_reducible exact spec_l1Read.mono _ _)
   | (with_reducible exact spec_l1Split.mono _ _ _)
   | (with_reducible exact spec_l3Kind.mono _ _)
   | (with_reducible exact spec_l3Text.mono _ _ _)
   | (with_reducible exact LeO.refl _)
   | (with_reducible exact LeO.none _)
   | (with_reducible refine LeO.ite ?_ ?_)
   | (with_reducible refine LeO.bind ?_ (fun _ => ?_))
   | exact ih0 _ _ _
   | exact ih1 _ _ _ _ _
   | exact ih2 _ _ _ _ _ _ _ _ _ _ _ _
   | exact spec_l1Read.mono _ _
   | exact spec_l1Split.mono _ _ _
   | exact spec_l3Kind.mono _ _
   | exact spec_l3Text.mono _ _ _
   | exact LeO.none _
   | refine LeO.ite ?_ ?_
   | refine LeO.bind ?_ (fun _ => ?_)
  ·intro y0 y1 y2 y3 y4 y5 y6 y7 y8 y9 y10 y11
   unfold spec_ParseRecord.j2
   repeat' first
   | (with_reducible exact ih0 _ _ _)
   | (with_reducible exact ih1 _ _ _ _ _)
   | (with_reducible exact ih2 _ _ _ _ _ _ _ _ _ _ _ _)
   | (with_reducible exact spec_l1Read.mono _ _)
   | (with_reducible exact spec_l1Split.mono _ _ _)
   | (with_reducible exact spec_l3Kind.mono _ _)
   | (with_reducible exact spec_l3Text.mono _ _ _)
   | (with_reducible exact LeO.refl _)
   | (with_reducible exact LeO.none _)
   | (with_reducible refine LeO.ite ?_ ?_)
   | (with_reducible refine LeO.bind ?_ (fun _ => ?_))
   | exact ih0 _ _ _
   | exact ih1 _ _ _ _ _
   | exact ih2 _ _ _ _ _ _ _ _ _ _ _ _
   | exact spec_l1Read.mono _ _
   | exact spec_l1Split.mono _ _ _
   | exact spec_l3Kind.mono _ _
   | exact spec_l3Text.mono _ _ _
   | exact LeO.none _
   | refine LeO.ite ?_ ?_
   | refine LeO.bind ?_ (fun _ => ?_)
theorem spec_ParseRecord.mono : ∀ a0 k, LeO (spec_ParseRecord.f k a0) (spec_ParseRecord.f (k + 1) a0) := by
 intro a0 k
 obtain ⟨ih0, ih1, ih2⟩ := spec_ParseRecord.mono_l k
 unfold spec_ParseRecord.f
 repeat' first
   | (with_reducible exact ih0 _ _ _)
   | (with_reducible exact ih1 _ _ _ _ _)
   | (with_reducible exact ih2 _ _ _ _ _ _ _ _ _ _ _ _)
   | (with_reducible exact spec_l1Read.mono _ _)
   | (with_reducible exact spec_l1Split.mono _ _ _)
   | (with_reducible exact spec_l3Kind.mono _ _)
   | (with_reducible exact spec_l3Text.mono _ _ _)
   | (with_reducible exact LeO.refl _)
   | (with_reducible exact LeO.none _)
   | (with_reducible refine LeO.ite ?_ ?_)
   | (with_reducible refine LeO.bind ?_ (fun _ => ?_))
   | exact ih0 _ _ _
   | exact ih1 _ _ _ _ _
   | exact ih2 _ _ _ _ _ _ _ _ _ _ _ _
   | exact spec_l1Read.mono _ _
   | exact spec_l1Split.mono _ _ _
   | exact spec_l3Kind.mono _ _
   | exact spec_l3Text.mono _ _ _
   | exact LeO.none _
   | refine LeO.ite ?_ ?_
   | refine LeO.bind ?_ (fun _ => ?_)
def spec_ParseRecord.T16 : Bool × List (List Nat × List Nat) := (true, [([], []), ([0], [0]), ([], []), ([], []), ([3], [3]), ([4], [4]), ([5], [5]), ([2, 6], [2, 6]), ([7], [7]), ([1, 8, 6], [1, 8]), ([0, 1, 2, 3, 4, 5, 6, 7, 8, 9], []), ([10, 9, 9, 0, 1, 2, 3, 4, 5, 6, 7, 8, 9], [9, 10])])
def spec_ParseRecord.B16 : List Nat := [0, 1, 0, 0, 8, 24, 56, 124, 252, 511, 1023, 2047]
theorem spec_ParseRecord.tab16 : rtab .any (opsOf Tryd.f43 16) = spec_ParseRecord.T16 := by kernel_rfl
theorem spec_ParseRecord.bits16 : waitsOk spec_ParseRecord.T16.2 spec_ParseRecord.B16 = true := by kernel_rfl
set_option maxHeartbeats 8000000 in
set_option maxRecDepth 100000 in
theorem spec_ParseRecord.calls (k : Nat) (a0 : ByteArray) (r1 : List (S94)) (r2 : List (S96)) (r3 : Bool) (w : World) (h : spec_ParseRecord.f k a0 = some (r1, r2, r3)) :
  Calls Tryd.prog 43 #[.string a0] w fun e w' => ∃ v0_ v1_ : Value, e = .returned (.tuple #[.agg #[v0_, v1_], .bool r3]) ∧ Kd.R k94 94 w' w.heap.size (fun _ => True) v0_ r1 ∧ Kd.R k96 96 w' w.heap.size (fun _ => True) v1_ r2 ∧ Below w.heap.size w w' := by
 have hu52 := Tryd.underlying52
 have hu94 := Tryd.underlying94
 have hu96 := Tryd.underlying96
 have HB := Aside0.mk (Below.refl w.heap.size w)
 have H : ((spec_l1Split.f k a0 10).bind fun t153 => (if (a0.size : Int) > 4000 then (spec_ParseRecord.j0 k a0 t153 true) else (if 0 ≤ (wrap64 ((t153.length : Int) - 1)) then (if (wrap64 ((t153.length : Int) - 1)) < (t153.length : Int) then (spec_ParseRecord.j0 k a0 t153 ((rdOf ByteArray.empty t153 (wrap64 ((t153.length : Int) - 1))).toList != ([] : List UInt8))) else (none)) else (none)))) = some (r1, r2, r3) := h
 clear h
 replace H := Option.bind_eq_some_iff.mp H
 obtain ⟨t153, A20, H⟩ := H
 replace H : (if (a0.size : Int) > 4000 then (spec_ParseRecord.j0 k a0 t153 true) else (if 0 ≤ (wrap64 ((t153.length : Int) - 1)) then (if (wrap64 ((t153.length : Int) - 1)) < (t153.length : Int) then (spec_ParseRecord.j0 k a0 t153 ((rdOf ByteArray.empty t153 (wrap64 ((t153.length : Int) - 1))).toList != ([] : List UInt8))) else (none)) else (none))) = some (r1, r2, r3) := H
 have A2 := Aside0.mk A20
 clear A20
 have HC3 := Aside0.mk H
 clear H
 go_enter Tryd.func43, Tryd.ntmps43
 go_upto_region 3 with (first | ((with_reducible refine gate_dst (N := 2) rfl ?_); refine box_event ?hg (N := 2) ?hd (cs := #[.slice none 0 0, .slice none 0 0]) (t := 52) ?hr ?_; (case hd => rfl); (case hg => rfl); (case hr => first | (go_simp; done) | (go_simp; rfl)); intro gb151 hg w4 hbox hb; have n0_ := Aside0.mk (below_step (wz_ HB.out) hb); have n1_ := Aside0.mk (hbox); have n2_ := Aside0.mk ((by rw [hg]; exact (below_size (wz_ HB.out)) : w.heap.size ≤ gb151)); have n3_ := Aside0.mk ((by rw [hg]; exact (below_size (wz_ HB.out)) : w.heap.size ≤ gb151)); clear HB; have HB := n0_; have BK151 := n1_; have GW151 := n2_; have GE151 := n3_; clear n0_ n1_ n2_ n3_; clear hb hbox hg) | ((with_reducible refine gate_dst (N := 4) rfl ?_); refine box_event ?hg (N := 4) ?hd (cs := #[.slice none 0 0, .slice none 0 0]) (t := 52) ?hr ?_; (case hd => rfl); (case hg => rfl); (case hr => first | (go_simp; done) | (go_simp; rfl)); intro gb152 hg w5 hbox hb; have n0_ := Aside0.mk (blk_below (bz_ BK151.out) hb); have n1_ := Aside0.mk (below_step (by repeat (first | (with_reducible first | exact HB.out | apply below_alloc | apply pw_below_drewN | apply below_drew1 | refine below_set ?_ GE151.out) | exact HB.out)) hb); have n2_ := Aside0.mk (hbox); have n3_ := Aside0.mk ((by rw [hg]; exact (below_size (by repeat (first | (with_reducible first | exact HB.out | apply below_alloc | apply pw_below_drewN | apply below_drew1 | refine below_set ?_ GE151.out) | exact HB.out))) : w.heap.size ≤ gb152)); have n4_ := Aside0.mk ((by rw [hg]; exact (below_size (by repeat (first | (with_reducible first | exact HB.out | apply below_alloc | apply pw_below_drewN | apply below_drew1 | refine below_set ?_ GE151.out) | exact HB.out))) : w.heap.size ≤ gb152)); have n5_ := Aside0.mk ((by rw [hg]; exact Nat.ne_of_lt (blk_lt (g := gb151) (o := .cells #[.slice none 0 0, .slice none 0 0] 52 (0, 0)) (bz_ BK151.out)) : gb151 ≠ gb152)); have n6_ := Aside0.mk ((by rw [hg]; exact Nat.ne_of_gt (blk_lt (g := gb151) (o := .cells #[.slice none 0 0, .slice none 0 0] 52 (0, 0)) (bz_ BK151.out)) : gb152 ≠ gb151)); clear BK151; clear HB; have BK151 := n0_; have HB := n1_; have BK152 := n2_; have GW152 := n3_; have GE152 := n4_; have NB151_152 := n5_; have NB152_151 := n6_; clear n0_ n1_ n2_ n3_ n4_ n5_ n6_; clear hb hbox hg; have hnb6 := NB152_151.out; have hnc6 := NB151_152.out; have hcz7_0 : w5.cell? ⟨gb152, 0, none⟩ = some (.slice none 0 0) := (blk_cell BK152.out 0).trans rfl; have hcz7_1 : w5.cell? ⟨gb152, 1, none⟩ = some (.slice none 0 0) := (blk_cell BK152.out 1).trans rfl; have hfz7_0 := blk_frozen BK152.out 0; have hfz7_1 := blk_frozen BK152.out 1) | ((with_reducible refine gate_callee (f := 55) rfl ?_); refine goesL_ (some 16) rfl rfl Tryd.func55 (by kernel_rfl) rfl #[.string a0, .int .u8 10] rfl (by (try simp only [List.map_toArray, List.map_cons, List.map_nil]); first | done | rfl | (simp only [List.length_drop, List.length_take]; rfl)) ?_; (with_reducible refine (spec_l1Split.calls k a0 10 t153 _ A2.out).mono ?_); rintro e w8 ⟨v154, rfl, ho0, hb⟩; refine ⟨_, rfl, ?_⟩; have n0_ := Aside0.mk (Kd.R_lower ho0 (below_size (by repeat (first | (with_reducible first | exact HB.out | apply below_alloc | apply pw_below_drewN | apply below_drew1 | refine below_set ?_ GE151.out | refine below_set ?_ GE152.out) | exact HB.out)))); have n1_ := Aside0.mk (blk_below (g := gb151) (o := .cells #[.slice none 0 0, .slice none 0 0] 52 (0, 0)) (by (with_reducible repeat (first | refine blk_drewN ?_ _ | refine blk_drew ?_ | refine blk_alloc ?_ _)); refine blk_far ?_ NB151_152.out _; (with_reducible repeat (first | refine blk_drewN ?_ _ | refine blk_drew ?_ | refine blk_alloc ?_ _)); refine blk_far ?_ NB151_152.out _; (with_reducible repeat (first | refine blk_drewN ?_ _ | refine blk_drew ?_ | refine blk_alloc ?_ _)); exact BK151.out) hb); have n2_ := Aside0.mk (blk_below (g := gb152) (o := .cells #[.slice none 0 0, .slice none 0 0] 52 (0, 0)) (by (with_reducible repeat (first | refine blk_drewN ?_ _ | refine blk_drew ?_ | refine blk_alloc ?_ _)); refine blk_put (cs := #[.slice none 0 0, .slice none 0 0]) ?_ 1 _ rfl; (with_reducible repeat (first | refine blk_drewN ?_ _ | refine blk_drew ?_ | refine blk_alloc ?_ _)); refine blk_put (cs := #[.slice none 0 0, .slice none 0 0]) ?_ 0 _ rfl; (with_reducible repeat (first | refine blk_drewN ?_ _ | refine blk_drew ?_ | refine blk_alloc ?_ _)); exact BK152.out) hb); have n3_ := Aside0.mk (below_step (by repeat (first | (with_reducible first | exact HB.out | apply below_alloc | apply pw_below_drewN | apply below_drew1 | refine below_set ?_ GE151.out | refine below_set ?_ GE152.out) | exact HB.out)) hb); clear BK151; clear BK152; clear HB; have HO155 := n0_; have BK151 := n1_; have BK152 := n2_; have HB := n3_; clear n0_ n1_ n2_ n3_; (try clear hb); (try clear hb2); (try clear hk); (try clear hi); (try clear ho0)))
 (try simp only [Act.put, List.setIfInBounds_toArray, List.set_cons_zero, List.set_cons_succ])
 go_cut [28] (fun v28 wc => ∃ (kq : Nat) (x28_2 : Bool), v28 = .bool x28_2 ∧ Aside0 (spec_ParseRecord.j0 kq a0 t153 x28_2 = some (r1, r2, r3)) ∧ Aside0 (kq ≤ k) ∧ Aside0 (Kd.R Kd.string 9 wc w.heap.size (fun _ => True) v154 t153) ∧ Aside0 (wc.heap[gb151]? = some (.cells #[(.slice none 0 0), (.slice none 0 0)] 52 (0, 0))) ∧ Aside0 (wc.heap[gb152]? = some (.cells #[(.slice none 0 0), (.slice none 0 0)] 52 (0, 0))) ∧ Aside0 (Below w.heap.size w wc))
 case first =>
  have H := HC3.out
  clear HC3
  by_cases c9 : (a0.size : Int) > 4000
  ·rw [if_pos c9] at H
   have c9b0 : decide (4000 < (a0.size : Int)) = true := decide_eq_true c9
   have c9b1 : decide (4000 < a0.size) = true := decide_eq_true (by omega)
   clear c9
   (first | rw [c9b0] | (simp only [i64_w, i32_w]; rw [c9b0]) | skip)
   have H' := Aside0.mk H
   clear H
   go_wp2
   go_meet
   case rel => exact ⟨_, (true), (by first | rfl | (simp; done) | (simp [*]; done)), H', ⟨by first | omega | exact Nat.le_refl _⟩, ⟨rz_ HO155.out⟩, ⟨bz_ BK151.out⟩, ⟨bz_ BK152.out⟩, ⟨by repeat (first | (with_reducible first | exact HB.out | apply below_alloc | apply pw_below_drewN | apply below_drew1 | refine below_set ?_ GE151.out | refine below_set ?_ GE152.out) | exact HB.out)⟩⟩
  ·rw [if_neg c9] at H
   have c9b0 : decide (4000 < (a0.size : Int)) = false := decide_eq_false c9
   have c9b1 : decide (4000 < a0.size) = false := decide_eq_false (by omega)
   clear c9
   (first | rw [c9b0] | (simp only [i64_w, i32_w]; rw [c9b0]) | skip)
   obtain ⟨ji10, hji10⟩ : ∃ j_ : Int, (wrap64 ((t153.length : Int) - 1)) = j_ := ⟨_, rfl⟩
   replace H : (if 0 ≤ (ji10) then (if (ji10) < (t153.length : Int) then (spec_ParseRecord.j0 k a0 t153 ((rdOf ByteArray.empty t153 (ji10)).toList != ([] : List UInt8))) else (none)) else (none)) = some (r1, r2, r3) := by first | (rw [hji10] at H; exact H) | (simp only [hji10] at H ⊢; exact H)
   have hji10w : (IntKind.i64.wrap ((t153.length : Int) - 1)) = ji10 := (i64_w _).trans hji10
   by_cases c11 : 0 ≤ (ji10)
   ·rw [if_pos c11] at H
    have c11b0 : decide (0 ≤ (ji10)) = true := decide_eq_true c11
    clear c11
    by_cases c12 : (ji10) < (t153.length : Int)
    ·rw [if_pos c12] at H
     have c12b0 : decide ((ji10) < (t153.length : Int)) = true := decide_eq_true c12
     clear c12
     have H' := Aside0.mk H
     clear H
     obtain ⟨Ao13, co13, eo13⟩ := Kd.R_slice HO155.out
     subst eo13
     have p156 : 0 ≤ ((ji10) : Int) := of_decide_eq_true (by first | (with_reducible assumption) | assumption)
     have q156 : (ji10) < (t153.length : Int) := of_decide_eq_true (by first | (with_reducible assumption) | assumption)
     obtain ⟨ad156, e156, hx156_0⟩ := Kd.at_string (Kd.R_reads' HO155.out).2.2 (ji10) p156 q156
     cases e156
     replace p156 := eq_true p156
     replace q156 := eq_true q156
     go_wp2
     go_meet
     case rel => exact ⟨_, (((rdOf ByteArray.empty t153 (ji10)).toList != ([] : List UInt8))), (by first | rfl | (simp; done) | (simp only [← hji10] <;> (first | rfl | (simp; done) | (simp; generalize (rdOf ByteArray.empty t153 _).toList = z_; cases z_ <;> rfl))) | (simp [*]; done)), H', ⟨by first | omega | exact Nat.le_refl _⟩, ⟨rz_ HO155.out⟩, ⟨bz_ BK151.out⟩, ⟨bz_ BK152.out⟩, ⟨by repeat (first | (with_reducible first | exact HB.out | apply below_alloc | apply pw_below_drewN | apply below_drew1 | refine below_set ?_ GE151.out | refine below_set ?_ GE152.out) | exact HB.out)⟩⟩
    ·rw [if_neg c12] at H
     exact absurd H (by simp)
   ·rw [if_neg c11] at H
    exact absurd H (by simp)
 case rest =>
  clear HC3
  try clear c1
  try clear p1
  try clear q1
  try clear hx1
  try clear p2
  try clear c4
  try clear c5
  try clear c6
  try clear p6
  try clear c9
  try clear c9b0
  try clear c9b1
  try clear c11
  try clear c11b0
  try clear c12
  try clear c12b0
  try clear hcz7_0
  try clear hcz7_1
  try clear hfz7_0
  try clear hfz7_1
  try clear hx156_0
  try clear p156
  try clear q156
  obtain ⟨kq, x28_2, rfl, HA, HJ2, HO_5, BK151, BK152, HB⟩ := hcut
  cases kq with
  | zero => exact absurd HA.out (by simp [spec_ParseRecord.j0])
  | succ kj2 =>
   have H := HA.out
   clear HA
   simp only [spec_ParseRecord.j0] at H
   by_cases c14 : x28_2 = true
   ·subst c14
    have H1 : (some (([] : List (S94)), ([] : List (S96)), false)) = some (r1, r2, r3) := by rw [if_pos rfl] at H; exact H
    clear H
    have H := H1
    clear H1
    simp only [Option.some.injEq, Prod.mk.injEq] at H
    obtain ⟨rfl, rfl, rfl⟩ := H
    have hnb15 := NB151_152.out
    have hnc15 := NB152_151.out
    have hcz16_0 : wc.cell? ⟨gb151, 0, none⟩ = some (.slice none 0 0) := (blk_cell BK151.out 0).trans rfl
    have hcz16_1 : wc.cell? ⟨gb151, 1, none⟩ = some (.slice none 0 0) := (blk_cell BK151.out 1).trans rfl
    have hfz16_0 := blk_frozen BK151.out 0
    have hfz16_1 := blk_frozen BK151.out 1
    go_wp2
    refine bodyPost_ret (results_ct rfl _ _ gb151 52 #[.slice none 0 0, .slice none 0 0] (0, 0) _ rfl (by (with_reducible repeat (first | refine blk_drewN ?_ _ | refine blk_drew ?_ | refine blk_alloc ?_ _)); refine blk_put (cs := #[.slice none 0 0, .slice none 0 0]) ?_ 1 _ rfl; (with_reducible repeat (first | refine blk_drewN ?_ _ | refine blk_drew ?_ | refine blk_alloc ?_ _)); refine blk_put (cs := #[.slice none 0 0, .slice none 0 0]) ?_ 0 _ rfl; (with_reducible repeat (first | refine blk_drewN ?_ _ | refine blk_drew ?_ | refine blk_alloc ?_ _)); exact BK151.out) Tryd.underlying52 rfl (by kernel_rfl)) rfl ?_
    exact ⟨_, _, by first | rfl | (simp [errW_none, errW_some] <;> rfl) | (simp [*, errW_none, errW_some] <;> rfl), by first | exact Kd.R_nil _ _ _ _ _ | exact Kd.N_nil _ _ _ _ _ | exact Kd.V_nil _ _ _ _ _ | exact Kd.Q_nil _ _ _ _ _ | exact Kd.S_nil _ _ _ _ _, by first | exact Kd.R_nil _ _ _ _ _ | exact Kd.N_nil _ _ _ _ _ | exact Kd.V_nil _ _ _ _ _ | exact Kd.Q_nil _ _ _ _ _ | exact Kd.S_nil _ _ _ _ _, by repeat (first | (with_reducible first | exact HB.out | apply below_alloc | apply pw_below_drewN | apply below_drew1 | refine below_set ?_ GE151.out | refine below_set ?_ GE152.out) | exact HB.out)⟩
   ·replace c14 := Bool.eq_false_iff.mpr c14
    subst c14
    have H1 : (spec_ParseRecord.l0 kj2 a0 t153 0 ([] : List (S94)) ([] : List (S96))) = some (r1, r2, r3) := by rw [if_neg (show ¬ (false = true) by decide)] at H; exact H
    clear H
    have H := H1
    clear H1
    have H' := Aside0.mk H
    clear H
    go_wp2
    go_loopg [6] kj2 (fun kq v6 w' => ∃ (x6_2 : Int) (x153000_2 : List (S94)) (x153001_2 : List (S96)) (u153000 : Value) (u153001 : Value), v6 = .int .i64 x6_2 ∧ Aside0 (spec_ParseRecord.l0 kq a0 t153 x6_2 x153000_2 x153001_2 = some (r1, r2, r3)) ∧ Aside0 (kq ≤ kj2) ∧ Aside0 (Kd.R Kd.string 9 w' w.heap.size (fun _ => True) v154 t153) ∧ Aside0 (Kd.R k94 94 w' w.heap.size (fun _ => True) u153000 x153000_2) ∧ Aside0 (Kd.R k96 96 w' w.heap.size (fun _ => True) u153001 x153001_2) ∧ Aside0 (w'.heap[gb151]? = some (.cells #[(.slice none 0 0), (.slice none 0 0)] 52 (0, 0))) ∧ Aside0 (w'.heap[gb152]? = some (.cells #[u153000, u153001] 52 (0, 0))) ∧ Aside0 (Below w.heap.size w w'))
    case atStart => exact ⟨(0), (([] : List (S94))), (([] : List (S96))), (.slice none 0 0), (.slice none 0 0), (by first | rfl | (simp; done) | (simp [*]; done)), H', ⟨Nat.le_refl _⟩, ⟨rz_ HO_5.out⟩, ⟨by first | exact Kd.R_nil _ _ _ _ _ | exact Kd.N_nil _ _ _ _ _ | exact Kd.V_nil _ _ _ _ _ | exact Kd.Q_nil _ _ _ _ _ | exact Kd.S_nil _ _ _ _ _⟩, ⟨by first | exact Kd.R_nil _ _ _ _ _ | exact Kd.N_nil _ _ _ _ _ | exact Kd.V_nil _ _ _ _ _ | exact Kd.Q_nil _ _ _ _ _ | exact Kd.S_nil _ _ _ _ _⟩, ⟨bz_ BK151.out⟩, ⟨bz_ BK152.out⟩, ⟨by repeat (first | (with_reducible first | exact HB.out | apply below_alloc | apply pw_below_drewN | apply below_drew1 | refine below_set ?_ GE151.out | refine below_set ?_ GE152.out) | exact HB.out)⟩⟩
    case round =>
     clear H'
     try clear c1
     try clear p1
     try clear q1
     try clear hx1
     try clear p2
     try clear c4
     try clear c5
     try clear c6
     try clear p6
     try clear c9
     try clear c9b0
     try clear c9b1
     try clear c11
     try clear c11b0
     try clear c12
     try clear c12b0
     try clear c14
     try clear c15
     try clear p15
     try clear q15
     try clear hx15
     try clear hcz16_0
     try clear hcz16_1
     try clear hcz7_0
     try clear hcz7_1
     try clear hfz16_0
     try clear hfz16_1
     try clear hfz7_0
     try clear hfz7_1
     try clear hx156_0
     try clear p1
     try clear p156
     try clear p2
     try clear p6
     try clear q1
     try clear q156
     obtain ⟨x6_2, x153000_2, x153001_2, u153000, u153001, rfl, HA, HK2, HO_5, HO_153000, HO_153001, BK151, BK152, HB⟩ := hrel
     cases gk with
     | zero => exact absurd HA.out (by simp [spec_ParseRecord.l0])
     | succ k2 =>
      have H := HA.out
      clear HA
      simp only [spec_ParseRecord.l0] at H
      by_cases c17 : x6_2 < (wrap64 ((t153.length : Int) - 1))
      ·rw [if_pos c17] at H
       have c17b0 : decide (x6_2 < (wrap64 ((t153.length : Int) - 1))) = true := decide_eq_true c17
       clear c17
       by_cases c18 : 0 ≤ x6_2
       ·rw [if_pos c18] at H
        have c18b0 : decide (0 ≤ x6_2) = true := decide_eq_true c18
        clear c18
        by_cases c19 : x6_2 < (t153.length : Int)
        ·rw [if_pos c19] at H
         have c19b0 : decide (x6_2 < (t153.length : Int)) = true := decide_eq_true c19
         clear c19
         replace H := Option.bind_eq_some_iff.mp H
         obtain ⟨t158, A200, H⟩ := H
         replace H : (if (t158.length : Int) = 3 then (if 0 < (t158.length : Int) then ((spec_l1Read.f k2 (rdOf ByteArray.empty t158 0)).bind fun bt162 => (if 1 < (t158.length : Int) then ((spec_l1Read.f k2 (rdOf ByteArray.empty t158 1)).bind fun bt165 => (if 2 < (t158.length : Int) then ((spec_l1Read.f k2 (rdOf ByteArray.empty t158 2)).bind fun bt168 => (if (rdOf ByteArray.empty t158 0).toList = ([99, 111, 110, 116, 101, 120, 116] : List UInt8) then (if bt165.2 = true then ((spec_l3Kind.f k2 (rdOf ByteArray.empty t158 2)).bind fun t172 => (spec_ParseRecord.j2 k2 a0 t153 x6_2 t158 bt162.1 bt162.2 bt165.1 bt168.1 bt168.2 (decide (t172 > 0)) x153000_2 x153001_2)) else (spec_ParseRecord.j2 k2 a0 t153 x6_2 t158 bt162.1 bt162.2 bt165.1 bt168.1 bt168.2 false x153000_2 x153001_2)) else (spec_ParseRecord.j2 k2 a0 t153 x6_2 t158 bt162.1 bt162.2 bt165.1 bt168.1 bt168.2 false x153000_2 x153001_2))) else (none))) else (none))) else (none)) else (some (([] : List (S94)), ([] : List (S96)), false))) = some (r1, r2, r3) := H
         have A20 := Aside0.mk A200
         clear A200
         by_cases c21 : (t158.length : Int) = 3
         ·rw [if_pos c21] at H
          have c21b0 : ((t158.length : Int) == 3) = true := beq_iff_eq.mpr c21
          have c21b1 : ((t158.length : Int) != 3) = false := bne_eq_false_iff_eq.mpr c21
          clear c21
          by_cases c22 : 0 < (t158.length : Int)
          ·rw [if_pos c22] at H
           have c22b0 : decide (0 < (t158.length : Int)) = true := decide_eq_true c22
           have c22b1 : decide (0 < t158.length) = true := decide_eq_true (by omega)
           clear c22
           replace H := Option.bind_eq_some_iff.mp H
           obtain ⟨⟨t162, t163⟩, A230, H⟩ := H
           replace H : (if 1 < (t158.length : Int) then ((spec_l1Read.f k2 (rdOf ByteArray.empty t158 1)).bind fun bt165 => (if 2 < (t158.length : Int) then ((spec_l1Read.f k2 (rdOf ByteArray.empty t158 2)).bind fun bt168 => (if (rdOf ByteArray.empty t158 0).toList = ([99, 111, 110, 116, 101, 120, 116] : List UInt8) then (if bt165.2 = true then ((spec_l3Kind.f k2 (rdOf ByteArray.empty t158 2)).bind fun t172 => (spec_ParseRecord.j2 k2 a0 t153 x6_2 t158 t162 t163 bt165.1 bt168.1 bt168.2 (decide (t172 > 0)) x153000_2 x153001_2)) else (spec_ParseRecord.j2 k2 a0 t153 x6_2 t158 t162 t163 bt165.1 bt168.1 bt168.2 false x153000_2 x153001_2)) else (spec_ParseRecord.j2 k2 a0 t153 x6_2 t158 t162 t163 bt165.1 bt168.1 bt168.2 false x153000_2 x153001_2))) else (none))) else (none)) = some (r1, r2, r3) := H
           have A23 := Aside0.mk A230
           clear A230
           by_cases c24 : 1 < (t158.length : Int)
           ·rw [if_pos c24] at H
            have c24b0 : decide (1 < (t158.length : Int)) = true := decide_eq_true c24
            have c24b1 : decide (1 < t158.length) = true := decide_eq_true (by omega)
            clear c24
            replace H := Option.bind_eq_some_iff.mp H
            obtain ⟨⟨t165, t166⟩, A250, H⟩ := H
            replace H : (if 2 < (t158.length : Int) then ((spec_l1Read.f k2 (rdOf ByteArray.empty t158 2)).bind fun bt168 => (if (rdOf ByteArray.empty t158 0).toList = ([99, 111, 110, 116, 101, 120, 116] : List UInt8) then (if t166 = true then ((spec_l3Kind.f k2 (rdOf ByteArray.empty t158 2)).bind fun t172 => (spec_ParseRecord.j2 k2 a0 t153 x6_2 t158 t162 t163 t165 bt168.1 bt168.2 (decide (t172 > 0)) x153000_2 x153001_2)) else (spec_ParseRecord.j2 k2 a0 t153 x6_2 t158 t162 t163 t165 bt168.1 bt168.2 false x153000_2 x153001_2)) else (spec_ParseRecord.j2 k2 a0 t153 x6_2 t158 t162 t163 t165 bt168.1 bt168.2 false x153000_2 x153001_2))) else (none)) = some (r1, r2, r3) := H
            have A25 := Aside0.mk A250
            clear A250
            by_cases c26 : 2 < (t158.length : Int)
            ·rw [if_pos c26] at H
             have c26b0 : decide (2 < (t158.length : Int)) = true := decide_eq_true c26
             have c26b1 : decide (2 < t158.length) = true := decide_eq_true (by omega)
             clear c26
             replace H := Option.bind_eq_some_iff.mp H
             obtain ⟨⟨t168, t169⟩, A270, H⟩ := H
             replace H : (if (rdOf ByteArray.empty t158 0).toList = ([99, 111, 110, 116, 101, 120, 116] : List UInt8) then (if t166 = true then ((spec_l3Kind.f k2 (rdOf ByteArray.empty t158 2)).bind fun t172 => (spec_ParseRecord.j2 k2 a0 t153 x6_2 t158 t162 t163 t165 t168 t169 (decide (t172 > 0)) x153000_2 x153001_2)) else (spec_ParseRecord.j2 k2 a0 t153 x6_2 t158 t162 t163 t165 t168 t169 false x153000_2 x153001_2)) else (spec_ParseRecord.j2 k2 a0 t153 x6_2 t158 t162 t163 t165 t168 t169 false x153000_2 x153001_2)) = some (r1, r2, r3) := H
             have A27 := Aside0.mk A270
             clear A270
             have HC28 := Aside0.mk H
             clear H
             obtain ⟨Ao29, co29, eo29⟩ := Kd.R_slice HO_5.out
             subst eo29
             have p157 : 0 ≤ (x6_2 : Int) := of_decide_eq_true (by first | (with_reducible assumption) | assumption)
             have q157 : x6_2 < (t153.length : Int) := of_decide_eq_true (by first | (with_reducible assumption) | assumption)
             obtain ⟨ad157, e157, hx157_0⟩ := Kd.at_string (Kd.R_reads' HO_5.out).2.2 x6_2 p157 q157
             cases e157
             replace p157 := eq_true p157
             replace q157 := eq_true q157
             go_upto_region 15 with (first | ((with_reducible refine gate_callee (f := 55) rfl ?_); refine goesL_ (some 41) rfl rfl Tryd.func55 (by kernel_rfl) rfl #[.string (rdOf ByteArray.empty t153 x6_2), .int .u8 32] rfl (by (try simp only [List.map_toArray, List.map_cons, List.map_nil]); first | done | rfl | (simp only [List.length_drop, List.length_take]; rfl)) ?_; (with_reducible refine (spec_l1Split.calls k2 (rdOf ByteArray.empty t153 x6_2) 32 t158 _ A20.out).mono ?_); rintro e w30 ⟨v159, rfl, ho0, hb⟩; refine ⟨_, rfl, ?_⟩; have n0_ := Aside0.mk (Kd.R_elder' (rz_ HO_5.out) (Kd.R_base ho0) hb); have n1_ := Aside0.mk (Kd.R_below (rz_ HO_153000.out) hb); have n2_ := Aside0.mk (Kd.R_below (rz_ HO_153001.out) hb); have n3_ := Aside0.mk (Kd.R_lower (Kd.R_new' ho0 (Kd.R_lt (rz_ HO_5.out))) (below_size (by repeat (first | (with_reducible first | exact HB.out | apply below_alloc | apply pw_below_drewN | apply below_drew1 | refine below_set ?_ GE151.out | refine below_set ?_ GE152.out) | exact HB.out)))); have n4_ := Aside0.mk (blk_below (bz_ BK151.out) hb); have n5_ := Aside0.mk (blk_below (bz_ BK152.out) hb); have n6_ := Aside0.mk (below_step (by repeat (first | (with_reducible first | exact HB.out | apply below_alloc | apply pw_below_drewN | apply below_drew1 | refine below_set ?_ GE151.out | refine below_set ?_ GE152.out) | exact HB.out)) hb); clear HO_5; clear HO_153000; clear HO_153001; clear BK151; clear BK152; clear HB; have HO_5 := n0_; have HO_153000 := n1_; have HO_153001 := n2_; have HO160 := n3_; have BK151 := n4_; have BK152 := n5_; have HB := n6_; clear n0_ n1_ n2_ n3_ n4_ n5_ n6_; (try clear hb); (try clear hb2); (try clear hk); (try clear hi); (try clear ho0); obtain ⟨Ao31, co31, eo31⟩ := Kd.R_slice HO160.out; subst eo31; have p161 : 0 ≤ (0 : Int) := (by omega); have q161 : 0 < (t158.length : Int) := of_decide_eq_true (by first | (with_reducible assumption) | assumption); obtain ⟨ad161, e161, hx161_0⟩ := Kd.at_string (Kd.R_reads' HO160.out).2.2 0 p161 q161; cases e161; have qi161 : (0 < t158.length) = True := eq_true (by omega); (try rw [show ((0 : Int)).toNat = 0 from rfl] at hx161_0); (try rw [Addr.add_zero'] at hx161_0); replace p161 := eq_true p161; replace q161 := eq_true q161) | ((with_reducible refine gate_callee (f := 68) rfl ?_); refine goesL_ (some 50) rfl rfl Tryd.func68 (by kernel_rfl) rfl #[.string (rdOf ByteArray.empty t158 0)] rfl (by (try simp only [List.map_toArray, List.map_cons, List.map_nil]); first | done | rfl | (simp only [List.length_drop, List.length_take]; rfl)) ?_; (with_reducible refine (spec_l1Read.calls k2 (rdOf ByteArray.empty t158 0) t162 t163 _ A23.out).mono ?_); rintro e w32 ⟨rfl, hb⟩; refine ⟨_, rfl, ?_⟩; have n0_ := Aside0.mk (Kd.R_below (rz_ HO_5.out) hb); have n1_ := Aside0.mk (Kd.R_below (rz_ HO_153000.out) hb); have n2_ := Aside0.mk (Kd.R_below (rz_ HO_153001.out) hb); have n3_ := Aside0.mk (Kd.R_below (rz_ HO160.out) hb); have n4_ := Aside0.mk (blk_below (bz_ BK151.out) hb); have n5_ := Aside0.mk (blk_below (bz_ BK152.out) hb); have n6_ := Aside0.mk (below_step (by repeat (first | (with_reducible first | exact HB.out | apply below_alloc | apply pw_below_drewN | apply below_drew1 | refine below_set ?_ GE151.out | refine below_set ?_ GE152.out) | exact HB.out)) hb); clear HO_5; clear HO_153000; clear HO_153001; clear HO160; clear BK151; clear BK152; clear HB; have HO_5 := n0_; have HO_153000 := n1_; have HO_153001 := n2_; have HO160 := n3_; have BK151 := n4_; have BK152 := n5_; have HB := n6_; clear n0_ n1_ n2_ n3_ n4_ n5_ n6_; (try clear hb); (try clear hb2); (try clear hk); (try clear hi); have p164 : 0 ≤ (1 : Int) := (by omega); have q164 : 1 < (t158.length : Int) := of_decide_eq_true (by first | (with_reducible assumption) | assumption); obtain ⟨ad164, e164, hx164_0⟩ := Kd.at_string (Kd.R_reads' HO160.out).2.2 1 p164 q164; obtain rfl : ad161 = ad164 := (by injection e164); (try simp only [show (1 : Int).toNat = 1 from rfl, Nat.reduceMul, Nat.reduceEqDiff, Go.Addr.add, ↓reduceIte] at hx164_0); have qi164 : (1 < t158.length) = True := eq_true (by omega); (try rw [show ((1 : Int)).toNat = 1 from rfl] at hx164_0); replace p164 := eq_true p164; replace q164 := eq_true q164) | ((with_reducible refine gate_callee (f := 68) rfl ?_); refine goesL_ (some 57) rfl rfl Tryd.func68 (by kernel_rfl) rfl #[.string (rdOf ByteArray.empty t158 1)] rfl (by (try simp only [List.map_toArray, List.map_cons, List.map_nil]); first | done | rfl | (simp only [List.length_drop, List.length_take]; rfl)) ?_; (with_reducible refine (spec_l1Read.calls k2 (rdOf ByteArray.empty t158 1) t165 t166 _ A25.out).mono ?_); rintro e w33 ⟨rfl, hb⟩; refine ⟨_, rfl, ?_⟩; have n0_ := Aside0.mk (Kd.R_below (rz_ HO_5.out) hb); have n1_ := Aside0.mk (Kd.R_below (rz_ HO_153000.out) hb); have n2_ := Aside0.mk (Kd.R_below (rz_ HO_153001.out) hb); have n3_ := Aside0.mk (Kd.R_below (rz_ HO160.out) hb); have n4_ := Aside0.mk (blk_below (bz_ BK151.out) hb); have n5_ := Aside0.mk (blk_below (bz_ BK152.out) hb); have n6_ := Aside0.mk (below_step (by repeat (first | (with_reducible first | exact HB.out | apply below_alloc | apply pw_below_drewN | apply below_drew1 | refine below_set ?_ GE151.out | refine below_set ?_ GE152.out) | exact HB.out)) hb); clear HO_5; clear HO_153000; clear HO_153001; clear HO160; clear BK151; clear BK152; clear HB; have HO_5 := n0_; have HO_153000 := n1_; have HO_153001 := n2_; have HO160 := n3_; have BK151 := n4_; have BK152 := n5_; have HB := n6_; clear n0_ n1_ n2_ n3_ n4_ n5_ n6_; (try clear hb); (try clear hb2); (try clear hk); (try clear hi); have p167 : 0 ≤ (2 : Int) := (by omega); have q167 : 2 < (t158.length : Int) := of_decide_eq_true (by first | (with_reducible assumption) | assumption); obtain ⟨ad167, e167, hx167_0⟩ := Kd.at_string (Kd.R_reads' HO160.out).2.2 2 p167 q167; obtain rfl : ad161 = ad167 := (by injection e167); (try simp only [show (2 : Int).toNat = 2 from rfl, Nat.reduceMul, Nat.reduceEqDiff, Go.Addr.add, ↓reduceIte] at hx167_0); have qi167 : (2 < t158.length) = True := eq_true (by omega); (try rw [show ((2 : Int)).toNat = 2 from rfl] at hx167_0); replace p167 := eq_true p167; replace q167 := eq_true q167) | ((with_reducible refine gate_callee (f := 68) rfl ?_); refine goesL_ (some 64) rfl rfl Tryd.func68 (by kernel_rfl) rfl #[.string (rdOf ByteArray.empty t158 2)] rfl (by (try simp only [List.map_toArray, List.map_cons, List.map_nil]); first | done | rfl | (simp only [List.length_drop, List.length_take]; rfl)) ?_; (with_reducible refine (spec_l1Read.calls k2 (rdOf ByteArray.empty t158 2) t168 t169 _ A27.out).mono ?_); rintro e w34 ⟨rfl, hb⟩; refine ⟨_, rfl, ?_⟩; have n0_ := Aside0.mk (Kd.R_below (rz_ HO_5.out) hb); have n1_ := Aside0.mk (Kd.R_below (rz_ HO_153000.out) hb); have n2_ := Aside0.mk (Kd.R_below (rz_ HO_153001.out) hb); have n3_ := Aside0.mk (Kd.R_below (rz_ HO160.out) hb); have n4_ := Aside0.mk (blk_below (bz_ BK151.out) hb); have n5_ := Aside0.mk (blk_below (bz_ BK152.out) hb); have n6_ := Aside0.mk (below_step (by repeat (first | (with_reducible first | exact HB.out | apply below_alloc | apply pw_below_drewN | apply below_drew1 | refine below_set ?_ GE151.out | refine below_set ?_ GE152.out) | exact HB.out)) hb); clear HO_5; clear HO_153000; clear HO_153001; clear HO160; clear BK151; clear BK152; clear HB; have HO_5 := n0_; have HO_153000 := n1_; have HO_153001 := n2_; have HO160 := n3_; have BK151 := n4_; have BK152 := n5_; have HB := n6_; clear n0_ n1_ n2_ n3_ n4_ n5_ n6_; (try clear hb); (try clear hb2); (try clear hk); (try clear hi)))
             (try simp only [Act.put, List.setIfInBounds_toArray, List.set_cons_zero, List.set_cons_succ])
             go_cut [68] (fun v68 wc => ∃ (kq : Nat) (x68_27 : Bool), v68 = .bool x68_27 ∧ Aside0 (spec_ParseRecord.j2 kq a0 t153 x6_2 t158 t162 t163 t165 t168 t169 x68_27 x153000_2 x153001_2 = some (r1, r2, r3)) ∧ Aside0 (kq ≤ k2) ∧ Aside0 (Kd.R Kd.string 9 wc w.heap.size (fun k_ => some k_ ≠ ((.slice (some ad161) t158.length co31) : Value).ownBlock) (.slice (some ad157) t153.length co29) t153) ∧ Aside0 (Kd.R Kd.string 9 wc w.heap.size (fun k_ => some k_ ≠ ((.slice (some ad157) t153.length co29) : Value).ownBlock) (.slice (some ad161) t158.length co31) t158) ∧ Aside0 (Kd.R k94 94 wc w.heap.size (fun _ => True) u153000 x153000_2) ∧ Aside0 (Kd.R k96 96 wc w.heap.size (fun _ => True) u153001 x153001_2) ∧ Aside0 (wc.heap[gb151]? = some (.cells #[(.slice none 0 0), (.slice none 0 0)] 52 (0, 0))) ∧ Aside0 (wc.heap[gb152]? = some (.cells #[u153000, u153001] 52 (0, 0))) ∧ Aside0 (Below w.heap.size w wc))
             case first =>
              have H := HC28.out
              clear HC28
              by_cases c35 : (rdOf ByteArray.empty t158 0).toList = ([99, 111, 110, 116, 101, 120, 116] : List UInt8)
              ·rw [if_pos c35] at H
               have c35b0 : ((rdOf ByteArray.empty t158 0).toList == ([99, 111, 110, 116, 101, 120, 116] : List UInt8)) = true := beq_iff_eq.mpr c35
               have c35b1 : ((rdOf ByteArray.empty t158 0).toList != ([99, 111, 110, 116, 101, 120, 116] : List UInt8)) = false := bne_eq_false_iff_eq.mpr c35
               clear c35
               (first | rw [c35b0] | (simp only [i64_w, i32_w]; rw [c35b0]) | skip)
               by_cases c36 : t166 = true
               ·subst c36
                have H1 : ((spec_l3Kind.f k2 (rdOf ByteArray.empty t158 2)).bind fun t172 => (spec_ParseRecord.j2 k2 a0 t153 x6_2 t158 t162 t163 t165 t168 t169 (decide (t172 > 0)) x153000_2 x153001_2)) = some (r1, r2, r3) := by rw [if_pos rfl] at H; exact H
                clear H
                have H := H1
                clear H1
                replace H := Option.bind_eq_some_iff.mp H
                obtain ⟨t172, A370, H⟩ := H
                replace H : (spec_ParseRecord.j2 k2 a0 t153 x6_2 t158 t162 t163 t165 t168 t169 (decide (t172 > 0)) x153000_2 x153001_2) = some (r1, r2, r3) := H
                have A37 := Aside0.mk A370
                clear A370
                have H' := Aside0.mk H
                clear H
                have p170 : 0 ≤ (0 : Int) := (by omega)
                have q170 : 0 < (t158.length : Int) := of_decide_eq_true (by first | (with_reducible assumption) | assumption)
                obtain ⟨ad170, e170, hx170_0⟩ := Kd.at_string (Kd.R_reads' HO160.out).2.2 0 p170 q170
                obtain rfl : ad161 = ad170 := (by injection e170)
                have qi170 : (0 < t158.length) = True := eq_true (by omega)
                (try rw [show ((0 : Int)).toNat = 0 from rfl] at hx170_0)
                (try rw [Addr.add_zero'] at hx170_0)
                replace p170 := eq_true p170
                replace q170 := eq_true q170
                have p171 : 0 ≤ (2 : Int) := (by omega)
                have q171 : 2 < (t158.length : Int) := of_decide_eq_true (by first | (with_reducible assumption) | assumption)
                obtain ⟨ad171, e171, hx171_0⟩ := Kd.at_string (Kd.R_reads' HO160.out).2.2 2 p171 q171
                obtain rfl : ad161 = ad171 := (by injection e171)
                (try simp only [show (2 : Int).toNat = 2 from rfl, Nat.reduceMul, Nat.reduceEqDiff, Go.Addr.add, ↓reduceIte] at hx171_0)
                have qi171 : (2 < t158.length) = True := eq_true (by omega)
                (try rw [show ((2 : Int)).toNat = 2 from rfl] at hx171_0)
                replace p171 := eq_true p171
                replace q171 := eq_true q171
                go_wp2_with (first | (go_at_call 91; (with_reducible refine (spec_l3Kind.calls k2 (rdOf ByteArray.empty t158 2) t172 _ A37.out).mono ?_); rintro e w38 ⟨rfl, hb⟩; have n0_ := Aside0.mk (Kd.R_below (rz_ HO_5.out) hb); have n1_ := Aside0.mk (Kd.R_below (rz_ HO_153000.out) hb); have n2_ := Aside0.mk (Kd.R_below (rz_ HO_153001.out) hb); have n3_ := Aside0.mk (Kd.R_below (rz_ HO160.out) hb); have n4_ := Aside0.mk (blk_below (bz_ BK151.out) hb); have n5_ := Aside0.mk (blk_below (bz_ BK152.out) hb); have n6_ := Aside0.mk (below_step (by repeat (first | (with_reducible first | exact HB.out | apply below_alloc | apply pw_below_drewN | apply below_drew1 | refine below_set ?_ GE151.out | refine below_set ?_ GE152.out) | exact HB.out)) hb); clear HO_5; clear HO_153000; clear HO_153001; clear HO160; clear BK151; clear BK152; clear HB; have HO_5 := n0_; have HO_153000 := n1_; have HO_153001 := n2_; have HO160 := n3_; have BK151 := n4_; have BK152 := n5_; have HB := n6_; clear n0_ n1_ n2_ n3_ n4_ n5_ n6_; (try clear hb); (try clear hb2); (try clear hk); (try clear hi)))
                go_meet
                case rel => exact ⟨_, (decide (t172 > 0)), (by first | rfl | (simp; done) | (simp [*]; done)), H', ⟨by have := HJ2.out; have := HK2.out; first | omega | exact Nat.le_refl _⟩, ⟨rz_ (Kd.R_mono HO_5.out (fun _ hk => hk.2))⟩, ⟨rz_ (Kd.R_mono HO160.out (fun _ hk => hk.2))⟩, ⟨rz_ HO_153000.out⟩, ⟨rz_ HO_153001.out⟩, ⟨bz_ BK151.out⟩, ⟨bz_ BK152.out⟩, ⟨by repeat (first | (with_reducible first | exact HB.out | apply below_alloc | apply pw_below_drewN | apply below_drew1 | refine below_set ?_ GE151.out | refine below_set ?_ GE152.out) | exact HB.out)⟩⟩
               ·replace c36 := Bool.eq_false_iff.mpr c36
                subst c36
                have H1 : (spec_ParseRecord.j2 k2 a0 t153 x6_2 t158 t162 t163 t165 t168 t169 false x153000_2 x153001_2) = some (r1, r2, r3) := by rw [if_neg (show ¬ (false = true) by decide)] at H; exact H
                clear H
                have H := H1
                clear H1
                have H' := Aside0.mk H
                clear H
                have p170 : 0 ≤ (0 : Int) := (by omega)
                have q170 : 0 < (t158.length : Int) := of_decide_eq_true (by first | (with_reducible assumption) | assumption)
                obtain ⟨ad170, e170, hx170_0⟩ := Kd.at_string (Kd.R_reads' HO160.out).2.2 0 p170 q170
                obtain rfl : ad161 = ad170 := (by injection e170)
                have qi170 : (0 < t158.length) = True := eq_true (by omega)
                (try rw [show ((0 : Int)).toNat = 0 from rfl] at hx170_0)
                (try rw [Addr.add_zero'] at hx170_0)
                replace p170 := eq_true p170
                replace q170 := eq_true q170
                go_wp2
                go_meet
                case rel => exact ⟨_, (false), (by first | rfl | (simp; done) | (simp [*]; done)), H', ⟨by have := HJ2.out; have := HK2.out; first | omega | exact Nat.le_refl _⟩, ⟨rz_ (Kd.R_mono HO_5.out (fun _ hk => hk.2))⟩, ⟨rz_ (Kd.R_mono HO160.out (fun _ hk => hk.2))⟩, ⟨rz_ HO_153000.out⟩, ⟨rz_ HO_153001.out⟩, ⟨bz_ BK151.out⟩, ⟨bz_ BK152.out⟩, ⟨by repeat (first | (with_reducible first | exact HB.out | apply below_alloc | apply pw_below_drewN | apply below_drew1 | refine below_set ?_ GE151.out | refine below_set ?_ GE152.out) | exact HB.out)⟩⟩
              ·rw [if_neg c35] at H
               have c35b0 : ((rdOf ByteArray.empty t158 0).toList == ([99, 111, 110, 116, 101, 120, 116] : List UInt8)) = false := beq_eq_false_iff_ne.mpr c35
               have c35b1 : ((rdOf ByteArray.empty t158 0).toList != ([99, 111, 110, 116, 101, 120, 116] : List UInt8)) = true := bne_iff_ne.mpr c35
               (first | rw [c35b0] | (simp only [i64_w, i32_w]; rw [c35b0]) | skip)
               have H' := Aside0.mk H
               clear H
               have p170 : 0 ≤ (0 : Int) := (by omega)
               have q170 : 0 < (t158.length : Int) := of_decide_eq_true (by first | (with_reducible assumption) | assumption)
               obtain ⟨ad170, e170, hx170_0⟩ := Kd.at_string (Kd.R_reads' HO160.out).2.2 0 p170 q170
               obtain rfl : ad161 = ad170 := (by injection e170)
               have qi170 : (0 < t158.length) = True := eq_true (by omega)
               (try rw [show ((0 : Int)).toNat = 0 from rfl] at hx170_0)
               (try rw [Addr.add_zero'] at hx170_0)
               replace p170 := eq_true p170
               replace q170 := eq_true q170
               go_wp2
               go_meet
               case rel => exact ⟨_, (false), (by first | rfl | (simp; done) | (simp [*]; done)), H', ⟨by have := HJ2.out; have := HK2.out; first | omega | exact Nat.le_refl _⟩, ⟨rz_ (Kd.R_mono HO_5.out (fun _ hk => hk.2))⟩, ⟨rz_ (Kd.R_mono HO160.out (fun _ hk => hk.2))⟩, ⟨rz_ HO_153000.out⟩, ⟨rz_ HO_153001.out⟩, ⟨bz_ BK151.out⟩, ⟨bz_ BK152.out⟩, ⟨by repeat (first | (with_reducible first | exact HB.out | apply below_alloc | apply pw_below_drewN | apply below_drew1 | refine below_set ?_ GE151.out | refine below_set ?_ GE152.out) | exact HB.out)⟩⟩
             case rest =>
              clear HC28
              try clear c1
              try clear p1
              try clear q1
              try clear hx1
              try clear qi1
              try clear c2
              try clear p2
              try clear c3
              try clear c4
              try clear c5
              try clear c6
              try clear p6
              try clear c9
              try clear c9b0
              try clear c9b1
              try clear c11
              try clear c11b0
              try clear c12
              try clear c12b0
              try clear c14
              try clear c15
              try clear p15
              try clear q15
              try clear hx15
              try clear p16
              try clear q16
              try clear hx16
              try clear qi16
              try clear c17
              try clear c17b0
              try clear p17
              try clear q17
              try clear hx17
              try clear qi17
              try clear c18
              try clear c18b0
              try clear c19
              try clear c19b0
              try clear c21
              try clear c21b0
              try clear c21b1
              try clear c22
              try clear c22b0
              try clear c22b1
              try clear c24
              try clear c24b0
              try clear c24b1
              try clear c26
              try clear c26b0
              try clear c26b1
              try clear c35
              try clear c35b0
              try clear c35b1
              try clear c36
              try clear hcz16_0
              try clear hcz16_1
              try clear hcz7_0
              try clear hcz7_1
              try clear hfz16_0
              try clear hfz16_1
              try clear hfz7_0
              try clear hfz7_1
              try clear hx156_0
              try clear hx157_0
              try clear hx161_0
              try clear hx164_0
              try clear hx167_0
              try clear hx170_0
              try clear hx171_0
              try clear p1
              try clear p15
              try clear p156
              try clear p157
              try clear p161
              try clear p164
              try clear p167
              try clear p170
              try clear p171
              try clear p2
              try clear p6
              try clear q1
              try clear q15
              try clear q156
              try clear q157
              try clear q161
              try clear q164
              try clear q167
              try clear q170
              try clear q171
              obtain ⟨kq, x68_27, rfl, HA, HJ27, HO_5, HO_7, HO_153000, HO_153001, BK151, BK152, HB⟩ := hcut
              cases kq with
              | zero => exact absurd HA.out (by simp [spec_ParseRecord.j2])
              | succ kj27 =>
               have H := HA.out
               clear HA
               simp only [spec_ParseRecord.j2] at H
               by_cases c39 : x68_27 = true
               ·subst c39
                have H1 : (if 2 < (t158.length : Int) then ((spec_l3Kind.f kj27 (rdOf ByteArray.empty t158 2)).bind fun t174 => (if x153000_2.length < 8796093022208 then (spec_ParseRecord.l0 kj27 a0 t153 (wrap64 (x6_2 + 1)) (x153000_2 ++ [(⟨t165, t174⟩ : S94)]) x153001_2) else (none))) else (none)) = some (r1, r2, r3) := by rw [if_pos rfl] at H; exact H
                clear H
                have H := H1
                clear H1
                by_cases c40 : 2 < (t158.length : Int)
                ·rw [if_pos c40] at H
                 have c40b0 : decide (2 < (t158.length : Int)) = true := decide_eq_true c40
                 have c40b1 : decide (2 < t158.length) = true := decide_eq_true (by omega)
                 clear c40
                 replace H := Option.bind_eq_some_iff.mp H
                 obtain ⟨t174, A410, H⟩ := H
                 replace H : (if x153000_2.length < 8796093022208 then (spec_ParseRecord.l0 kj27 a0 t153 (wrap64 (x6_2 + 1)) (x153000_2 ++ [(⟨t165, t174⟩ : S94)]) x153001_2) else (none)) = some (r1, r2, r3) := H
                 have A41 := Aside0.mk A410
                 clear A410
                 by_cases c42 : x153000_2.length < 8796093022208
                 ·rw [if_pos c42] at H
                  have LMc42 := Aside0.mk c42
                  clear c42
                  obtain ⟨y175, hy175⟩ : ∃ y_ : List (S94), y_ = (x153000_2 ++ [(⟨t165, t174⟩ : S94)]) := ⟨_, rfl⟩
                  replace H : (spec_ParseRecord.l0 kj27 a0 t153 (wrap64 (x6_2 + 1)) y175 x153001_2) = some (r1, r2, r3) := by first | (rw [hy175]; with_reducible exact H) | (have H2_ := (Option.bind_some _ _).symm.trans H; rw [hy175]; with_reducible exact H2_) | (have H2_ := (Option.bind_some _ _).symm.trans H; with_reducible exact H2_) | with_reducible exact H | (rw [hy175]; exact H) | exact H
                  have Ny175 := Aside0.mk hy175
                  clear hy175
                  have H' := Aside0.mk H
                  clear H
                  try go_wp2
                  have n0_ := Aside0.mk (Kd.R_drew HO_5.out)
                  have n1_ := Aside0.mk (Kd.R_drew HO_7.out)
                  have n2_ := Aside0.mk (Kd.R_drew HO_153000.out)
                  have n3_ := Aside0.mk (Kd.R_drew HO_153001.out)
                  have n4_ := Aside0.mk (blk_drew BK151.out)
                  have n5_ := Aside0.mk (blk_drew BK152.out)
                  have n6_ := Aside0.mk (below_drew1 HB.out)
                  clear HO_5
                  clear HO_7
                  clear HO_153000
                  clear HO_153001
                  clear BK151
                  clear BK152
                  clear HB
                  have HO_5 := n0_
                  have HO_7 := n1_
                  have HO_153000 := n2_
                  have HO_153001 := n3_
                  have BK151 := n4_
                  have BK152 := n5_
                  have HB := n6_
                  clear n0_ n1_ n2_ n3_ n4_ n5_ n6_
                  have p173 : 0 ≤ (2 : Int) := (by omega)
                  have q173 : 2 < (t158.length : Int) := of_decide_eq_true (by first | (with_reducible assumption) | assumption)
                  obtain ⟨ad173, e173, hx173_0⟩ := Kd.at_string (Kd.R_reads' HO_7.out).2.2 2 p173 q173
                  obtain rfl : ad161 = ad173 := (by injection e173)
                  (try simp only [show (2 : Int).toNat = 2 from rfl, Nat.reduceMul, Nat.reduceEqDiff, Go.Addr.add, ↓reduceIte] at hx173_0)
                  have qi173 : (2 < t158.length) = True := eq_true (by omega)
                  (try rw [show ((2 : Int)).toNat = 2 from rfl] at hx173_0)
                  replace p173 := eq_true p173
                  replace q173 := eq_true q173
                  refine start_ (n := 12) (S := fun w' => w'.cell? ⟨gb152, 0, none⟩ = some (u153000) ∧ w'.cell? ⟨gb152, 1, none⟩ = some (u153001) ∧ w'.cell? ⟨ad161.block, ad161.off + 2, none⟩ = some (.string (rdOf ByteArray.empty t158 2))) (ds := [9, 11]) #[false, false, false, false, false, false, false, false, false, false, false, false] (by kernel_rfl) rfl rfl ⟨(blk_cell BK152.out 0).trans rfl, (blk_cell BK152.out 1).trans rfl, hx173_0⟩ (fun hHeld => ?_); refine with_tabW spec_ParseRecord.tab16 spec_ParseRecord.bits16 (fun HT_ HW_ => ?_)
                  generalize wc.drew = w43 at HO_5 HO_7 HO_153000 HO_153001 BK151 BK152 HB hx173_0 hHeld ⊢
                  refine pA_ 0 (some 83) (bl 1 12) HT_.out (h := ?_)
                  refine pA_ 2 (some 85) #[true, false, true, false, false, false, false, false, false, false, false, false] HT_.out (h := ?_)
                  refine pA_ 3 (some 86) #[true, false, true, true, false, false, false, false, false, false, false, false] HT_.out (h := ?_)
                  refine pA_ 4 (some 87) #[true, false, true, true, true, false, false, false, false, false, false, false] HT_.out (h := ?_)
                  refine tA_ 1 (some 84) (bl 5 12) HT_.out HW_.out hHeld (h := ?_)
                  refine tA_ 5 (some 88) (bl 6 12) HT_.out HW_.out hHeld (h := ?_)
                  refine one_ (i := 6) (N := some 89) (bl 7 12) rfl rfl (one_of HT_.out (by kernel_rfl)) (by decide) (fun K hK => ?_)
                  refine goes_ Tryd.func91 (by kernel_rfl) rfl #[.string (rdOf ByteArray.empty t158 2)] (by rfl) rfl rfl (by (try simp only [List.map_toArray, List.map_cons, List.map_nil]); first | done | rfl | (simp only [List.length_drop, List.length_take]; rfl)) ?_
                  with_reducible refine (spec_l3Kind.calls kj27 (rdOf ByteArray.empty t158 2) t174 _ A41.out).mono ?_
                  rintro e w44 ⟨rfl, hb⟩
                  have HS2_ := (hb.cell (World.block_lt_of_cell? _ _ (hHeld.2.2))).trans (hHeld.2.2)
                  refine ⟨_, rfl, ?_⟩
                  have n0_ := Aside0.mk (Kd.R_below (rz_ HO_5.out) hb)
                  have n1_ := Aside0.mk (Kd.R_below (rz_ HO_7.out) hb)
                  have n2_ := Aside0.mk (Kd.R_below (rz_ HO_153000.out) hb)
                  have n3_ := Aside0.mk (Kd.R_below (rz_ HO_153001.out) hb)
                  have n4_ := Aside0.mk (blk_below (bz_ BK151.out) hb)
                  have n5_ := Aside0.mk (blk_below (bz_ BK152.out) hb)
                  have n6_ := Aside0.mk (below_step (by repeat (first | (with_reducible first | exact HB.out | apply below_alloc | apply pw_below_drewN | apply below_drew1 | refine below_set ?_ GE151.out | refine below_set ?_ GE152.out) | exact HB.out)) hb)
                  clear HO_5
                  clear HO_7
                  clear HO_153000
                  clear HO_153001
                  clear BK151
                  clear BK152
                  clear HB
                  have HO_5 := n0_
                  have HO_7 := n1_
                  have HO_153000 := n2_
                  have HO_153001 := n3_
                  have BK151 := n4_
                  have BK152 := n5_
                  have HB := n6_
                  clear n0_ n1_ n2_ n3_ n4_ n5_ n6_
                  (try clear hb)
                  (try clear hb2)
                  (try clear hk)
                  (try clear hi)
                  refine hK.out _ _ ⟨(blk_cell BK152.out 0).trans rfl, (blk_cell BK152.out 1).trans rfl, HS2_⟩ (fun hHeld => ?_)
                  clear hK K
                  refine norm_ (a' := ?_) ?_ ?_
                  rotate_left
                  ·show Act.put _ (some 89) _ = _
                   simp only [Act.put, List.setIfInBounds_toArray, List.set_cons_zero, List.set_cons_succ, i64_w, i32_w]
                   rfl
                  refine pA_ 7 (some 90) (bl 8 12) HT_.out (h := ?_)
                  refine one_ (i := 8) (N := some 91) (bl 9 12) rfl rfl (one_of HT_.out (by kernel_rfl)) (by decide) (fun K hK => ?_)
                  refine value_ (w1 := ?_) (v := ?_) (by rfl) rfl ?_ ?_
                  rotate_left 2
                  ·go_simp
                   constructor
                   ·rfl
                   ·rfl
                  refine hK.out _ _ ⟨(blk_cell (blk_alloc BK152.out _) 0).trans rfl, (blk_cell (blk_alloc BK152.out _) 1).trans rfl, (World.cell?_alloc_lt _ _ _ (World.block_lt_of_cell? _ _ (hHeld.2.2))).trans (hHeld.2.2)⟩ (fun hHeld => ?_)
                  clear hK K
                  refine norm_ (a' := ?_) ?_ ?_
                  rotate_left
                  ·show Act.put _ (some 91) _ = _
                   simp only [Act.put, List.setIfInBounds_toArray, List.set_cons_zero, List.set_cons_succ, i64_w, i32_w]
                   rfl
                  refine last_ (i := 9) (N := some 92) (bl 10 12) rfl rfl (one_of HT_.out (by kernel_rfl)) (by decide) (fun K hK => ?_)
                  refine Kd.R_append_step k94 (w0 := w) w.heap.size (by rfl) (.tmp 84) (.tmp 91) 49 94 (.agg #[(.int .i64 0), (.int .i64 0)]) 16 rfl Tryd.underlying49 info94 rfl (by decide) (by omega) u153000 x153000_2 (⟨t165, t174⟩ : S94) [.int .i64 t165, .int .i64 t174] (fun _ => True) (fun _ => False) rfl rfl ?aP (fun _ hk => hk.elim) ?aF ?aO ?aB ?aS ?aL ?_
                  (case aP => exact k94_mkM _ _ _ (⟨t165, t174⟩ : S94))
                  (case aB => exact (by repeat (first | (with_reducible first | exact HB.out | apply below_alloc | apply pw_below_drewN | apply below_drew1 | refine below_set ?_ GE151.out | refine below_set ?_ GE152.out) | exact HB.out)))
                  (case aF => exact (fun _ _ => trivial))
                  (case aO => exact (rz_ HO_153000.out))
                  (case aS => exact (below_size (by repeat (first | (with_reducible first | exact HB.out | apply below_alloc | apply pw_below_drewN | apply below_drew1 | refine below_set ?_ GE151.out | refine below_set ?_ GE152.out) | exact HB.out))))
                  (case aL => have := LMc42.out; omega)
                  intro v176 w45 ho hb hg hat
                  rw [← Ny175.out] at ho
                  have n0_ := Aside0.mk (Kd.R_over' (rz_ HO_5.out) (Kd.R_typed (rz_ HO_153000.out)) (by decide) hg)
                  have n1_ := Aside0.mk (Kd.R_over' (rz_ HO_7.out) (Kd.R_typed (rz_ HO_153000.out)) (by decide) hg)
                  have n2_ := Aside0.mk (Kd.R_over' (rz_ HO_153001.out) (Kd.R_typed (rz_ HO_153000.out)) (by decide) hg)
                  have n3_ := Aside0.mk (blk_grown (g := gb151) (o := .cells #[.slice none 0 0, .slice none 0 0] 52 (0, 0)) (bz_ BK151.out) hg (Kd.R_ne HO_153000.out BK151.out (by decide)))
                  have n4_ := Aside0.mk (blk_grown (g := gb152) (o := .cells #[u153000, u153001] 52 (0, 0)) (bz_ BK152.out) hg (Kd.R_ne HO_153000.out BK152.out (by decide)))
                  have n5_ := Aside0.mk (hb)
                  have n6_ := Aside0.mk (ho)
                  clear HO_5
                  clear HO_7
                  clear HO_153001
                  clear BK151
                  clear BK152
                  clear HB
                  clear HO_153000
                  have HO_5 := n0_
                  have HO_7 := n1_
                  have HO_153001 := n2_
                  have BK151 := n3_
                  have BK152 := n4_
                  have HB := n5_
                  have HO177 := n6_
                  clear n0_ n1_ n2_ n3_ n4_ n5_ n6_
                  clear ho hb hg hat
                  obtain ⟨Ao46, co46, eo46⟩ := Kd.R_slice HO177.out
                  (first | subst eo46 | (injection eo46 with f1_ f2_ f3_; have f4_ := f1_.symm; have f5_ := f3_.symm; clear f1_ f2_ f3_; subst f4_; subst f5_))
                  refine hK.out _ _ ?_
                  clear hK K
                  refine norm_ (a' := ?_) ?_ ?_
                  rotate_left
                  ·show Act.put _ (some 92) _ = _
                   simp only [Act.put, List.setIfInBounds_toArray, List.set_cons_zero, List.set_cons_succ, i64_w, i32_w]
                   rfl
                  refine pA_ 10 (some 93) (bl 11 12) HT_.out (h := ?_)
                  refine last_ (i := 11) (N := none) (bl 12 12) rfl rfl (one_of HT_.out (by kernel_rfl)) (by decide) (fun K hK => ?_)
                  have hs47 : w45.cell? ⟨gb152, 0, none⟩ = some (u153000) := (blk_cell BK152.out 0).trans rfl
                  have hfs47 := blk_frozen BK152.out 0
                  have hns47_0 := NB151_152.out
                  have hms47_0 := NB152_151.out
                  refine skip_ (w1 := ?_) (by rfl) rfl ?_ ?_
                  rotate_left
                  ·go_simp
                   rfl
                  refine hK.out _ _ ?_
                  clear hK K
                  refine done_ (done_of HT_.out (by kernel_rfl)) ?_
                  try go_wp2
                  go_roundg kj27
                  case measure => have := HJ2.out; have := HK2.out; have := HJ27.out; omega
                  case rel => exact ⟨(wrap64 (x6_2 + 1)), (y175), (x153001_2), (.slice Ao46 y175.length co46), (u153001), (by first | rfl | (simp; done) | (simp [*]; done)), H', ⟨by have := HJ2.out; have := HK2.out; have := HJ27.out; omega⟩, ⟨rz_ (Kd.R_mono (Kd.R_far (p := ⟨gb152, 0, none⟩) (Kd.R_types HO_5.out BK152.out (by decide)) (fun _ hk => hk.2) (.slice Ao46 y175.length co46)) (fun _ hk => trivial))⟩, ⟨rz_ (Kd.R_mono (Kd.R_far (p := ⟨gb152, 0, none⟩) (Kd.R_types HO177.out BK152.out (by decide)) (fun _ hk => hk.2) (.slice Ao46 y175.length co46)) (fun _ hk => trivial))⟩, ⟨rz_ (Kd.R_mono (Kd.R_far (p := ⟨gb152, 0, none⟩) (Kd.R_types HO_153001.out BK152.out (by decide)) (fun _ hk => hk.2) (.slice Ao46 y175.length co46)) (fun _ hk => trivial))⟩, ⟨by (with_reducible repeat (first | refine blk_drewN ?_ _ | refine blk_drew ?_ | refine blk_alloc ?_ _)); refine blk_far ?_ NB151_152.out _; (with_reducible repeat (first | refine blk_drewN ?_ _ | refine blk_drew ?_ | refine blk_alloc ?_ _)); exact BK151.out⟩, ⟨by (with_reducible repeat (first | refine blk_drewN ?_ _ | refine blk_drew ?_ | refine blk_alloc ?_ _)); refine blk_put (cs := #[u153000, u153001]) ?_ 0 _ rfl; (with_reducible repeat (first | refine blk_drewN ?_ _ | refine blk_drew ?_ | refine blk_alloc ?_ _)); exact BK152.out⟩, ⟨by repeat (first | (with_reducible first | exact HB.out | apply below_alloc | apply pw_below_drewN | apply below_drew1 | refine below_set ?_ GE151.out | refine below_set ?_ GE152.out) | exact HB.out)⟩⟩
                 ·rw [if_neg c42] at H
                  exact absurd H (by simp)
                ·rw [if_neg c40] at H
                 exact absurd H (by simp)
               ·replace c39 := Bool.eq_false_iff.mpr c39
                subst c39
                have H1 : (if t163 = true then (if 1 < (t158.length : Int) then (if (rdOf ByteArray.empty t158 1).toList = ([97, 98, 111, 118, 101] : List UInt8) then (if t169 = true then (if x153001_2.length < 8796093022208 then (spec_ParseRecord.l0 kj27 a0 t153 (wrap64 (x6_2 + 1)) x153000_2 (x153001_2 ++ [(⟨t162, t168⟩ : S96)])) else (none)) else (some (([] : List (S94)), ([] : List (S96)), false))) else (some (([] : List (S94)), ([] : List (S96)), false))) else (none)) else (some (([] : List (S94)), ([] : List (S96)), false))) = some (r1, r2, r3) := by rw [if_neg (show ¬ (false = true) by decide)] at H; exact H
                clear H
                have H := H1
                clear H1
                by_cases c48 : t163 = true
                ·subst c48
                 have H1 : (if 1 < (t158.length : Int) then (if (rdOf ByteArray.empty t158 1).toList = ([97, 98, 111, 118, 101] : List UInt8) then (if t169 = true then (if x153001_2.length < 8796093022208 then (spec_ParseRecord.l0 kj27 a0 t153 (wrap64 (x6_2 + 1)) x153000_2 (x153001_2 ++ [(⟨t162, t168⟩ : S96)])) else (none)) else (some (([] : List (S94)), ([] : List (S96)), false))) else (some (([] : List (S94)), ([] : List (S96)), false))) else (none)) = some (r1, r2, r3) := by rw [if_pos rfl] at H; exact H
                 clear H
                 have H := H1
                 clear H1
                 by_cases c49 : 1 < (t158.length : Int)
                 ·rw [if_pos c49] at H
                  have c49b0 : decide (1 < (t158.length : Int)) = true := decide_eq_true c49
                  have c49b1 : decide (1 < t158.length) = true := decide_eq_true (by omega)
                  clear c49
                  by_cases c50 : (rdOf ByteArray.empty t158 1).toList = ([97, 98, 111, 118, 101] : List UInt8)
                  ·rw [if_pos c50] at H
                   have c50b0 : ((rdOf ByteArray.empty t158 1).toList == ([97, 98, 111, 118, 101] : List UInt8)) = true := beq_iff_eq.mpr c50
                   have c50b1 : ((rdOf ByteArray.empty t158 1).toList != ([97, 98, 111, 118, 101] : List UInt8)) = false := bne_eq_false_iff_eq.mpr c50
                   clear c50
                   by_cases c51 : t169 = true
                   ·subst c51
                    have H1 : (if x153001_2.length < 8796093022208 then (spec_ParseRecord.l0 kj27 a0 t153 (wrap64 (x6_2 + 1)) x153000_2 (x153001_2 ++ [(⟨t162, t168⟩ : S96)])) else (none)) = some (r1, r2, r3) := by rw [if_pos rfl] at H; exact H
                    clear H
                    have H := H1
                    clear H1
                    by_cases c52 : x153001_2.length < 8796093022208
                    ·rw [if_pos c52] at H
                     have LMc52 := Aside0.mk c52
                     clear c52
                     obtain ⟨y179, hy179⟩ : ∃ y_ : List (S96), y_ = (x153001_2 ++ [(⟨t162, t168⟩ : S96)]) := ⟨_, rfl⟩
                     replace H : (spec_ParseRecord.l0 kj27 a0 t153 (wrap64 (x6_2 + 1)) x153000_2 y179) = some (r1, r2, r3) := by first | (rw [hy179]; with_reducible exact H) | (have H2_ := (Option.bind_some _ _).symm.trans H; rw [hy179]; with_reducible exact H2_) | (have H2_ := (Option.bind_some _ _).symm.trans H; with_reducible exact H2_) | with_reducible exact H | (rw [hy179]; exact H) | exact H
                     have Ny179 := Aside0.mk hy179
                     clear hy179
                     have H' := Aside0.mk H
                     clear H
                     have p178 : 0 ≤ (1 : Int) := (by omega)
                     have q178 : 1 < (t158.length : Int) := of_decide_eq_true (by first | (with_reducible assumption) | assumption)
                     obtain ⟨ad178, e178, hx178_0⟩ := Kd.at_string (Kd.R_reads' HO_7.out).2.2 1 p178 q178
                     obtain rfl : ad161 = ad178 := (by injection e178)
                     (try simp only [show (1 : Int).toNat = 1 from rfl, Nat.reduceMul, Nat.reduceEqDiff, Go.Addr.add, ↓reduceIte] at hx178_0)
                     have qi178 : (1 < t158.length) = True := eq_true (by omega)
                     (try rw [show ((1 : Int)).toNat = 1 from rfl] at hx178_0)
                     replace p178 := eq_true p178
                     replace q178 := eq_true q178
                     have hnb53 := NB152_151.out
                     have hnc53 := NB151_152.out
                     have hcz54_0 : wc.cell? ⟨gb152, 0, none⟩ = some (u153000) := (blk_cell BK152.out 0).trans rfl
                     have hcz54_1 : wc.cell? ⟨gb152, 1, none⟩ = some (u153001) := (blk_cell BK152.out 1).trans rfl
                     have hfz54_0 := blk_frozen BK152.out 0
                     have hfz54_1 := blk_frozen BK152.out 1
                     go_wp2_with (first | ((with_reducible refine gate_builtin (b := .append) (xs := #[.tmp 106, .tmp 110]) rfl ?_); at_builtin; refine Kd.R_append k96 (w0 := w) w.heap.size rfl (.tmp 106) (.tmp 110) 50 96 (.agg #[(.int .i64 0), (.int .i64 0)]) 16 rfl Tryd.underlying50 info96 rfl (by decide) (by omega) u153001 x153001_2 (⟨t162, t168⟩ : S96) [.int .i64 t162, .int .i64 t168] (fun _ => True) (fun _ => False) rfl rfl ?aP (fun _ hk => hk.elim) ?aF ?aO ?aB ?aS ?aL ?_; (case aP => exact k96_mkM _ _ _ (⟨t162, t168⟩ : S96)); (case aB => exact (by repeat (first | (with_reducible first | exact HB.out | apply below_alloc | apply pw_below_drewN | apply below_drew1 | refine below_set ?_ GE151.out | refine below_set ?_ GE152.out) | exact HB.out))); (case aF => exact (fun _ _ => trivial)); (case aO => exact (rz_ HO_153001.out)); (case aS => exact (below_size (by repeat (first | (with_reducible first | exact HB.out | apply below_alloc | apply pw_below_drewN | apply below_drew1 | refine below_set ?_ GE151.out | refine below_set ?_ GE152.out) | exact HB.out)))); (case aL => have := LMc52.out; omega); intro v180 w55 ho hb hg hat; rw [← Ny179.out] at ho; have n0_ := Aside0.mk (Kd.R_over' (rz_ HO_5.out) (Kd.R_typed (rz_ HO_153001.out)) (by decide) hg); have n1_ := Aside0.mk (Kd.R_over' (rz_ HO_7.out) (Kd.R_typed (rz_ HO_153001.out)) (by decide) hg); have n2_ := Aside0.mk (Kd.R_over' (rz_ HO_153000.out) (Kd.R_typed (rz_ HO_153001.out)) (by decide) hg); have n3_ := Aside0.mk (blk_grown (g := gb151) (o := .cells #[.slice none 0 0, .slice none 0 0] 52 (0, 0)) (bz_ BK151.out) hg (Kd.R_ne HO_153001.out BK151.out (by decide))); have n4_ := Aside0.mk (blk_grown (g := gb152) (o := .cells #[u153000, u153001] 52 (0, 0)) (bz_ BK152.out) hg (Kd.R_ne HO_153001.out BK152.out (by decide))); have n5_ := Aside0.mk (hb); have n6_ := Aside0.mk (ho); clear HO_5; clear HO_7; clear HO_153000; clear BK151; clear BK152; clear HB; clear HO_153001; have HO_5 := n0_; have HO_7 := n1_; have HO_153000 := n2_; have BK151 := n3_; have BK152 := n4_; have HB := n5_; have HO181 := n6_; clear n0_ n1_ n2_ n3_ n4_ n5_ n6_; clear ho hb hg hat; obtain ⟨Ao56, co56, eo56⟩ := Kd.R_slice HO181.out; subst eo56; have hcz57_0 : w55.cell? ⟨gb152, 0, none⟩ = some (u153000) := (blk_cell BK152.out 0).trans rfl; have hcz57_1 : w55.cell? ⟨gb152, 1, none⟩ = some (u153001) := (blk_cell BK152.out 1).trans rfl; have hfz57_0 := blk_frozen BK152.out 0; have hfz57_1 := blk_frozen BK152.out 1))
                     go_roundg kj27
                     case measure => have := HJ2.out; have := HK2.out; have := HJ27.out; omega
                     case rel => exact ⟨(wrap64 (x6_2 + 1)), (x153000_2), (y179), (u153000), (.slice Ao56 y179.length co56), (by first | rfl | (simp; done) | (simp [*]; done)), H', ⟨by have := HJ2.out; have := HK2.out; have := HJ27.out; omega⟩, ⟨rz_ (Kd.R_mono (Kd.R_far (p := ⟨gb152, 1, none⟩) (Kd.R_types HO_5.out BK152.out (by decide)) (fun _ hk => hk.2) (.slice Ao56 y179.length co56)) (fun _ hk => trivial))⟩, ⟨rz_ (Kd.R_mono (Kd.R_far (p := ⟨gb152, 1, none⟩) (Kd.R_types HO_153000.out BK152.out (by decide)) (fun _ hk => hk.2) (.slice Ao56 y179.length co56)) (fun _ hk => trivial))⟩, ⟨rz_ (Kd.R_mono (Kd.R_far (p := ⟨gb152, 1, none⟩) (Kd.R_types HO181.out BK152.out (by decide)) (fun _ hk => hk.2) (.slice Ao56 y179.length co56)) (fun _ hk => trivial))⟩, ⟨by (with_reducible repeat (first | refine blk_drewN ?_ _ | refine blk_drew ?_ | refine blk_alloc ?_ _)); refine blk_far ?_ NB151_152.out _; (with_reducible repeat (first | refine blk_drewN ?_ _ | refine blk_drew ?_ | refine blk_alloc ?_ _)); exact BK151.out⟩, ⟨by (with_reducible repeat (first | refine blk_drewN ?_ _ | refine blk_drew ?_ | refine blk_alloc ?_ _)); refine blk_put (cs := #[u153000, u153001]) ?_ 1 _ rfl; (with_reducible repeat (first | refine blk_drewN ?_ _ | refine blk_drew ?_ | refine blk_alloc ?_ _)); exact BK152.out⟩, ⟨by repeat (first | (with_reducible first | exact HB.out | apply below_alloc | apply pw_below_drewN | apply below_drew1 | refine below_set ?_ GE151.out | refine below_set ?_ GE152.out) | exact HB.out)⟩⟩
                    ·rw [if_neg c52] at H
                     exact absurd H (by simp)
                   ·replace c51 := Bool.eq_false_iff.mpr c51
                    subst c51
                    have H1 : (some (([] : List (S94)), ([] : List (S96)), false)) = some (r1, r2, r3) := by rw [if_neg (show ¬ (false = true) by decide)] at H; exact H
                    clear H
                    have H := H1
                    clear H1
                    simp only [Option.some.injEq, Prod.mk.injEq] at H
                    obtain ⟨rfl, rfl, rfl⟩ := H
                    have p178 : 0 ≤ (1 : Int) := (by omega)
                    have q178 : 1 < (t158.length : Int) := of_decide_eq_true (by first | (with_reducible assumption) | assumption)
                    obtain ⟨ad178, e178, hx178_0⟩ := Kd.at_string (Kd.R_reads' HO_7.out).2.2 1 p178 q178
                    obtain rfl : ad161 = ad178 := (by injection e178)
                    (try simp only [show (1 : Int).toNat = 1 from rfl, Nat.reduceMul, Nat.reduceEqDiff, Go.Addr.add, ↓reduceIte] at hx178_0)
                    have qi178 : (1 < t158.length) = True := eq_true (by omega)
                    (try rw [show ((1 : Int)).toNat = 1 from rfl] at hx178_0)
                    replace p178 := eq_true p178
                    replace q178 := eq_true q178
                    have hnb58 := NB151_152.out
                    have hnc58 := NB152_151.out
                    have hcz59_0 : wc.cell? ⟨gb151, 0, none⟩ = some (.slice none 0 0) := (blk_cell BK151.out 0).trans rfl
                    have hcz59_1 : wc.cell? ⟨gb151, 1, none⟩ = some (.slice none 0 0) := (blk_cell BK151.out 1).trans rfl
                    have hfz59_0 := blk_frozen BK151.out 0
                    have hfz59_1 := blk_frozen BK151.out 1
                    go_wp2
                    refine bodyPost_ret (results_ct rfl _ _ gb151 52 #[.slice none 0 0, .slice none 0 0] (0, 0) _ rfl (by (with_reducible repeat (first | refine blk_drewN ?_ _ | refine blk_drew ?_ | refine blk_alloc ?_ _)); refine blk_put (cs := #[.slice none 0 0, .slice none 0 0]) ?_ 1 _ rfl; (with_reducible repeat (first | refine blk_drewN ?_ _ | refine blk_drew ?_ | refine blk_alloc ?_ _)); refine blk_put (cs := #[.slice none 0 0, .slice none 0 0]) ?_ 0 _ rfl; (with_reducible repeat (first | refine blk_drewN ?_ _ | refine blk_drew ?_ | refine blk_alloc ?_ _)); exact BK151.out) Tryd.underlying52 rfl (by kernel_rfl)) rfl ?_
                    exact ⟨_, _, by first | rfl | (simp [errW_none, errW_some] <;> rfl) | (simp [*, errW_none, errW_some] <;> rfl), by first | exact Kd.R_nil _ _ _ _ _ | exact Kd.N_nil _ _ _ _ _ | exact Kd.V_nil _ _ _ _ _ | exact Kd.Q_nil _ _ _ _ _ | exact Kd.S_nil _ _ _ _ _, by first | exact Kd.R_nil _ _ _ _ _ | exact Kd.N_nil _ _ _ _ _ | exact Kd.V_nil _ _ _ _ _ | exact Kd.Q_nil _ _ _ _ _ | exact Kd.S_nil _ _ _ _ _, by repeat (first | (with_reducible first | exact HB.out | apply below_alloc | apply pw_below_drewN | apply below_drew1 | refine below_set ?_ GE151.out | refine below_set ?_ GE152.out) | exact HB.out)⟩
                  ·rw [if_neg c50] at H
                   have c50b0 : ((rdOf ByteArray.empty t158 1).toList == ([97, 98, 111, 118, 101] : List UInt8)) = false := beq_eq_false_iff_ne.mpr c50
                   have c50b1 : ((rdOf ByteArray.empty t158 1).toList != ([97, 98, 111, 118, 101] : List UInt8)) = true := bne_iff_ne.mpr c50
                   simp only [Option.some.injEq, Prod.mk.injEq] at H
                   obtain ⟨rfl, rfl, rfl⟩ := H
                   have p178 : 0 ≤ (1 : Int) := (by omega)
                   have q178 : 1 < (t158.length : Int) := of_decide_eq_true (by first | (with_reducible assumption) | assumption)
                   obtain ⟨ad178, e178, hx178_0⟩ := Kd.at_string (Kd.R_reads' HO_7.out).2.2 1 p178 q178
                   obtain rfl : ad161 = ad178 := (by injection e178)
                   (try simp only [show (1 : Int).toNat = 1 from rfl, Nat.reduceMul, Nat.reduceEqDiff, Go.Addr.add, ↓reduceIte] at hx178_0)
                   have qi178 : (1 < t158.length) = True := eq_true (by omega)
                   (try rw [show ((1 : Int)).toNat = 1 from rfl] at hx178_0)
                   replace p178 := eq_true p178
                   replace q178 := eq_true q178
                   have hnb60 := NB151_152.out
                   have hnc60 := NB152_151.out
                   have hcz61_0 : wc.cell? ⟨gb151, 0, none⟩ = some (.slice none 0 0) := (blk_cell BK151.out 0).trans rfl
                   have hcz61_1 : wc.cell? ⟨gb151, 1, none⟩ = some (.slice none 0 0) := (blk_cell BK151.out 1).trans rfl
                   have hfz61_0 := blk_frozen BK151.out 0
                   have hfz61_1 := blk_frozen BK151.out 1
                   go_wp2
                   refine bodyPost_ret (results_ct rfl _ _ gb151 52 #[.slice none 0 0, .slice none 0 0] (0, 0) _ rfl (by (with_reducible repeat (first | refine blk_drewN ?_ _ | refine blk_drew ?_ | refine blk_alloc ?_ _)); refine blk_put (cs := #[.slice none 0 0, .slice none 0 0]) ?_ 1 _ rfl; (with_reducible repeat (first | refine blk_drewN ?_ _ | refine blk_drew ?_ | refine blk_alloc ?_ _)); refine blk_put (cs := #[.slice none 0 0, .slice none 0 0]) ?_ 0 _ rfl; (with_reducible repeat (first | refine blk_drewN ?_ _ | refine blk_drew ?_ | refine blk_alloc ?_ _)); exact BK151.out) Tryd.underlying52 rfl (by kernel_rfl)) rfl ?_
                   exact ⟨_, _, by first | rfl | (simp [errW_none, errW_some] <;> rfl) | (simp [*, errW_none, errW_some] <;> rfl), by first | exact Kd.R_nil _ _ _ _ _ | exact Kd.N_nil _ _ _ _ _ | exact Kd.V_nil _ _ _ _ _ | exact Kd.Q_nil _ _ _ _ _ | exact Kd.S_nil _ _ _ _ _, by first | exact Kd.R_nil _ _ _ _ _ | exact Kd.N_nil _ _ _ _ _ | exact Kd.V_nil _ _ _ _ _ | exact Kd.Q_nil _ _ _ _ _ | exact Kd.S_nil _ _ _ _ _, by repeat (first | (with_reducible first | exact HB.out | apply below_alloc | apply pw_below_drewN | apply below_drew1 | refine below_set ?_ GE151.out | refine below_set ?_ GE152.out) | exact HB.out)⟩
                 ·rw [if_neg c49] at H
                  exact absurd H (by simp)
                ·replace c48 := Bool.eq_false_iff.mpr c48
                 subst c48
                 have H1 : (some (([] : List (S94)), ([] : List (S96)), false)) = some (r1, r2, r3) := by rw [if_neg (show ¬ (false = true) by decide)] at H; exact H
                 clear H
                 have H := H1
                 clear H1
                 simp only [Option.some.injEq, Prod.mk.injEq] at H
                 obtain ⟨rfl, rfl, rfl⟩ := H
                 have hnb62 := NB151_152.out
                 have hnc62 := NB152_151.out
                 have hcz63_0 : wc.cell? ⟨gb151, 0, none⟩ = some (.slice none 0 0) := (blk_cell BK151.out 0).trans rfl
                 have hcz63_1 : wc.cell? ⟨gb151, 1, none⟩ = some (.slice none 0 0) := (blk_cell BK151.out 1).trans rfl
                 have hfz63_0 := blk_frozen BK151.out 0
                 have hfz63_1 := blk_frozen BK151.out 1
                 go_wp2
                 refine bodyPost_ret (results_ct rfl _ _ gb151 52 #[.slice none 0 0, .slice none 0 0] (0, 0) _ rfl (by (with_reducible repeat (first | refine blk_drewN ?_ _ | refine blk_drew ?_ | refine blk_alloc ?_ _)); refine blk_put (cs := #[.slice none 0 0, .slice none 0 0]) ?_ 1 _ rfl; (with_reducible repeat (first | refine blk_drewN ?_ _ | refine blk_drew ?_ | refine blk_alloc ?_ _)); refine blk_put (cs := #[.slice none 0 0, .slice none 0 0]) ?_ 0 _ rfl; (with_reducible repeat (first | refine blk_drewN ?_ _ | refine blk_drew ?_ | refine blk_alloc ?_ _)); exact BK151.out) Tryd.underlying52 rfl (by kernel_rfl)) rfl ?_
                 exact ⟨_, _, by first | rfl | (simp [errW_none, errW_some] <;> rfl) | (simp [*, errW_none, errW_some] <;> rfl), by first | exact Kd.R_nil _ _ _ _ _ | exact Kd.N_nil _ _ _ _ _ | exact Kd.V_nil _ _ _ _ _ | exact Kd.Q_nil _ _ _ _ _ | exact Kd.S_nil _ _ _ _ _, by first | exact Kd.R_nil _ _ _ _ _ | exact Kd.N_nil _ _ _ _ _ | exact Kd.V_nil _ _ _ _ _ | exact Kd.Q_nil _ _ _ _ _ | exact Kd.S_nil _ _ _ _ _, by repeat (first | (with_reducible first | exact HB.out | apply below_alloc | apply pw_below_drewN | apply below_drew1 | refine below_set ?_ GE151.out | refine below_set ?_ GE152.out) | exact HB.out)⟩
            ·rw [if_neg c26] at H
             exact absurd H (by simp)
           ·rw [if_neg c24] at H
            exact absurd H (by simp)
          ·rw [if_neg c22] at H
           exact absurd H (by simp)
         ·rw [if_neg c21] at H
          have c21b0 : ((t158.length : Int) == 3) = false := beq_eq_false_iff_ne.mpr c21
          have c21b1 : ((t158.length : Int) != 3) = true := bne_iff_ne.mpr c21
          simp only [Option.some.injEq, Prod.mk.injEq] at H
          obtain ⟨rfl, rfl, rfl⟩ := H
          obtain ⟨Ao64, co64, eo64⟩ := Kd.R_slice HO_5.out
          subst eo64
          have p157 : 0 ≤ (x6_2 : Int) := of_decide_eq_true (by first | (with_reducible assumption) | assumption)
          have q157 : x6_2 < (t153.length : Int) := of_decide_eq_true (by first | (with_reducible assumption) | assumption)
          obtain ⟨ad157, e157, hx157_0⟩ := Kd.at_string (Kd.R_reads' HO_5.out).2.2 x6_2 p157 q157
          cases e157
          replace p157 := eq_true p157
          replace q157 := eq_true q157
          go_wp2_with (first | ((with_reducible refine gate_callee (f := 55) rfl ?_); refine goesL_ (some 41) rfl rfl Tryd.func55 (by kernel_rfl) rfl #[.string (rdOf ByteArray.empty t153 x6_2), .int .u8 32] rfl (by (try simp only [List.map_toArray, List.map_cons, List.map_nil]); first | done | rfl | (simp only [List.length_drop, List.length_take]; rfl)) ?_; (with_reducible refine (spec_l1Split.calls k2 (rdOf ByteArray.empty t153 x6_2) 32 t158 _ A20.out).mono ?_); rintro e w65 ⟨v159, rfl, ho0, hb⟩; refine ⟨_, rfl, ?_⟩; have n0_ := Aside0.mk (Kd.R_elder' (rz_ HO_5.out) (Kd.R_base ho0) hb); have n1_ := Aside0.mk (Kd.R_below (rz_ HO_153000.out) hb); have n2_ := Aside0.mk (Kd.R_below (rz_ HO_153001.out) hb); have n3_ := Aside0.mk (Kd.R_lower (Kd.R_new' ho0 (Kd.R_lt (rz_ HO_5.out))) (below_size (by repeat (first | (with_reducible first | exact HB.out | apply below_alloc | apply pw_below_drewN | apply below_drew1 | refine below_set ?_ GE151.out | refine below_set ?_ GE152.out) | exact HB.out)))); have n4_ := Aside0.mk (blk_below (bz_ BK151.out) hb); have n5_ := Aside0.mk (blk_below (bz_ BK152.out) hb); have n6_ := Aside0.mk (below_step (by repeat (first | (with_reducible first | exact HB.out | apply below_alloc | apply pw_below_drewN | apply below_drew1 | refine below_set ?_ GE151.out | refine below_set ?_ GE152.out) | exact HB.out)) hb); clear HO_5; clear HO_153000; clear HO_153001; clear BK151; clear BK152; clear HB; have HO_5 := n0_; have HO_153000 := n1_; have HO_153001 := n2_; have HO160 := n3_; have BK151 := n4_; have BK152 := n5_; have HB := n6_; clear n0_ n1_ n2_ n3_ n4_ n5_ n6_; (try clear hb); (try clear hb2); (try clear hk); (try clear hi); (try clear ho0); obtain ⟨Ao66, co66, eo66⟩ := Kd.R_slice HO160.out; subst eo66; have hnb67 := NB151_152.out; have hnc67 := NB152_151.out; have hcz68_0 : w65.cell? ⟨gb151, 0, none⟩ = some (.slice none 0 0) := (blk_cell BK151.out 0).trans rfl; have hcz68_1 : w65.cell? ⟨gb151, 1, none⟩ = some (.slice none 0 0) := (blk_cell BK151.out 1).trans rfl; have hfz68_0 := blk_frozen BK151.out 0; have hfz68_1 := blk_frozen BK151.out 1))
          refine bodyPost_ret (results_ct rfl _ _ gb151 52 #[.slice none 0 0, .slice none 0 0] (0, 0) _ rfl (by (with_reducible repeat (first | refine blk_drewN ?_ _ | refine blk_drew ?_ | refine blk_alloc ?_ _)); refine blk_put (cs := #[.slice none 0 0, .slice none 0 0]) ?_ 1 _ rfl; (with_reducible repeat (first | refine blk_drewN ?_ _ | refine blk_drew ?_ | refine blk_alloc ?_ _)); refine blk_put (cs := #[.slice none 0 0, .slice none 0 0]) ?_ 0 _ rfl; (with_reducible repeat (first | refine blk_drewN ?_ _ | refine blk_drew ?_ | refine blk_alloc ?_ _)); exact BK151.out) Tryd.underlying52 rfl (by kernel_rfl)) rfl ?_
          exact ⟨_, _, by first | rfl | (simp [errW_none, errW_some] <;> rfl) | (simp [*, errW_none, errW_some] <;> rfl), by first | exact Kd.R_nil _ _ _ _ _ | exact Kd.N_nil _ _ _ _ _ | exact Kd.V_nil _ _ _ _ _ | exact Kd.Q_nil _ _ _ _ _ | exact Kd.S_nil _ _ _ _ _, by first | exact Kd.R_nil _ _ _ _ _ | exact Kd.N_nil _ _ _ _ _ | exact Kd.V_nil _ _ _ _ _ | exact Kd.Q_nil _ _ _ _ _ | exact Kd.S_nil _ _ _ _ _, by repeat (first | (with_reducible first | exact HB.out | apply below_alloc | apply pw_below_drewN | apply below_drew1 | refine below_set ?_ GE151.out | refine below_set ?_ GE152.out) | exact HB.out)⟩
        ·rw [if_neg c19] at H
         exact absurd H (by simp)
       ·rw [if_neg c18] at H
        exact absurd H (by simp)
      ·rw [if_neg c17] at H
       have c17b0 : decide (x6_2 < (wrap64 ((t153.length : Int) - 1))) = false := decide_eq_false c17
       clear c17
       replace H := Option.bind_eq_some_iff.mp H
       obtain ⟨t182, A690, H⟩ := H
       replace H : (if t182 = true then ((spec_l3Text.f k2 x153000_2 x153001_2).bind fun t183 => (if t183.toList = a0.toList then (some (x153000_2, x153001_2, true)) else (some (([] : List (S94)), ([] : List (S96)), false)))) else (some (([] : List (S94)), ([] : List (S96)), false))) = some (r1, r2, r3) := H
       have A69 := Aside0.mk A690
       clear A690
       by_cases c70 : t182 = true
       ·subst c70
        have H1 : ((spec_l3Text.f k2 x153000_2 x153001_2).bind fun t183 => (if t183.toList = a0.toList then (some (x153000_2, x153001_2, true)) else (some (([] : List (S94)), ([] : List (S96)), false)))) = some (r1, r2, r3) := by rw [if_pos rfl] at H; exact H
        clear H
        have H := H1
        clear H1
        replace H := Option.bind_eq_some_iff.mp H
        obtain ⟨t183, A710, H⟩ := H
        replace H : (if t183.toList = a0.toList then (some (x153000_2, x153001_2, true)) else (some (([] : List (S94)), ([] : List (S96)), false))) = some (r1, r2, r3) := H
        have A71 := Aside0.mk A710
        clear A710
        by_cases c72 : t183.toList = a0.toList
        ·rw [if_pos c72] at H
         have c72b0 : (t183.toList == a0.toList) = true := beq_iff_eq.mpr c72
         have c72b1 : (t183.toList != a0.toList) = false := bne_eq_false_iff_eq.mpr c72
         clear c72
         simp only [Option.some.injEq, Prod.mk.injEq] at H
         obtain ⟨rfl, rfl, rfl⟩ := H
         obtain ⟨Ao73, co73, eo73⟩ := Kd.R_slice HO_5.out
         subst eo73
         have hnb74 := NB152_151.out
         have hnc74 := NB151_152.out
         have hcz75_0 : wr.cell? ⟨gb152, 0, none⟩ = some (u153000) := (blk_cell BK152.out 0).trans rfl
         have hcz75_1 : wr.cell? ⟨gb152, 1, none⟩ = some (u153001) := (blk_cell BK152.out 1).trans rfl
         have hfz75_0 := blk_frozen BK152.out 0
         have hfz75_1 := blk_frozen BK152.out 1
         obtain ⟨Ao76, co76, eo76⟩ := Kd.R_slice HO_153000.out
         subst eo76
         obtain ⟨Ao77, co77, eo77⟩ := Kd.R_slice HO_153001.out
         subst eo77
         go_wp2_with (first | ((with_reducible refine gate_callee (f := 73) rfl ?_); refine goesL_ (some 114) rfl rfl Tryd.func73 (by kernel_rfl) rfl #[.agg #[.slice Ao76 x153000_2.length co76, .slice Ao77 x153001_2.length co77]] rfl (by (try simp only [List.map_toArray, List.map_cons, List.map_nil]); first | done | rfl | (simp only [List.length_drop, List.length_take]; rfl)) ?_; (with_reducible refine (spec_l2Good.calls _ _ x153000_2 _ _ x153001_2 true _ ?side1 ?side2 ?side3 ?side4 A69.out).mono ?_); (case side1 => exact cz_ (Kd.R_reads' HO_153000.out).2.2); (case side2 => exact (Kd.R_reads' HO_153000.out).2.1); (case side3 => exact cz_ (Kd.R_reads' HO_153001.out).2.2); (case side4 => exact (Kd.R_reads' HO_153001.out).2.1); rintro e w78 ⟨rfl, hb⟩; refine ⟨_, rfl, ?_⟩; have n0_ := Aside0.mk (Kd.R_below (rz_ HO_5.out) hb); have n1_ := Aside0.mk (Kd.R_below (rz_ HO_153000.out) hb); have n2_ := Aside0.mk (Kd.R_below (rz_ HO_153001.out) hb); have n3_ := Aside0.mk (blk_below (bz_ BK151.out) hb); have n4_ := Aside0.mk (blk_below (bz_ BK152.out) hb); have n5_ := Aside0.mk (below_step (by repeat (first | (with_reducible first | exact HB.out | apply below_alloc | apply pw_below_drewN | apply below_drew1 | refine below_set ?_ GE151.out | refine below_set ?_ GE152.out) | exact HB.out)) hb); clear HO_5; clear HO_153000; clear HO_153001; clear BK151; clear BK152; clear HB; have HO_5 := n0_; have HO_153000 := n1_; have HO_153001 := n2_; have BK151 := n3_; have BK152 := n4_; have HB := n5_; clear n0_ n1_ n2_ n3_ n4_ n5_; (try clear hb); (try clear hb2); (try clear hk); (try clear hi); have hcz79_0 : w78.cell? ⟨gb152, 0, none⟩ = some (.slice Ao76 x153000_2.length co76) := (blk_cell BK152.out 0).trans rfl; have hcz79_1 : w78.cell? ⟨gb152, 1, none⟩ = some (.slice Ao77 x153001_2.length co77) := (blk_cell BK152.out 1).trans rfl; have hfz79_0 := blk_frozen BK152.out 0; have hfz79_1 := blk_frozen BK152.out 1) | (go_at_call 74; (with_reducible refine (spec_l3Text.calls k2 _ _ x153000_2 _ _ x153001_2 t183 _ ?side1 ?side2 ?side3 ?side4 A71.out).mono ?_); (case side1 => exact cz_ (Kd.R_reads' HO_153000.out).2.2); (case side2 => exact (Kd.R_reads' HO_153000.out).2.1); (case side3 => exact cz_ (Kd.R_reads' HO_153001.out).2.2); (case side4 => exact (Kd.R_reads' HO_153001.out).2.1); rintro e w80 ⟨rfl, hb⟩; have n0_ := Aside0.mk (Kd.R_below (rz_ HO_5.out) hb); have n1_ := Aside0.mk (Kd.R_below (rz_ HO_153000.out) hb); have n2_ := Aside0.mk (Kd.R_below (rz_ HO_153001.out) hb); have n3_ := Aside0.mk (blk_below (bz_ BK151.out) hb); have n4_ := Aside0.mk (blk_below (bz_ BK152.out) hb); have n5_ := Aside0.mk (below_step (by repeat (first | (with_reducible first | exact HB.out | apply below_alloc | apply pw_below_drewN | apply below_drew1 | refine below_set ?_ GE151.out | refine below_set ?_ GE152.out) | exact HB.out)) hb); clear HO_5; clear HO_153000; clear HO_153001; clear BK151; clear BK152; clear HB; have HO_5 := n0_; have HO_153000 := n1_; have HO_153001 := n2_; have BK151 := n3_; have BK152 := n4_; have HB := n5_; clear n0_ n1_ n2_ n3_ n4_ n5_; (try clear hb); (try clear hb2); (try clear hk); (try clear hi); have hcz81_0 : w80.cell? ⟨gb152, 0, none⟩ = some (.slice Ao76 x153000_2.length co76) := (blk_cell BK152.out 0).trans rfl; have hcz81_1 : w80.cell? ⟨gb152, 1, none⟩ = some (.slice Ao77 x153001_2.length co77) := (blk_cell BK152.out 1).trans rfl; have hfz81_0 := blk_frozen BK152.out 0; have hfz81_1 := blk_frozen BK152.out 1; have hcz82_0 : w80.cell? ⟨gb151, 0, none⟩ = some (.slice none 0 0) := (blk_cell BK151.out 0).trans rfl; have hcz82_1 : w80.cell? ⟨gb151, 1, none⟩ = some (.slice none 0 0) := (blk_cell BK151.out 1).trans rfl; have hfz82_0 := blk_frozen BK151.out 0; have hfz82_1 := blk_frozen BK151.out 1))
         refine bodyPost_ret (results_ct rfl _ _ gb151 52 #[.slice Ao76 x153000_2.length co76, .slice Ao77 x153001_2.length co77] (0, 0) _ rfl (by (with_reducible repeat (first | refine blk_drewN ?_ _ | refine blk_drew ?_ | refine blk_alloc ?_ _)); refine blk_put (cs := #[.slice Ao76 x153000_2.length co76, .slice none 0 0]) ?_ 1 _ rfl; (with_reducible repeat (first | refine blk_drewN ?_ _ | refine blk_drew ?_ | refine blk_alloc ?_ _)); refine blk_put (cs := #[.slice none 0 0, .slice none 0 0]) ?_ 0 _ rfl; (with_reducible repeat (first | refine blk_drewN ?_ _ | refine blk_drew ?_ | refine blk_alloc ?_ _)); exact BK151.out) Tryd.underlying52 rfl (by kernel_rfl)) rfl ?_
         exact ⟨_, _, by first | rfl | (simp [errW_none, errW_some] <;> rfl) | (simp [*, errW_none, errW_some] <;> rfl), rz_ (Kd.R_mono (Kd.R_far (p := ⟨gb151, 1, none⟩) (Kd.R_far (p := ⟨gb151, 0, none⟩) (Kd.R_types HO_153000.out BK151.out (by decide)) (fun _ hk => hk.2) (.slice Ao76 x153000_2.length co76)) (fun _ hk => hk.2) (.slice Ao77 x153001_2.length co77)) (fun _ hk => trivial)), rz_ (Kd.R_mono (Kd.R_far (p := ⟨gb151, 1, none⟩) (Kd.R_far (p := ⟨gb151, 0, none⟩) (Kd.R_types HO_153001.out BK151.out (by decide)) (fun _ hk => hk.2) (.slice Ao76 x153000_2.length co76)) (fun _ hk => hk.2) (.slice Ao77 x153001_2.length co77)) (fun _ hk => trivial)), by repeat (first | (with_reducible first | exact HB.out | apply below_alloc | apply pw_below_drewN | apply below_drew1 | refine below_set ?_ GE151.out | refine below_set ?_ GE152.out) | exact HB.out)⟩
        ·rw [if_neg c72] at H
         have c72b0 : (t183.toList == a0.toList) = false := beq_eq_false_iff_ne.mpr c72
         have c72b1 : (t183.toList != a0.toList) = true := bne_iff_ne.mpr c72
         simp only [Option.some.injEq, Prod.mk.injEq] at H
         obtain ⟨rfl, rfl, rfl⟩ := H
         obtain ⟨Ao83, co83, eo83⟩ := Kd.R_slice HO_5.out
         subst eo83
         have hnb84 := NB152_151.out
         have hnc84 := NB151_152.out
         have hcz85_0 : wr.cell? ⟨gb152, 0, none⟩ = some (u153000) := (blk_cell BK152.out 0).trans rfl
         have hcz85_1 : wr.cell? ⟨gb152, 1, none⟩ = some (u153001) := (blk_cell BK152.out 1).trans rfl
         have hfz85_0 := blk_frozen BK152.out 0
         have hfz85_1 := blk_frozen BK152.out 1
         obtain ⟨Ao86, co86, eo86⟩ := Kd.R_slice HO_153000.out
         subst eo86
         obtain ⟨Ao87, co87, eo87⟩ := Kd.R_slice HO_153001.out
         subst eo87
         go_wp2_with (first | ((with_reducible refine gate_callee (f := 73) rfl ?_); refine goesL_ (some 114) rfl rfl Tryd.func73 (by kernel_rfl) rfl #[.agg #[.slice Ao86 x153000_2.length co86, .slice Ao87 x153001_2.length co87]] rfl (by (try simp only [List.map_toArray, List.map_cons, List.map_nil]); first | done | rfl | (simp only [List.length_drop, List.length_take]; rfl)) ?_; (with_reducible refine (spec_l2Good.calls _ _ x153000_2 _ _ x153001_2 true _ ?side1 ?side2 ?side3 ?side4 A69.out).mono ?_); (case side1 => exact cz_ (Kd.R_reads' HO_153000.out).2.2); (case side2 => exact (Kd.R_reads' HO_153000.out).2.1); (case side3 => exact cz_ (Kd.R_reads' HO_153001.out).2.2); (case side4 => exact (Kd.R_reads' HO_153001.out).2.1); rintro e w88 ⟨rfl, hb⟩; refine ⟨_, rfl, ?_⟩; have n0_ := Aside0.mk (Kd.R_below (rz_ HO_5.out) hb); have n1_ := Aside0.mk (Kd.R_below (rz_ HO_153000.out) hb); have n2_ := Aside0.mk (Kd.R_below (rz_ HO_153001.out) hb); have n3_ := Aside0.mk (blk_below (bz_ BK151.out) hb); have n4_ := Aside0.mk (blk_below (bz_ BK152.out) hb); have n5_ := Aside0.mk (below_step (by repeat (first | (with_reducible first | exact HB.out | apply below_alloc | apply pw_below_drewN | apply below_drew1 | refine below_set ?_ GE151.out | refine below_set ?_ GE152.out) | exact HB.out)) hb); clear HO_5; clear HO_153000; clear HO_153001; clear BK151; clear BK152; clear HB; have HO_5 := n0_; have HO_153000 := n1_; have HO_153001 := n2_; have BK151 := n3_; have BK152 := n4_; have HB := n5_; clear n0_ n1_ n2_ n3_ n4_ n5_; (try clear hb); (try clear hb2); (try clear hk); (try clear hi); have hcz89_0 : w88.cell? ⟨gb152, 0, none⟩ = some (.slice Ao86 x153000_2.length co86) := (blk_cell BK152.out 0).trans rfl; have hcz89_1 : w88.cell? ⟨gb152, 1, none⟩ = some (.slice Ao87 x153001_2.length co87) := (blk_cell BK152.out 1).trans rfl; have hfz89_0 := blk_frozen BK152.out 0; have hfz89_1 := blk_frozen BK152.out 1) | (go_at_call 74; (with_reducible refine (spec_l3Text.calls k2 _ _ x153000_2 _ _ x153001_2 t183 _ ?side1 ?side2 ?side3 ?side4 A71.out).mono ?_); (case side1 => exact cz_ (Kd.R_reads' HO_153000.out).2.2); (case side2 => exact (Kd.R_reads' HO_153000.out).2.1); (case side3 => exact cz_ (Kd.R_reads' HO_153001.out).2.2); (case side4 => exact (Kd.R_reads' HO_153001.out).2.1); rintro e w90 ⟨rfl, hb⟩; have n0_ := Aside0.mk (Kd.R_below (rz_ HO_5.out) hb); have n1_ := Aside0.mk (Kd.R_below (rz_ HO_153000.out) hb); have n2_ := Aside0.mk (Kd.R_below (rz_ HO_153001.out) hb); have n3_ := Aside0.mk (blk_below (bz_ BK151.out) hb); have n4_ := Aside0.mk (blk_below (bz_ BK152.out) hb); have n5_ := Aside0.mk (below_step (by repeat (first | (with_reducible first | exact HB.out | apply below_alloc | apply pw_below_drewN | apply below_drew1 | refine below_set ?_ GE151.out | refine below_set ?_ GE152.out) | exact HB.out)) hb); clear HO_5; clear HO_153000; clear HO_153001; clear BK151; clear BK152; clear HB; have HO_5 := n0_; have HO_153000 := n1_; have HO_153001 := n2_; have BK151 := n3_; have BK152 := n4_; have HB := n5_; clear n0_ n1_ n2_ n3_ n4_ n5_; (try clear hb); (try clear hb2); (try clear hk); (try clear hi); have hcz91_0 : w90.cell? ⟨gb151, 0, none⟩ = some (.slice none 0 0) := (blk_cell BK151.out 0).trans rfl; have hcz91_1 : w90.cell? ⟨gb151, 1, none⟩ = some (.slice none 0 0) := (blk_cell BK151.out 1).trans rfl; have hfz91_0 := blk_frozen BK151.out 0; have hfz91_1 := blk_frozen BK151.out 1))
         refine bodyPost_ret (results_ct rfl _ _ gb151 52 #[.slice none 0 0, .slice none 0 0] (0, 0) _ rfl (by (with_reducible repeat (first | refine blk_drewN ?_ _ | refine blk_drew ?_ | refine blk_alloc ?_ _)); refine blk_put (cs := #[.slice none 0 0, .slice none 0 0]) ?_ 1 _ rfl; (with_reducible repeat (first | refine blk_drewN ?_ _ | refine blk_drew ?_ | refine blk_alloc ?_ _)); refine blk_put (cs := #[.slice none 0 0, .slice none 0 0]) ?_ 0 _ rfl; (with_reducible repeat (first | refine blk_drewN ?_ _ | refine blk_drew ?_ | refine blk_alloc ?_ _)); exact BK151.out) Tryd.underlying52 rfl (by kernel_rfl)) rfl ?_
         exact ⟨_, _, by first | rfl | (simp [errW_none, errW_some] <;> rfl) | (simp [*, errW_none, errW_some] <;> rfl), by first | exact Kd.R_nil _ _ _ _ _ | exact Kd.N_nil _ _ _ _ _ | exact Kd.V_nil _ _ _ _ _ | exact Kd.Q_nil _ _ _ _ _ | exact Kd.S_nil _ _ _ _ _, by first | exact Kd.R_nil _ _ _ _ _ | exact Kd.N_nil _ _ _ _ _ | exact Kd.V_nil _ _ _ _ _ | exact Kd.Q_nil _ _ _ _ _ | exact Kd.S_nil _ _ _ _ _, by repeat (first | (with_reducible first | exact HB.out | apply below_alloc | apply pw_below_drewN | apply below_drew1 | refine below_set ?_ GE151.out | refine below_set ?_ GE152.out) | exact HB.out)⟩
       ·replace c70 := Bool.eq_false_iff.mpr c70
        subst c70
        have H1 : (some (([] : List (S94)), ([] : List (S96)), false)) = some (r1, r2, r3) := by rw [if_neg (show ¬ (false = true) by decide)] at H; exact H
        clear H
        have H := H1
        clear H1
        simp only [Option.some.injEq, Prod.mk.injEq] at H
        obtain ⟨rfl, rfl, rfl⟩ := H
        obtain ⟨Ao92, co92, eo92⟩ := Kd.R_slice HO_5.out
        subst eo92
        have hnb93 := NB152_151.out
        have hnc93 := NB151_152.out
        have hcz94_0 : wr.cell? ⟨gb152, 0, none⟩ = some (u153000) := (blk_cell BK152.out 0).trans rfl
        have hcz94_1 : wr.cell? ⟨gb152, 1, none⟩ = some (u153001) := (blk_cell BK152.out 1).trans rfl
        have hfz94_0 := blk_frozen BK152.out 0
        have hfz94_1 := blk_frozen BK152.out 1
        obtain ⟨Ao95, co95, eo95⟩ := Kd.R_slice HO_153000.out
        subst eo95
        obtain ⟨Ao96, co96, eo96⟩ := Kd.R_slice HO_153001.out
        subst eo96
        go_wp2_with (first | ((with_reducible refine gate_callee (f := 73) rfl ?_); refine goesL_ (some 114) rfl rfl Tryd.func73 (by kernel_rfl) rfl #[.agg #[.slice Ao95 x153000_2.length co95, .slice Ao96 x153001_2.length co96]] rfl (by (try simp only [List.map_toArray, List.map_cons, List.map_nil]); first | done | rfl | (simp only [List.length_drop, List.length_take]; rfl)) ?_; (with_reducible refine (spec_l2Good.calls _ _ x153000_2 _ _ x153001_2 false _ ?side1 ?side2 ?side3 ?side4 A69.out).mono ?_); (case side1 => exact cz_ (Kd.R_reads' HO_153000.out).2.2); (case side2 => exact (Kd.R_reads' HO_153000.out).2.1); (case side3 => exact cz_ (Kd.R_reads' HO_153001.out).2.2); (case side4 => exact (Kd.R_reads' HO_153001.out).2.1); rintro e w97 ⟨rfl, hb⟩; refine ⟨_, rfl, ?_⟩; have n0_ := Aside0.mk (Kd.R_below (rz_ HO_5.out) hb); have n1_ := Aside0.mk (Kd.R_below (rz_ HO_153000.out) hb); have n2_ := Aside0.mk (Kd.R_below (rz_ HO_153001.out) hb); have n3_ := Aside0.mk (blk_below (bz_ BK151.out) hb); have n4_ := Aside0.mk (blk_below (bz_ BK152.out) hb); have n5_ := Aside0.mk (below_step (by repeat (first | (with_reducible first | exact HB.out | apply below_alloc | apply pw_below_drewN | apply below_drew1 | refine below_set ?_ GE151.out | refine below_set ?_ GE152.out) | exact HB.out)) hb); clear HO_5; clear HO_153000; clear HO_153001; clear BK151; clear BK152; clear HB; have HO_5 := n0_; have HO_153000 := n1_; have HO_153001 := n2_; have BK151 := n3_; have BK152 := n4_; have HB := n5_; clear n0_ n1_ n2_ n3_ n4_ n5_; (try clear hb); (try clear hb2); (try clear hk); (try clear hi); have hcz98_0 : w97.cell? ⟨gb151, 0, none⟩ = some (.slice none 0 0) := (blk_cell BK151.out 0).trans rfl; have hcz98_1 : w97.cell? ⟨gb151, 1, none⟩ = some (.slice none 0 0) := (blk_cell BK151.out 1).trans rfl; have hfz98_0 := blk_frozen BK151.out 0; have hfz98_1 := blk_frozen BK151.out 1))
        refine bodyPost_ret (results_ct rfl _ _ gb151 52 #[.slice none 0 0, .slice none 0 0] (0, 0) _ rfl (by (with_reducible repeat (first | refine blk_drewN ?_ _ | refine blk_drew ?_ | refine blk_alloc ?_ _)); refine blk_put (cs := #[.slice none 0 0, .slice none 0 0]) ?_ 1 _ rfl; (with_reducible repeat (first | refine blk_drewN ?_ _ | refine blk_drew ?_ | refine blk_alloc ?_ _)); refine blk_put (cs := #[.slice none 0 0, .slice none 0 0]) ?_ 0 _ rfl; (with_reducible repeat (first | refine blk_drewN ?_ _ | refine blk_drew ?_ | refine blk_alloc ?_ _)); exact BK151.out) Tryd.underlying52 rfl (by kernel_rfl)) rfl ?_
        exact ⟨_, _, by first | rfl | (simp [errW_none, errW_some] <;> rfl) | (simp [*, errW_none, errW_some] <;> rfl), by first | exact Kd.R_nil _ _ _ _ _ | exact Kd.N_nil _ _ _ _ _ | exact Kd.V_nil _ _ _ _ _ | exact Kd.Q_nil _ _ _ _ _ | exact Kd.S_nil _ _ _ _ _, by first | exact Kd.R_nil _ _ _ _ _ | exact Kd.N_nil _ _ _ _ _ | exact Kd.V_nil _ _ _ _ _ | exact Kd.Q_nil _ _ _ _ _ | exact Kd.S_nil _ _ _ _ _, by repeat (first | (with_reducible first | exact HB.out | apply below_alloc | apply pw_below_drewN | apply below_drew1 | refine below_set ?_ GE151.out | refine below_set ?_ GE152.out) | exact HB.out)⟩

end Go.Proofs.YtdmbboijcaelcaaDoor.Q
