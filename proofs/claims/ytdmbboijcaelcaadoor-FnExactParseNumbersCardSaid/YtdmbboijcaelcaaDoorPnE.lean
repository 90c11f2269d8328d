/- Plain facts: the reference parses a list of numbers as the program does. No program is walked here. -/
import Derived.Test.YtdmbboijcaelcaaDoorPn
import Derived.Test.YtdmbboijcaelcaaDoorIntE
import Derived.Test.YtdmbboijcaelcaaDoorSplE
import Derived.Test.YtdmbboijcaelcaaDoorQF31
namespace Go.Proofs.YtdmbboijcaelcaaDoor.Q
open Go.RowKit Go.Proofs.YtdmbboijcaelcaaDoorW.PrintWords Go.Proofs.YtdmbboijcaelcaaDoorW.PrintLast
set_option linter.unusedVariables false
set_option linter.unusedSimpArgs false
def rd0 (p : List UInt8) : Option Int := if (readL p).2 = true then some (readL p).1 else none
def rdP : List UInt8 → Option Int
  | [] => none
  | b :: r => if b = 32 then rd0 r else none
def restP : List (List UInt8) → Option (List Int)
  | [] => some []
  | p :: r => match rdP p with
    | none => none
    | some n => (restP r).map (n :: ·)
def finN (o : List Int) : List Int × Bool := if (decide (o.length ≤ 40) && o.all okNum) = true then (o, true) else ([], false)
def overP (out : List Int) : Option (List Int) → List Int × Bool
  | none => ([], false)
  | some l => finN (out ++ l)
theorem rdOf_toB (ps : List (List UInt8)) (i : Nat) (h : i < ps.length) : rdOf ByteArray.empty (toB ps) (i : Int) = ⟨(ps[i]).toArray⟩ := by
  have h2 : i < (toB ps).length := by rw [toB_length]; exact h
  simp [rdOf, h2, toB, h]
theorem mk_toList (p : List UInt8) : (⟨p.toArray⟩ : ByteArray).toList = p := by rw [Lib.toList_data]
theorem loop_ev (ps : List (List UInt8)) (hp : ∀ p ∈ ps, p.length ≤ 1048576) (hl : ps.length ≤ 100000) : ∀ d i (out : List Int), ps.length - i = d → 1 ≤ i → i ≤ ps.length → out.length ≤ i →
    Ev (fun k => spec_l3ReadList.l0 k out (toB ps) (i : Int)) (overP out (restP (ps.drop i))) := by
  intro d
  induction d with
  | zero =>
    intro i out hd h1 hi ho
    obtain rfl : i = ps.length := by omega
    refine Ev.step (fun q => by rw [spec_l3ReadList.l0]) ?_
    rw [List.drop_length, restP]
    simp only [toB_length, Int.lt_irrefl, if_false, overP, List.append_nil]
    refine Ev.bind (numbers_ev out (by omega)) ?_
    unfold finN
    cases hb : (decide (out.length ≤ 40) && out.all okNum) with
    | true => simp only [if_true]; exact Ev.now _
    | false => simp only [Bool.false_eq_true, if_false]; exact Ev.now _
  | succ d ih =>
    intro i out hd h1 hi ho
    have hlt : i < ps.length := by omega
    have a3 : (i : Int) < (ps.length : Int) := by omega
    have a4 : (0 : Int) ≤ (i : Int) := by omega
    have a5 : (i : Int) > 0 := by omega
    have hps := hp ps[i] (List.getElem_mem hlt)
    have hd2 : ps.drop i = ps[i] :: ps.drop (i + 1) := List.drop_eq_getElem_cons hlt
    refine Ev.step (fun q => by rw [spec_l3ReadList.l0]) ?_
    simp only [toB_length, a3, a4, a5, if_true, rdOf_toB ps i hlt, mk_toList]
    rw [hd2, restP]
    generalize ps[i] = p at hps
    cases p with
    | nil =>
      simp only [if_true, rdP, overP]
      refine Ev.step (fun q => by rw [spec_l3ReadList.j1]) ?_
      simp only [if_true]
      exact Ev.now _
    | cons b r =>
      have hsz : (⟨(b :: r).toArray⟩ : ByteArray).size = r.length + 1 := by rw [ba_size, List.length_cons]
      have hb0 : bt ⟨(b :: r).toArray⟩ 0 = (b.toNat : Int) := by
        have := bt_nat ⟨(b :: r).toArray⟩ 0 (by omega)
        rw [show ((0 : Nat) : Int) = 0 from rfl] at this
        rw [this]
        rfl
      have hex : (⟨(b :: r).toArray⟩ : ByteArray).extract 1 (⟨(b :: r).toArray⟩ : ByteArray).size = ⟨r.toArray⟩ := by
        rw [cut_end]
        rfl
      simp only [show ¬ (b :: r = ([] : List UInt8)) by simp, if_false, hsz, show (0 : Int) < ((r.length + 1 : Nat) : Int) by omega, if_true, hb0]
      refine Ev.step (fun q => by rw [spec_l3ReadList.j1]) ?_
      by_cases h32 : b = 32
      · subst h32
        have e32 : (((32 : UInt8).toNat : Int) != 32) = false := rfl
        rw [hsz] at hex
        simp only [e32, Bool.false_eq_true, if_false, hsz, show (1 : Int) ≤ ((r.length + 1 : Nat) : Int) by omega, if_true, hex, rdP, rd0]
        have hre := read_ev ⟨r.toArray⟩ (by rw [ba_size]; simp only [List.length_cons] at hps; omega)
        refine Ev.bind hre ?_
        show Ev (fun n => if (readL r).2 = true then _ else _) _
        cases hk : (readL r).2 with
        | true =>
          simp only [if_true, show out.length < 17592186044416 by omega, wn64 i (by omega)]
          have h2 := ih (i + 1) (out ++ [(readL r).1]) (by omega) (by omega) (by omega) (by rw [List.length_append, List.length_singleton]; omega)
          have h3 : overP (out ++ [(readL r).1]) (restP (ps.drop (i + 1))) = overP out (Option.map (fun x => (readL r).1 :: x) (restP (ps.drop (i + 1)))) := by
            cases restP (ps.drop (i + 1)) with
            | none => rfl
            | some l => simp [overP]
          rw [h3] at h2
          exact h2
        | false =>
          simp only [Bool.false_eq_true, if_false, overP]
          exact Ev.now _
      · have e32 : ((b.toNat : Int) != 32) = true := by
          refine bne_iff_ne.2 (fun e => h32 ?_)
          apply UInt8.toNat_inj.1
          show b.toNat = 32
          omega
        simp only [e32, if_true, rdP, h32, if_false, overP]
        exact Ev.now _
/-- What the reference parses. -/
def pnS (l : List UInt8) : List Int × Bool := match spl 44 l with
  | [] => ([], false)
  | p :: r => match rd0 p with
    | none => ([], false)
    | some n => overP [n] (restP r)
theorem spl_piece_le (c : UInt8) : ∀ (l : List UInt8) (p : List UInt8), p ∈ spl c l → p.length ≤ l.length
  | [], p, h => by
    simp only [spl, List.mem_singleton] at h
    subst h
    simp
  | b :: r, p, h => by
    have ih := spl_piece_le c r
    have hn := spl_ne c r
    unfold spl at h
    cases hs : spl c r with
    | nil => exact absurd hs hn
    | cons a t =>
      rw [hs] at h ih
      split at h
      · rcases List.mem_cons.1 h with h | h
        · subst h; simp
        · have := ih p h; simp only [List.length_cons]; omega
      · rw [pre] at h
        rcases List.mem_cons.1 h with h | h
        · subst h
          have := ih a (by simp)
          simp only [List.singleton_append, List.length_cons]
          omega
        · have := ih p (by simp [h]); simp only [List.length_cons]; omega
theorem readlist_ev (s : ByteArray) (hs : s.size ≤ 4000) : Ev (fun k => spec_l3ReadList.f k s) (if s.toList = ([110, 111, 110, 101] : List UInt8) then ([], true) else pnS s.data.toList) := by
  have hl : s.data.toList.length = s.size := by simp
  unfold spec_l3ReadList.f
  simp only [Option.bind_some]
  by_cases hn : s.toList = ([110, 111, 110, 101] : List UInt8)
  · simp only [hn, if_true]
    exact Ev.now _
  · simp only [hn, if_false]
    have hsp := split_ev s 44 (by omega)
    rw [show ((44 : UInt8).toNat : Int) = 44 from rfl] at hsp
    refine Ev.bind hsp ?_
    have hle := spl_length_le 44 s.data.toList
    have hpc := spl_piece_le 44 s.data.toList
    have hne := spl_ne 44 s.data.toList
    unfold pnS
    generalize spl 44 s.data.toList = ps at hle hpc hne
    cases ps with
    | nil => exact absurd rfl hne
    | cons p r =>
      have hps := hpc p (by simp)
      have a3 : (0 : Int) < ((toB (p :: r)).length : Int) := by rw [toB_length, List.length_cons]; omega
      have hr0 : rdOf ByteArray.empty (toB (p :: r)) 0 = ⟨p.toArray⟩ := rfl
      refine Ev.step (fun q => by rw [spec_l3ReadList.l0]) ?_
      simp only [a3, if_true, Int.le_refl, show ¬ (0 : Int) > 0 by omega, if_false, hr0]
      have hre := read_ev ⟨p.toArray⟩ (by rw [ba_size]; omega)
      refine Ev.bind hre ?_
      show Ev (fun n => if (readL p).2 = true then _ else _) _
      unfold rd0
      cases hk : (readL p).2 with
      | true =>
        simp only [if_true, List.length_nil, show 0 < 17592186044416 by omega, List.nil_append]
        have h2 := loop_ev (p :: r) (fun q hq => by have := hpc q hq; omega) (by omega) r.length 1 [(readL p).1] (by simp) (Nat.le_refl _) (by simp) (by simp)
        rw [show wrap64 (0 + 1) = ((1 : Nat) : Int) from by unfold wrap64; omega]
        exact h2
      | false =>
        simp only [Bool.false_eq_true, if_false]
        exact Ev.now _
end Go.Proofs.YtdmbboijcaelcaaDoor.Q
