/- Plain facts: a text cut at a byte, or at a comma and a space. No program is walked here. -/
import Derived.Lib.SplitLaws
import Derived.Lib.Join
namespace Go.Proofs.YtdmbboijcaelcaaDoor.Q
open Go.Lib
set_option linter.unusedVariables false
set_option linter.unusedSimpArgs false
/-- The first piece gets p ahead. -/
def pre (p : List UInt8) : List (List UInt8) → List (List UInt8)
  | [] => [p]
  | h :: t => (p ++ h) :: t
/-- The pieces between the bytes c. -/
def spl (c : UInt8) : List UInt8 → List (List UInt8)
  | [] => [[]]
  | b :: r => if b = c then [] :: spl c r else pre [b] (spl c r)
theorem pre_ne (p : List UInt8) (l : List (List UInt8)) : pre p l ≠ [] := by cases l <;> simp [pre]
theorem spl_ne (c : UInt8) (l : List UInt8) : spl c l ≠ [] := by
  cases l with
  | nil => simp [spl]
  | cons b r =>
    unfold spl
    split
    · simp
    · exact pre_ne _ _
theorem pre_pre (p q : List UInt8) (l : List (List UInt8)) : pre p (pre q l) = pre (p ++ q) l := by cases l <;> simp [pre]
theorem pre_nil {l : List (List UInt8)} (h : l ≠ []) : pre [] l = l := by
  cases l with
  | nil => exact absurd rfl h
  | cons a t => rfl
theorem pre_length (p : List UInt8) {l : List (List UInt8)} (h : l ≠ []) : (pre p l).length = l.length := by
  cases l with
  | nil => exact absurd rfl h
  | cons a t => rfl
theorem spl_length_le (c : UInt8) : ∀ l, (spl c l).length ≤ l.length + 1
  | [] => by simp [spl]
  | b :: r => by
    have := spl_length_le c r
    unfold spl
    split
    · simp only [List.length_cons]; omega
    · rw [pre_length _ (spl_ne c r)]; simp only [List.length_cons]; omega
theorem index_cons_ne (b c : UInt8) (r : List UInt8) (h : b ≠ c) : index (b :: r) [c] = if index r [c] == -1 then -1 else index r [c] + 1 := by
  have hp : ([c] : List UInt8).isPrefixOf (b :: r) = false := by simp [List.isPrefixOf, Ne.symm h]
  rw [index, hp]
  simp
theorem splitK_one (c : UInt8) : ∀ l : List UInt8, splitK [c] 0 (count l [c]) l = spl c l
  | [] => by
    rw [count_miss (by simp [index])]
    rfl
  | b :: r => by
    have ih := splitK_one c r
    by_cases h : b = c
    · subst h
      have hix : index (b :: r) [b] = ((0 : Nat) : Int) := by rw [index]; simp [List.isPrefixOf]
      rw [count_cons_eq, Nat.add_comm, splitK, if_neg (by rw [hix]; decide), hix, spl, if_pos rfl, ← ih]
      rfl
    · rw [count_cons_ne b c r h, spl, if_neg h, ← ih]
      have hge := index_ge r [c]
      by_cases hm : index r [c] = -1
      · rw [count_miss hm]
        rfl
      · obtain ⟨j, hj⟩ : ∃ j : Nat, index r [c] = j := ⟨(index r [c]).toNat, by omega⟩
        have hix' : index (b :: r) [c] = ((j + 1 : Nat) : Int) := by rw [index_cons_ne b c r h, if_neg (fun e => hm (beq_iff_eq.1 e)), hj]; omega
        have hk := count_hit (s := r) (sub := [c]) (by simp) hj
        rw [hk, Nat.add_comm, splitK, if_neg (by rw [hix']; simp; omega), splitK, if_neg (by rw [hj]; simp), hix', hj]
        simp [pre]
theorem splitB_one (c : UInt8) (s : ByteArray) : (splitB ⟨#[c]⟩ 0 (countB s ⟨#[c]⟩) s).map (·.data.toList) = spl c s.data.toList := by
  rw [splitB_data]
  exact splitK_one c _
theorem spl_not (c : UInt8) : ∀ l : List UInt8, c ∉ l → spl c l = [l]
  | [], _ => rfl
  | b :: r, h => by
    have h1 : b ≠ c := fun e => h (by simp [e])
    have h2 : c ∉ r := fun e => h (by simp [e])
    rw [spl, if_neg h1, spl_not c r h2]
    rfl
theorem spl_cat (c : UInt8) (r : List UInt8) : ∀ l : List UInt8, c ∉ l → spl c (l ++ c :: r) = l :: spl c r
  | [], _ => by rw [List.nil_append, spl, if_pos rfl]
  | b :: q, h => by
    have h1 : b ≠ c := fun e => h (by simp [e])
    have h2 : c ∉ q := fun e => h (by simp [e])
    rw [List.cons_append, spl, if_neg h1, spl_cat c r q h2]
    rfl
/-- Pieces and joints. -/
theorem spl_join (c : UInt8) : ∀ l : List UInt8, join (spl c l) [c] = l
  | [] => by rw [spl, join_one]
  | b :: r => by
    have ih := spl_join c r
    have hn := spl_ne c r
    unfold spl
    cases hs : spl c r with
    | nil => exact absurd hs hn
    | cons a t =>
      rw [hs, join_cons] at ih
      split
      · rename_i h
        subst h
        rw [join_cons, joinTail, List.map_cons, List.flatten_cons]
        show [] ++ ([b] ++ a ++ joinTail [b] t) = _
        rw [List.nil_append, List.append_assoc, ih]
        rfl
      · rw [pre, join_cons, List.append_assoc, ih]
        rfl
/-- No piece holds the byte. -/
theorem spl_free (c : UInt8) : ∀ (l : List UInt8) (p : List UInt8), p ∈ spl c l → c ∉ p
  | [], p, h => by
    simp only [spl, List.mem_singleton] at h
    subst h
    simp
  | b :: r, p, h => by
    have ih := spl_free c r
    have hn := spl_ne c r
    unfold spl at h
    cases hs : spl c r with
    | nil => exact absurd hs hn
    | cons a t =>
      rw [hs] at h ih
      split at h
      · rcases List.mem_cons.1 h with h | h
        · subst h; simp
        · exact ih p h
      · rename_i hb
        rw [pre] at h
        rcases List.mem_cons.1 h with h | h
        · subst h
          simp only [List.singleton_append, List.mem_cons, not_or]
          exact ⟨fun e => hb e.symm, ih a (by simp)⟩
        · exact ih p (by simp [h])
/-! ### at a comma and a space -/
theorem index_two_not : ∀ l : List UInt8, 44 ∉ l → index l [44, 32] = -1
  | [], _ => by simp [index]
  | b :: r, h => by
    have h1 : b ≠ 44 := fun e => h (by simp [e])
    have h2 : 44 ∉ r := fun e => h (by simp [e])
    have hp : ([44, 32] : List UInt8).isPrefixOf (b :: r) = false := by simp [List.isPrefixOf, Ne.symm h1]
    rw [index, hp, index_two_not r h2]
    simp
theorem index_two_cat (r : List UInt8) : ∀ l : List UInt8, 44 ∉ l → index (l ++ 44 :: 32 :: r) [44, 32] = (l.length : Int)
  | [], _ => by
    rw [List.nil_append, index]
    simp [List.isPrefixOf]
  | b :: q, h => by
    have h1 : b ≠ 44 := fun e => h (by simp [e])
    have h2 : 44 ∉ q := fun e => h (by simp [e])
    have hp : ([44, 32] : List UInt8).isPrefixOf (b :: (q ++ 44 :: 32 :: r)) = false := by simp [List.isPrefixOf, Ne.symm h1]
    rw [List.cons_append, index, hp, index_two_cat r q h2]
    have hz : (((q.length : Nat) : Int) == -1) = false := by simp
    rw [hz]
    simp
theorem split_two_not (l : List UInt8) (h : 44 ∉ l) : splitK [44, 32] 0 (count l [44, 32]) l = [l] := by
  rw [count_miss (index_two_not l h)]
  rfl
theorem split_two_cat (l r : List UInt8) (h : 44 ∉ l) : splitK [44, 32] 0 (count (l ++ 44 :: 32 :: r) [44, 32]) (l ++ 44 :: 32 :: r) = l :: splitK [44, 32] 0 (count r [44, 32]) r := by
  have hix := index_two_cat r l h
  have hd : (l ++ 44 :: 32 :: r).drop (l.length + 2) = r := by
    rw [← List.drop_drop, List.drop_append_of_le_length (Nat.le_refl _)]
    simp
  rw [count_hit (by simp) hix, Nat.add_comm, splitK, if_neg (by rw [hix]; simp), hix]
  simp only [Int.toNat_natCast, Nat.add_zero, List.length_cons, List.length_nil]
  rw [hd]
  simp
theorem split_two_join : ∀ (x : List UInt8) (xs : List (List UInt8)), (∀ y ∈ x :: xs, 44 ∉ y) → splitK [44, 32] 0 (count (join (x :: xs) [44, 32]) [44, 32]) (join (x :: xs) [44, 32]) = x :: xs
  | x, [], h => by
    rw [join_one]
    exact split_two_not x (h x (by simp))
  | x, y :: ys, h => by
    have e : join (x :: y :: ys) [44, 32] = x ++ 44 :: 32 :: join (y :: ys) [44, 32] := by
      rw [join_cons, join_cons, joinTail, List.map_cons, List.flatten_cons]
      show x ++ (([44, 32] ++ y) ++ joinTail [44, 32] ys) = _
      simp
    rw [e, split_two_cat x _ (h x (by simp)), split_two_join y ys (fun z hz => h z (List.mem_cons_of_mem _ hz))]
theorem splitB_two (s : ByteArray) : (splitB ⟨#[44, 32]⟩ 0 (countB s ⟨#[44, 32]⟩) s).map (·.data.toList) = splitK [44, 32] 0 (count s.data.toList [44, 32]) s.data.toList := splitB_data _ _ _ _
end Go.Proofs.YtdmbboijcaelcaaDoor.Q
