/- Plain facts: both parses of a list of numbers find the list whose text it is. No program is walked here. -/
import Derived.Test.YtdmbboijcaelcaaDoorPnE
namespace Go.Proofs.YtdmbboijcaelcaaDoor.Q
open Go.RowKit Go.Proofs.YtdmbboijcaelcaaDoorW.PrintWords Go.Proofs.YtdmbboijcaelcaaDoorW.PrintLast
set_option linter.unusedVariables false
set_option linter.unusedSimpArgs false
/-- L is what the text l spells. -/
def Spells (L : List Int) (l : List UInt8) : Prop := L ≠ [] ∧ L.length ≤ 40 ∧ (∀ n ∈ L, okNum n = true) ∧ Lib.join (L.map Lib.itoa) [44, 32] = l
theorem itoa_digits {n : Int} (h : okNum n = true) {b : UInt8} (hb : b ∈ Lib.itoa n) : 48 ≤ b.toNat ∧ b.toNat ≤ 57 := by
  have hn := (okNum_iff n).1 h
  unfold Lib.itoa at hb
  rw [if_neg (by omega)] at hb
  exact decDigits_digit _ b hb
theorem itoa_no {n : Int} (h : okNum n = true) : (44 : UInt8) ∉ Lib.itoa n := fun hm => by
  have := itoa_digits h hm
  simp at this
theorem readL_num {n : Int} (h : okNum n = true) : readL (Lib.itoa n) = (n, true) := by
  have hn := (okNum_iff n).1 h
  exact readL_itoa n (by omega) hn.2
theorem tail_len (l : List Int) (h : ∀ n ∈ l, okNum n = true) : (Lib.joinTail [44, 32] (l.map Lib.itoa)).length ≤ 9 * l.length := by
  induction l with
  | nil => simp [Lib.joinTail]
  | cons y ys ih =>
    have h1 := ih (fun n hn => h n (by simp [hn]))
    have hr := (okNum_iff _).1 (h y (by simp))
    have h7 := itoa_len7 y (by omega) hr.2
    rw [List.map_cons, tail_snoc]
    simp only [List.length_append, List.length_cons, List.length_nil]
    omega
theorem spells_parts {L : List Int} {l : List UInt8} (h : Spells L l) : ∃ n r, L = n :: r ∧ l = Lib.itoa n ++ Lib.joinTail [44, 32] (r.map Lib.itoa) ∧ okNum n = true ∧ (∀ x ∈ r, okNum x = true) ∧ r.length ≤ 39 := by
  obtain ⟨h1, h2, h3, h4⟩ := h
  cases L with
  | nil => exact absurd rfl h1
  | cons n r =>
    rw [List.map_cons, Lib.join_cons] at h4
    exact ⟨n, r, rfl, h4.symm, h3 n (by simp), fun x hx => h3 x (by simp [hx]), by simp only [List.length_cons] at h2; omega⟩
theorem spl_text (r : List Int) (hr : ∀ x ∈ r, okNum x = true) : ∀ p : List UInt8, 44 ∉ p → spl 44 (p ++ Lib.joinTail [44, 32] (r.map Lib.itoa)) = p :: r.map (fun n => 32 :: Lib.itoa n) := by
  induction r with
  | nil =>
    intro p hp
    simp only [List.map_nil, Lib.joinTail, List.flatten_nil, List.append_nil]
    exact spl_not 44 p hp
  | cons n r ih =>
    intro p hp
    rw [List.map_cons, tail_snoc]
    have e : p ++ ([44, 32] ++ Lib.itoa n ++ Lib.joinTail [44, 32] (r.map Lib.itoa)) = p ++ 44 :: ((32 :: Lib.itoa n) ++ Lib.joinTail [44, 32] (r.map Lib.itoa)) := by simp
    have h32 : (44 : UInt8) ∉ (32 :: Lib.itoa n) := by
      intro hm
      rcases List.mem_cons.1 hm with h | h
      · exact absurd h (by decide)
      · exact itoa_no (hr n (by simp)) h
    rw [e, spl_cat 44 _ p hp, ih (fun x hx => hr x (by simp [hx])) _ h32, List.map_cons]
theorem rest_text (r : List Int) (hr : ∀ x ∈ r, okNum x = true) : restP (r.map (fun n => 32 :: Lib.itoa n)) = some r := by
  induction r with
  | nil => rfl
  | cons n r ih =>
    rw [List.map_cons, restP, ih (fun x hx => hr x (by simp [hx]))]
    simp only [rdP, if_true, rd0, readL_num (hr n (by simp))]
    rfl
theorem fin_ok {L : List Int} (h1 : L.length ≤ 40) (h2 : ∀ n ∈ L, okNum n = true) : finN L = (L, true) := by
  unfold finN
  exact if_pos (by rw [decide_eq_true h1, Bool.true_and]; exact List.all_eq_true.2 h2)
theorem spec_hit {L : List Int} {l : List UInt8} (h : Spells L l) : pnS l = (L, true) := by
  obtain ⟨n, r, rfl, rfl, hn, hr, hl⟩ := spells_parts h
  unfold pnS
  rw [spl_text r hr _ (itoa_no hn)]
  simp only [rd0, readL_num hn, if_true, rest_text r hr, overP]
  exact fin_ok h.2.1 h.2.2.1
theorem rd0_some {p : List UInt8} {n : Int} (h : rd0 p = some n) : p = Lib.itoa n := by
  unfold rd0 at h
  rcases readL_cases p with ⟨m, _, _, h3, h4⟩ | ⟨h4, _⟩
  · rw [h4] at h
    simp only [if_true, Option.some.injEq] at h
    rw [← h3, h]
  · rw [h4] at h
    simp at h
theorem rest_some : ∀ (r : List (List UInt8)) (t : List Int), restP r = some t → r = t.map (fun n => 32 :: Lib.itoa n)
  | [], t, h => by
    simp only [restP, Option.some.injEq] at h
    subst h
    rfl
  | p :: r, t, h => by
    rw [restP] at h
    cases hp : rdP p with
    | none => rw [hp] at h; cases h
    | some n =>
      rw [hp] at h
      simp only [Option.map_eq_some_iff] at h
      obtain ⟨t', ht', rfl⟩ := h
      have h2 := rest_some r t' ht'
      cases p with
      | nil => cases hp
      | cons b q =>
        simp only [rdP] at hp
        split at hp
        · rename_i hb
          subst hb
          rw [List.map_cons, ← h2, rd0_some hp]
        · cases hp
theorem joins (t : List Int) : Lib.joinTail [44] (t.map (fun n => 32 :: Lib.itoa n)) = Lib.joinTail [44, 32] (t.map Lib.itoa) := by
  induction t with
  | nil => rfl
  | cons n t ih =>
    rw [List.map_cons, List.map_cons, tail_snoc, tail_snoc, ih]
    simp
theorem spec_miss {l : List UInt8} (h : ∀ L, ¬ Spells L l) : pnS l = ([], false) := by
  have hj := spl_join 44 l
  unfold pnS
  cases hs : spl 44 l with
  | nil => rfl
  | cons p r =>
    rw [hs] at hj
    simp only
    cases hp : rd0 p with
    | none => rfl
    | some n =>
      simp only
      cases hr : restP r with
      | none => rfl
      | some t =>
        simp only [overP]
        unfold finN
        split
        · rename_i hb
          rw [Bool.and_eq_true] at hb
          exfalso
          refine h ([n] ++ t) ⟨by simp, of_decide_eq_true hb.1, List.all_eq_true.1 hb.2, ?_⟩
          rw [← hj, Lib.join_cons, rest_some r t hr, joins, rd0_some hp]
          show Lib.join ((n :: t).map Lib.itoa) [44, 32] = _
          rw [List.map_cons, Lib.join_cons]
        · rfl
theorem cut_text {L : List Int} {s : ByteArray} (h : Spells L s.data.toList) : cutB s commaB = L.map tx := by
  have h1 : (cutB s commaB).map (·.data.toList) = L.map Lib.itoa := by
    unfold cutB commaB
    rw [splitB_two, ← h.2.2.2]
    cases L with
    | nil => exact absurd rfl h.1
    | cons n r =>
      rw [List.map_cons]
      refine split_two_join _ _ (fun y hy => ?_)
      rw [← List.map_cons] at hy
      obtain ⟨m, hm, rfl⟩ := List.mem_map.1 hy
      exact itoa_no (h.2.2.1 m hm)
  have h2 : (cutB s commaB).map (fun x => (⟨x.data.toList.toArray⟩ : ByteArray)) = L.map tx := by
    have := congrArg (List.map (fun x : List UInt8 => (⟨x.toArray⟩ : ByteArray))) h1
    rw [List.map_map, List.map_map] at this
    exact this
  rw [← h2]
  conv => lhs; rw [← List.map_id (cutB s commaB)]
  exact List.map_congr_left (fun x _ => ba_of x _ rfl)
theorem text_le {L : List Int} {l : List UInt8} (h : Spells L l) : l.length ≤ 4000 := by
  obtain ⟨n, r, rfl, rfl, hn, hr, hl⟩ := spells_parts h
  have h1 := tail_len r hr
  have h2 := (okNum_iff n).1 hn
  have h3 := itoa_len7 n (by omega) h2.2
  rw [List.length_append]
  omega
theorem text_not_none {L : List Int} {l : List UInt8} (h : Spells L l) : l ≠ [110, 111, 110, 101] := by
  obtain ⟨n, r, rfl, rfl, hn, hr, hl⟩ := spells_parts h
  intro e
  cases hi : Lib.itoa n with
  | nil =>
    unfold Lib.itoa at hi
    have h2 := (okNum_iff n).1 hn
    rw [if_neg (by omega)] at hi
    exact decDigits_ne _ hi
  | cons b q =>
    rw [hi, List.cons_append] at e
    injection e with e1 _
    have := itoa_digits hn (b := b) (by rw [hi]; simp)
    subst e1
    simp at this
theorem nums_ok {L : List Int} (h0 : L ≠ []) (h1 : L.length ≤ 40) (h2 : ∀ n ∈ L, okNum n = true) : numsI L = (joinN L ⟨#[44, 32]⟩, true) := by
  unfold numsI
  rw [if_neg (by omega), any_not_ok, List.all_eq_true.2 h2, if_neg (by simp), if_neg (fun e => h0 (List.length_eq_zero_iff.1 e))]
theorem impl_hit {L : List Int} {s : ByteArray} (h : Spells L s.data.toList) : pnI s = (L, true) := by
  have hl : s.data.toList.length = s.size := by simp
  have h1 := text_le h
  have h2 := text_not_none h
  have h3 := cut_text h
  have hm : (L.map tx).map (fun x => (rdB x).1) = L := by
    rw [List.map_map]
    conv => rhs; rw [← List.map_id L]
    exact List.map_congr_left (fun n hn => by show (readL (Lib.itoa n)).1 = n; rw [readL_num (h.2.2.1 n hn)])
  have ha : (L.map tx).all (fun x => (rdB x).2) = true := List.all_eq_true.2 (fun x hx => by
    obtain ⟨n, hn, rfl⟩ := List.mem_map.1 hx
    show (readL (Lib.itoa n)).2 = true
    rw [readL_num (h.2.2.1 n hn)])
  unfold pnI
  rw [if_neg (by omega), if_neg (by rw [Lib.toList_data]; exact h2), h3, ha, if_pos rfl, hm, nums_ok h.1 h.2.1 h.2.2.1, if_pos rfl, if_pos]
  rw [Lib.toList_data, Lib.toList_data]
  exact h.2.2.2
theorem impl_miss {s : ByteArray} (hn : s.toList ≠ ([110, 111, 110, 101] : List UInt8)) (h : ∀ L, ¬ Spells L s.data.toList) : pnI s = ([], false) := by
  unfold pnI
  split
  · rfl
  · have hlen := cutB_length s commaB (by decide)
    split
    · have hne : (cutB s commaB).map (fun x => (rdB x).1) ≠ [] := fun e => by
        have := congrArg List.length e
        rw [List.length_map, hlen] at this
        simp at this
      generalize (cutB s commaB).map (fun x => (rdB x).1) = out at hne
      by_cases h40 : 40 < out.length
      · have e : numsI out = (⟨#[]⟩, false) := if_pos h40
        rw [e]
        rfl
      · by_cases ha : out.all okNum = true
        · rw [nums_ok hne (by omega) (List.all_eq_true.1 ha), if_pos rfl]
          refine if_neg (fun e => h out ⟨hne, by omega, List.all_eq_true.1 ha, ?_⟩)
          rw [Lib.toList_data, Lib.toList_data] at e
          exact e
        · have e : numsI out = (⟨#[]⟩, false) := by
            unfold numsI
            rw [if_neg h40, any_not_ok, if_pos (by simp [Bool.not_eq_true] at ha ⊢; exact ha)]
          rw [e]
          rfl
    · rfl
theorem parsenums_ev (s : ByteArray) (hs : s.size ≤ 1048576) : ∃ k, spec_ParseNumbers.f k s = some (pnI s) := by
  refine Ev.rounds ?_
  unfold spec_ParseNumbers.f
  by_cases h4 : 4000 < s.size
  · simp only [show (s.size : Int) > 4000 by omega, if_true]
    have e : pnI s = ([], false) := if_pos h4
    rw [e]
    exact Ev.now _
  · simp only [show ¬ (s.size : Int) > 4000 by omega, if_false]
    have key : (if s.toList = ([110, 111, 110, 101] : List UInt8) then ([], true) else pnS s.data.toList) = pnI s := by
      by_cases hn : s.toList = ([110, 111, 110, 101] : List UInt8)
      · rw [if_pos hn]
        unfold pnI
        rw [if_neg h4, if_pos hn]
      · rw [if_neg hn]
        by_cases h : ∃ L, Spells L s.data.toList
        · obtain ⟨L, hL⟩ := h
          rw [spec_hit hL, impl_hit hL]
        · have h' : ∀ L, ¬ Spells L s.data.toList := fun L hL => h ⟨L, hL⟩
          rw [spec_miss h', impl_miss hn h']
    have h2 := readlist_ev s (by omega)
    rw [key] at h2
    refine Ev.bind h2 ?_
    exact Ev.now _
theorem piece_le (sep : ByteArray) : ∀ (k : Nat) (s : ByteArray) (x : ByteArray), x ∈ Lib.splitB sep 0 k s → x.size ≤ s.size
  | 0, s, x, h => by
    simp only [Lib.splitB, List.mem_singleton] at h
    rw [h]
    exact Nat.le_refl _
  | k + 1, s, x, h => by
    unfold Lib.splitB at h
    split at h
    · rw [List.mem_singleton.1 h]
      exact Nat.le_refl _
    · rcases List.mem_cons.1 h with h | h
      · rw [h, ByteArray.size_extract]; omega
      · have := piece_le sep k _ x h
        rw [ByteArray.size_extract] at this
        omega
end Go.Proofs.YtdmbboijcaelcaaDoor.Q
