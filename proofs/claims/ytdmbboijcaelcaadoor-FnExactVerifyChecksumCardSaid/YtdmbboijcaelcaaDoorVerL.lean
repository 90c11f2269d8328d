/- VerifyChecksum: the reference answers as the program does; the law walked. -/
import Derived.Test.YtdmbboijcaelcaaDoorVer
import Derived.Test.YtdmbboijcaelcaaDoorSplE
import Derived.Test.YtdmbboijcaelcaaDoorRead
import Derived.Test.YtdmbboijcaelcaaDoorQF27
namespace Go.Proofs.YtdmbboijcaelcaaDoor.Q
open Go.RowKit Go.Proofs.YtdmbboijcaelcaaDoorW.PrintWords Go.Proofs.YtdmbboijcaelcaaDoorW.PrintLast
set_option linter.unusedVariables false
set_option linter.unusedSimpArgs false
theorem toList_inj {a b : ByteArray} (h : a.toList = b.toList) : a = b := by
  rw [Lib.toList_data, Lib.toList_data] at h
  apply ByteArray.ext
  exact Array.toList_inj.1 h
theorem seal_size (s : ByteArray) (c : Int) : (sealB s c).size = s.size + 1 + (Lib.itoa c).length := by
  unfold sealB
  rw [ByteArray.size_append, ByteArray.size_append, ba_size]
  rfl
theorem itoa_len (c : Int) (h0 : 0 ≤ c) (h1 : c ≤ 999979) : (Lib.itoa c).length ≤ 1048576 := by
  have := itoa_len7 c (by omega) (by omega)
  omega
theorem verify_both (s : ByteArray) (hs : s.size ≤ 1048576) : ∃ t c k2 kc, t = s.extract 0 (Lib.indexByte s.data.toList 35).toNat ∧ Lib.indexByte s.data.toList 35 ≤ (s.size : Int) ∧ t.size ≤ 1048576 ∧ impl_checksum.f kc t = some c ∧ 0 ≤ c ∧ c ≤ 999979 ∧ (Lib.itoa c).length ≤ 1048576 ∧ spec_VerifyChecksum.f k2 s = some (verI s t c) := by
  have hl : s.data.toList.length = s.size := by simp
  obtain ⟨t, ht⟩ : ∃ t, t = s.extract 0 (Lib.indexByte s.data.toList 35).toNat := ⟨_, rfl⟩
  have hts : t.size ≤ s.size := by rw [ht, ByteArray.size_extract]; omega
  obtain ⟨c, c0, c1, e1, e2⟩ := sum_both t (by omega) t.size 0 7 (by omega) (by omega) (by omega) (by omega)
  obtain ⟨kc, hkc⟩ := Ev.rounds e2
  have hle := itoa_len c c0 c1
  have key : Lib.indexByte s.data.toList 35 ≤ (s.size : Int) ∧ Ev (fun k => spec_VerifyChecksum.f k s) (verI s t c) := by
    have hsp := split_ev s 35 hs
    have h35 : ((35 : UInt8).toNat : Int) = 35 := rfl
    rw [h35] at hsp
    rcases spl_head 35 s.data.toList with ⟨hix, hh⟩ | ⟨i, hix, hi, hn, hh⟩
    · refine ⟨by omega, ?_⟩
      unfold spec_VerifyChecksum.f verI
      rw [if_pos (show Lib.indexByte s.data.toList 35 < 0 by omega)]
      by_cases h4 : 4000 < s.size
      · simp only [show (s.size : Int) > 4000 by omega, if_true]
        exact Ev.now _
      · simp only [show ¬ (s.size : Int) > 4000 by omega, if_false]
        refine Ev.bind hsp ?_
        obtain ⟨c', c0', c1', e1', _⟩ := sum_both s hs s.size 0 7 (by omega) (by omega) (by omega) (by omega)
        have hr : rdOf ByteArray.empty (toB (spl 35 s.data.toList)) 0 = s := by
          rw [hh, toB_cons, ← ba_of s _ rfl]
          rfl
        simp only [toB_length, hh, List.length_singleton, show (0 : Int) < ((1 : Nat) : Int) by omega, if_true]
        rw [← hh, hr]
        refine Ev.bind (seal_ev s hs c' e1' c0' c1' (itoa_len c' c0' c1')) ?_
        have hne : ¬ (sealB s c').toList = s.toList := fun e => by
          have := congrArg ByteArray.size (toList_inj e)
          rw [seal_size] at this
          omega
        simp only [hne, if_false]
        exact Ev.now _
    · refine ⟨by omega, ?_⟩
      have htl : t.data.toList = s.data.toList.take i := by
        rw [ht, hix, ← Lib.toList_data, Lib.extract_toList]
        simp
      have hhas : hasB t = false := by
        unfold hasB
        refine decide_eq_false (fun h => ?_)
        rw [htl] at h
        obtain ⟨j, hj⟩ : ∃ j : Nat, Lib.indexByte (s.data.toList.take i) 35 = j := ⟨(Lib.indexByte (s.data.toList.take i) 35).toNat, by omega⟩
        exact hn (List.mem_of_getElem? (Lib.indexByte_some hj).1)
      have hV : verI s t c = if 4000 < s.size then (⟨#[]⟩, false) else if (sealB t c).toList = s.toList then (t, true) else (⟨#[]⟩, false) := by
        have hsz := seal_size t c
        have hA1 : 4000 < (sealB t c).size → appI t c = (⟨#[]⟩, false) := fun h6 => by
          unfold appI
          by_cases h5 : 4000 < t.size
          · rw [if_pos h5]
          · rw [if_neg h5, hhas, if_neg (by simp), if_pos h6]
        have hA2 : ¬ 4000 < (sealB t c).size → appI t c = (sealB t c, true) := fun h6 => by
          unfold appI
          rw [if_neg (by omega), hhas, if_neg (by simp), if_neg h6]
        unfold verI
        rw [if_neg (show ¬ Lib.indexByte s.data.toList 35 < 0 by omega)]
        by_cases h6 : 4000 < (sealB t c).size
        · rw [hA1 h6, if_neg (by simp)]
          by_cases h4 : 4000 < s.size
          · rw [if_pos h4]
          · rw [if_neg h4, if_neg (fun e => by have := congrArg ByteArray.size (toList_inj e); omega)]
        · rw [hA2 h6, if_pos rfl]
          by_cases h4 : 4000 < s.size
          · rw [if_pos h4]
            exact if_neg (fun e => by have h9 : (sealB t c).size = s.size := congrArg ByteArray.size (toList_inj e); omega)
          · rw [if_neg h4]
      rw [hV]
      unfold spec_VerifyChecksum.f
      by_cases h4 : 4000 < s.size
      · rw [if_pos h4]
        simp only [show (s.size : Int) > 4000 by omega, if_true]
        exact Ev.now _
      · rw [if_neg h4]
        simp only [show ¬ (s.size : Int) > 4000 by omega, if_false]
        refine Ev.bind hsp ?_
        have hr : rdOf ByteArray.empty (toB (spl 35 s.data.toList)) 0 = t := by
          rw [hh, toB_cons, ← htl, ← ba_of t _ rfl]
          rfl
        have hlen : (0 : Int) < ((toB (spl 35 s.data.toList)).length : Int) := by
          rw [hh, toB_cons, List.length_cons]
          omega
        simp only [hlen, if_true, hr]
        refine Ev.bind (seal_ev t (by omega) c e1 c0 c1 hle) ?_
        by_cases h7 : (sealB t c).toList = s.toList
        · simp only [h7, if_true]
          exact Ev.now _
        · simp only [h7, if_false]
          exact Ev.now _
  obtain ⟨k2, hk2⟩ := Ev.rounds key.2
  exact ⟨t, c, k2, kc, ht, key.1, by omega, hkc, c0, c1, hle, hk2⟩
set_option maxHeartbeats 2000000 in
set_option maxRecDepth 100000 in
theorem law_FnExactVerifyChecksum_calls (s : ByteArray) (w : World) (hl : LW w) :
    Calls Tryd.prog 7 #[.string s] w fun e w' => e = .returned (.bool true) ∧ Below w.heap.size w w' := by
  by_cases hbig : 1048576 < s.size
  · have h1z : decide (1048576 < (s.size : Int)) = true := decide_eq_true (by omega)
    have h1y : decide (1048576 < s.size) = true := decide_eq_true hbig
    clear hl
    go_enter Tryd.func7, Tryd.ntmps7
    go_wp2
    go_ret
    exact ⟨rfl, by repeat (first | exact Below.refl _ _ | apply below_alloc | apply pw_below_drewN | apply below_drew1)⟩
  · obtain ⟨t, c, k2, kc, ht, hix, hts, hkc, c0, c1, hle, hk2⟩ := verify_both s (by omega)
    have h1z : decide (1048576 < (s.size : Int)) = false := decide_eq_false (by omega)
    have h1y : decide (1048576 < s.size) = false := decide_eq_false hbig
    have hF := fun (W : World) (h : LW W) => verify_calls s t c ht hix (fun W h => append_calls t hts kc c hkc c0 c1 hle W h) W h
    generalize verI s t c = r at hk2 hF
    obtain ⟨x, b⟩ := r
    have HK := Aside0.mk hk2
    have HF := Aside0.mk hF
    have HL := Aside0.mk hl
    have hne : (b != b) = false := bne_self_eq_false b
    have HB := Aside0.mk (Below.refl w.heap.size w)
    clear hk2 hF hl hbig c0 c1 hle hkc ht hix hts
    go_enter Tryd.func7, Tryd.ntmps7
    go_wp2_with (first | (go_at_call 27; (refine (spec_VerifyChecksum.calls k2 s x b _ HK.out).mono ?_); rintro e w1 ⟨rfl, hb⟩; have HB := Aside0.mk (below_chain (w := w) (by repeat (first | exact HB.out | apply below_alloc | apply pw_below_drewN | apply below_drew1)) hb); clear hb) | (go_at_call 28; (refine (HF.out _ (LW.below HL.out (by repeat (first | exact HB.out | apply below_alloc | apply pw_below_drewN | apply below_drew1)))).mono ?_); rintro e w2 ⟨rfl, hb⟩; have HB := Aside0.mk (below_chain (w := w) (by repeat (first | exact HB.out | apply below_alloc | apply pw_below_drewN | apply below_drew1)) hb); clear hb))
    go_ret
    exact ⟨rfl, by repeat (first | exact HB.out | apply below_alloc | apply pw_below_drewN | apply below_drew1)⟩
end Go.Proofs.YtdmbboijcaelcaaDoor.Q
