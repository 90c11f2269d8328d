/- The law FnExactChecksum answers true at every string: Checksum of the program and of the reference agree. No conditions. -/
import Derived.Test.YtjcekpcimjoekaaPFnExactChecksumx1
namespace Go.Proofs.Ytjcekpcimjoekaa.Pure
open Go.RowKit Go.Proofs.Ytjcekpcimjoekaa.PFnExactChecksum Go.Proofs.YtjcekpcimjoekaaW.PrintWords Go.Proofs.YtjcekpcimjoekaaW.PrintLast

theorem sum_both (s : ByteArray) (hs : s.size ≤ 140737488351232) (d : Nat) : ∀ (k : Nat) (h i : Int), 0 ≤ i → (s.size : Int) - i ≤ d → d < k →
    ∃ r, spec_l1Sum.l0 k s h i = some r ∧ impl_checksum.l0 k s h (s.size : Int) i = some r := by
  induction d with
  | zero =>
    intro k h i h0 hd hk
    obtain ⟨k, rfl⟩ : ∃ m, k = m + 1 := ⟨k - 1, by omega⟩
    refine ⟨h, ?_, ?_⟩
    · simp only [spec_l1Sum.l0]; rw [if_neg (by omega)]
    · simp only [impl_checksum.l0]; rw [if_neg (by omega)]
  | succ d ih =>
    intro k h i h0 hd hk
    obtain ⟨k, rfl⟩ : ∃ m, k = m + 1 := ⟨k - 1, by omega⟩
    by_cases hlt : i < (s.size : Int)
    · have hw : wrap64 (i + 1) = i + 1 := by unfold wrap64; omega
      obtain ⟨r, h1, h2⟩ := ih k (Int.tmod (wrap64 ((wrap64 ((wrap64 (41 * h)) + (wrap64 (bt s i)))) + 1)) 999979) (i + 1) (by omega) (by omega) (by omega)
      refine ⟨r, ?_, ?_⟩
      · simp only [spec_l1Sum.l0]; rw [if_pos hlt, if_pos h0, hw]; exact h1
      · simp only [impl_checksum.l0]; rw [if_pos hlt, if_pos h0, if_pos hlt, hw]; exact h2
    · refine ⟨h, ?_, ?_⟩
      · simp only [spec_l1Sum.l0]; rw [if_neg hlt]
      · simp only [impl_checksum.l0]; rw [if_neg hlt]

theorem FnExactChecksum : laws_FnExactChecksum.Pure := by
  intro s hs
  obtain ⟨r, h1, h2⟩ := sum_both s hs s.size (s.size + 1) 7 0 (by omega) (by omega) (by omega)
  refine ⟨s.size + 1, ?_⟩
  unfold laws_FnExactChecksum.f spec_Checksum.f impl_Checksum.f spec_l1Sum.f impl_checksum.f
  rw [h1, h2]
  by_cases ha : (s.size : Int) > 1048576
  · rw [if_pos ha]
  · rw [if_neg ha]
    by_cases hb : (s.size : Int) > 4000
    · simp [hb]
    · simp [hb]

end Go.Proofs.Ytjcekpcimjoekaa.Pure
