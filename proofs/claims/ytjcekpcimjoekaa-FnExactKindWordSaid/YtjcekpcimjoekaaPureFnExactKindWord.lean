/- The law FnExactKindWord answers true at every int: KindWord of the program and of the reference agree. No conditions. -/
import Derived.Test.YtjcekpcimjoekaaPFnExactKindWordx1
namespace Go.Proofs.Ytjcekpcimjoekaa.Pure
open Go.RowKit Go.Proofs.Ytjcekpcimjoekaa.PFnExactKindWord Go.Proofs.YtjcekpcimjoekaaW.PrintWords Go.Proofs.YtjcekpcimjoekaaW.PrintLast

theorem FnExactKindWord : laws_FnExactKindWord.Pure := by
  intro a0 _
  unfold laws_FnExactKindWord.f spec_KindWord.f impl_KindWord.f impl_isKind.f impl_within.f spec_l1In.f spec_l3Words.f impl_kindWords.f
  by_cases h : a0 ≥ 1
  · by_cases h4 : a0 ≤ 4
    · have h0 : 0 ≤ a0 := by omega
      have h5 : a0 < 5 := by omega
      simp [h, h4, h0, h5]
    · simp [h, h4]
  · simp [h]

end Go.Proofs.Ytjcekpcimjoekaa.Pure
