/- The law FnExactParseKind answers true at every string: ParseKind of the program and of the reference agree. No conditions. -/
import Derived.Test.YtjcekpcimjoekaaPFnExactParseKindx1
namespace Go.Proofs.Ytjcekpcimjoekaa.Pure
open Go.RowKit Go.Proofs.Ytjcekpcimjoekaa.PFnExactParseKind Go.Proofs.YtjcekpcimjoekaaW.PrintWords Go.Proofs.YtjcekpcimjoekaaW.PrintLast

theorem wrap_small (i : Int) (h0 : 0 ≤ i) (h : i ≤ 100) : wrap64 (i + 1) = i + 1 := by unfold wrap64; omega

theorem FnExactParseKind : laws_FnExactParseKind.Pure := by
  intro s hs
  refine ⟨8, ?_⟩
  unfold laws_FnExactParseKind.f spec_ParseKind.f impl_ParseKind.f spec_l3Kind.f slices_Index_string_string.f spec_l3Words.f impl_kindWords.f
  by_cases ha : (s.size : Int) > 1048576
  · rw [if_pos ha]
  · rw [if_neg ha]
    have w0 : wrap64 (0 + 1) = 1 := by unfold wrap64; omega
    have w1 : wrap64 (1 + 1) = 2 := by unfold wrap64; omega
    have w2 : wrap64 (2 + 1) = 3 := by unfold wrap64; omega
    have w3 : wrap64 (3 + 1) = 4 := by unfold wrap64; omega
    have w4 : wrap64 (4 + 1) = 5 := by unfold wrap64; omega
    simp only [spec_l3Kind.l0, slices_Index_string_string.l0, rdOf, w0, w1, w2, w3, w4]
    simp
    generalize s.toList = l
    by_cases h0 : l = []
    · subst h0; simp
    · by_cases h1 : l = [100, 101, 112, 111, 115, 105, 116]
      · subst h1; simp
      · by_cases h2 : l = [99, 117, 116]
        · subst h2; simp
        · by_cases h3 : l = [115, 116, 114, 117, 99, 116, 117, 114, 101]
          · subst h3; simp
          · by_cases h4 : l = [110, 97, 116, 117, 114, 97, 108]
            · subst h4; simp
            · have g1 : ¬ [100, 101, 112, 111, 115, 105, 116] = l := fun h => h1 h.symm
              have g2 : ¬ [99, 117, 116] = l := fun h => h2 h.symm
              have g3 : ¬ [115, 116, 114, 117, 99, 116, 117, 114, 101] = l := fun h => h3 h.symm
              have g4 : ¬ [110, 97, 116, 117, 114, 97, 108] = l := fun h => h4 h.symm
              simp [h0, h1, h2, h3, h4, g1, g2, g3, g4]

end Go.Proofs.Ytjcekpcimjoekaa.Pure
