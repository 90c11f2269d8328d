-- Written by a program of this session (wip/xprint.py over the kit's printer).
import Derived.Test.YtlbkoejpjpcgaaaQ0
import Derived.Test.YtlbkoejpjpcgaaaQF85
import Derived.Test.YtlbkoejpjpcgaaaQP
namespace Go.Proofs.Ytlbkoejpjpcgaaa.Q
open Go.RowKit Go.Proofs.YtlbkoejpjpcgaaaW.PrintWords Go.Proofs.YtlbkoejpjpcgaaaW.PrintLast
set_option linter.unusedVariables false
set_option linter.unusedSimpArgs false

/-! ### laws_markIntA2S: function 40 -/
/-- The pairs a, a+1, a+2, .. -/
def mkA (a : Int) (n : Nat) : List S100 := (List.range n).map fun (q : Nat) => ⟨a + 2 * q, a + 2 * q + 1⟩
theorem mkA_length (a : Int) (n : Nat) : (mkA a n).length = n := by simp [mkA]
def mkAT (l : List S100) (a : Int) (i j : Nat) : List S100 := (List.range l.length).map fun (q : Nat) => ⟨if q < i ∨ (q = i ∧ 0 < j) then a + 2 * q else (l.getD q z100).f0, if q < i ∨ (q = i ∧ 1 < j) then a + 2 * q + 1 else (l.getD q z100).f1⟩
theorem mkAT_length (l : List S100) (a : Int) (i j : Nat) : (mkAT l a i j).length = l.length := by simp [mkAT]
theorem mkAT_start (l : List S100) (a : Int) : mkAT l a 0 0 = l := by
  apply List.ext_getElem (by simp [mkAT])
  intro q h1 h2
  simp [mkAT, List.getD_eq_getElem?_getD, List.getElem?_eq_getElem h2]
theorem mkAT_row (l : List S100) (a : Int) (i : Nat) : mkAT l a i 2 = mkAT l a (i + 1) 0 := by
  unfold mkAT
  apply List.map_congr_left
  intro q _
  have e1 : (q < i ∨ (q = i ∧ 0 < 2)) ↔ (q < i + 1 ∨ (q = i + 1 ∧ 0 < 0)) := by omega
  have e2 : (q < i ∨ (q = i ∧ 1 < 2)) ↔ (q < i + 1 ∨ (q = i + 1 ∧ 1 < 0)) := by omega
  simp only [e1, e2]
theorem mkAT_end (l : List S100) (a : Int) : mkAT l a l.length 0 = mkA a l.length := by
  unfold mkAT mkA
  apply List.map_congr_left
  intro q hq
  have h := List.mem_range.1 hq
  simp only [h, true_or, if_true]
theorem mkAT_at (l : List S100) (a : Int) (i j : Nat) (hi : i < l.length) : (mkAT l a i j).getD i z100 = ⟨if 0 < j then a + 2 * i else (l.getD i z100).f0, if 1 < j then a + 2 * i + 1 else (l.getD i z100).f1⟩ := by
  simp [mkAT, List.getD_eq_getElem?_getD, hi]
theorem mkAT_set (l : List S100) (a : Int) (i j : Nat) (x : S100) (hx : x = ⟨if 0 < j + 1 then a + 2 * i else (l.getD i z100).f0, if 1 < j + 1 then a + 2 * i + 1 else (l.getD i z100).f1⟩) : (mkAT l a i j).set i x = mkAT l a i (j + 1) := by
  apply List.ext_getElem (by simp [mkAT])
  intro q h1 h2
  rw [List.getElem_set]
  by_cases e : i = q
  · subst e
    rw [if_pos rfl, hx]
    simp [mkAT]
  · rw [if_neg e]
    have e1 : (q < i ∨ (q = i ∧ 0 < j)) ↔ (q < i ∨ (q = i ∧ 0 < j + 1)) := by omega
    have e2 : (q < i ∨ (q = i ∧ 1 < j)) ↔ (q < i ∨ (q = i ∧ 1 < j + 1)) := by omega
    simp only [mkAT, List.getElem_map, List.getElem_range, e1, e2]
theorem mkA_store0 {W : World} {base g n c0 i : Nat} {ok : Nat → Prop} {l : List S100} {a : Int} (HR : Kd.R k100 109 W base ok (.slice (some ⟨g, 0, none⟩) n c0) (mkAT l a i 0)) (hi : i < n) (hn : l.length = n) :
    (W.frozen? ⟨g, i * 2, none⟩ = false ∧ ∃ y, W.cell? ⟨g, i * 2, none⟩ = some (.int .i64 y)) ∧ Kd.R k100 109 (W.setCell ⟨g, i * 2, none⟩ (.int .i64 (a + 2 * i))) base ok (.slice (some ⟨g, 0, none⟩) n c0) (mkAT l a i 1) ∧ W.grownBy (W.setCell ⟨g, i * 2, none⟩ (.int .i64 (a + 2 * i))) (some g) := by
  have hi0 : (0 : Int) ≤ (i : Int) := by omega
  have hiz : (i : Int) < (n : Int) := by omega
  obtain ⟨cs, hcl, hM, hcc, hcf⟩ := Kd.R_elem HR z100 (i : Int) hi0 hiz
  rw [Int.toNat_natCast, mkAT_at l a i 0 (by omega)] at hM
  obtain rfl := k100_openM hM
  have h := Kd.R_seg HR (i : Int) hi0 hiz (j := 0) (seg := [.int .i64 (a + 2 * i)]) (okp := fun _ => False) (x' := ⟨a + 2 * i, (l.getD i z100).f1⟩) hcl hcc (by show 0 + 1 ≤ 2; decide) (k100_mkM W base _ (⟨a + 2 * i, (l.getD i z100).f1⟩ : S100)) (fun _ h => h.elim)
  rw [Int.toNat_natCast, mkAT_set l a i 0 _ (by simp)] at h
  exact ⟨⟨by have := hcf 0; rw [Int.toNat_natCast] at this; exact this, _, by have := hcc 0 _ rfl; rw [Int.toNat_natCast] at this; exact this⟩, h⟩
theorem mkA_store1 {W : World} {base g n c0 i : Nat} {ok : Nat → Prop} {l : List S100} {a : Int} (HR : Kd.R k100 109 W base ok (.slice (some ⟨g, 0, none⟩) n c0) (mkAT l a i 1)) (hi : i < n) (hn : l.length = n) :
    (W.frozen? ⟨g, i * 2 + 1, none⟩ = false ∧ ∃ y, W.cell? ⟨g, i * 2 + 1, none⟩ = some (.int .i64 y)) ∧ Kd.R k100 109 (W.setCell ⟨g, i * 2 + 1, none⟩ (.int .i64 (a + 2 * i + 1))) base ok (.slice (some ⟨g, 0, none⟩) n c0) (mkAT l a i 2) ∧ W.grownBy (W.setCell ⟨g, i * 2 + 1, none⟩ (.int .i64 (a + 2 * i + 1))) (some g) := by
  have hi0 : (0 : Int) ≤ (i : Int) := by omega
  have hiz : (i : Int) < (n : Int) := by omega
  obtain ⟨cs, hcl, hM, hcc, hcf⟩ := Kd.R_elem HR z100 (i : Int) hi0 hiz
  rw [Int.toNat_natCast, mkAT_at l a i 1 (by omega)] at hM
  obtain rfl := k100_openM hM
  have h := Kd.R_seg HR (i : Int) hi0 hiz (j := 1) (seg := [.int .i64 (a + 2 * i + 1)]) (okp := fun _ => False) (x' := ⟨a + 2 * i, a + 2 * i + 1⟩) hcl hcc (by show 1 + 1 ≤ 2; decide) (k100_mkM W base _ (⟨a + 2 * i, a + 2 * i + 1⟩ : S100)) (fun _ h => h.elim)
  rw [Int.toNat_natCast, mkAT_set l a i 1 _ (by simp)] at h
  exact ⟨⟨by have := hcf 1; rw [Int.toNat_natCast] at this; exact this, _, by have := hcc 1 _ rfl; rw [Int.toNat_natCast] at this; exact this⟩, h⟩
set_option maxHeartbeats 8000000 in
set_option maxRecDepth 100000 in
theorem laws_markIntA2S.calls (A0 : Option Addr) (c0 : Nat) (l0 : List S100) (a1 : Int) (base : Nat) (ok : Nat → Prop) (w : World) (hr0 : Kd.R k100 109 w base ok (.slice A0 l0.length c0) l0) (hl : l0.length ≤ 1000000) (ha : 0 ≤ a1 ∧ a1 ≤ 1000000) :
    Calls Try.prog 40 #[.slice A0 l0.length c0, .int .i64 a1] w fun e w' => e = .returned (.int .i64 (a1 + 2 * l0.length)) ∧ Kd.R k100 109 w' base ok (.slice A0 l0.length c0) (mkA a1 l0.length) ∧ w.grownBy w' (Value.slice A0 l0.length c0).ownBlock := by
  by_cases hz : l0.length = 0
  · obtain rfl := List.length_eq_zero_iff.1 hz
    have HR := Aside0.mk hr0
    clear hz hl hr0
    go_enter Try.func40, Try.ntmps40
    go_wp2
    go_loopg [1, 5, 6] 0 (fun gg s1 s5 _ wr => s1 = .int .i64 a1 ∧ s5 = .int .i64 0 ∧ Aside0 (wr = w))
    case atStart => exact ⟨rfl, rfl, ⟨rfl⟩⟩
    case round =>
      obtain ⟨rfl, rfl, HW⟩ := hrel
      obtain rfl := HW.out
      go_wp2
      go_ret
      exact ⟨by first | rfl | (simp), HR.out, grown_refl _ _⟩
  · obtain ⟨g, cap, hv, hbg, hgl, _⟩ := Kd.R_form hr0 (by omega)
    injection hv with hv1 _ hv3
    subst hv1; subst hv3
    obtain ⟨n, hn⟩ : ∃ n, l0.length = n := ⟨_, rfl⟩
    have HN := Aside0.mk hn
    rw [hn] at hr0 hl ⊢
    have HR := Aside0.mk (show Kd.R k100 109 w base ok (.slice (some ⟨g, 0, none⟩) n c0) (mkAT l0 a1 0 0) from by rw [mkAT_start]; exact hr0)
    have HL := Aside0.mk hl
    have HA := Aside0.mk ha
    have HG := Aside0.mk (grown_refl w (some g))
    clear hz hr0 hbg hgl hn hl ha
    go_enter Try.func40, Try.ntmps40
    go_wp2
    go_loopg [1, 5, 6] n (fun gg s1 s5 _ wr => ∃ i : Nat, i ≤ n ∧ n - i ≤ gg ∧ s1 = .int .i64 (a1 + 2 * i) ∧ s5 = .int .i64 i ∧ Aside0 (w.grownBy wr (some g)) ∧ Aside0 (Kd.R k100 109 wr base ok (.slice (some ⟨g, 0, none⟩) n c0) (mkAT l0 a1 i 0)))
    case atStart => exact ⟨0, Nat.zero_le _, by omega, by simp, rfl, HG, HR⟩
    case round =>
      clear HG HR
      obtain ⟨i, hi, hgg, rfl, rfl, HG, HR⟩ := hrel
      by_cases hil : i < n
      · have hilz : (i : Int) < (n : Int) := by omega
        have hi0 : (0 : Int) ≤ (i : Int) := by omega
        obtain ⟨wq, rfl⟩ : ∃ x, x = wr := ⟨_, rfl⟩
        go_upto_region 5 with (fail)
        go_loopg [1, 6] 2 (fun gg s1 s6 wr => ∃ j : Nat, j ≤ 2 ∧ 2 - j ≤ gg ∧ s1 = .int .i64 (a1 + 2 * i + j) ∧ s6 = .int .i64 j ∧ Aside0 (w.grownBy wr (some g)) ∧ Aside0 (Kd.R k100 109 wr base ok (.slice (some ⟨g, 0, none⟩) n c0) (mkAT l0 a1 i j)))
        case atStart => exact ⟨0, by omega, by omega, by simp, rfl, HG, HR⟩
        case round =>
          clear HG HR
          obtain ⟨j, hj, hgg2, rfl, rfl, HG, HR⟩ := hrel
          have hway : j = 0 ∨ j = 1 ∨ j = 2 := by omega
          rcases hway with rfl | rfl | rfl
          · have hs := mkA_store0 HR.out hil HN.out
            have f0 : wr.frozen? ⟨g, i * 2, none⟩ = false := hs.1.1
            obtain ⟨yo, f1⟩ := hs.1.2
            have HS := Aside0.mk hs.2
            have hw1 : wrap64 (a1 + 2 * (i : Int) + 1) = a1 + 2 * (i : Int) + 1 := by have h1 := HL.out; have h2 := HA.out; unfold wrap64; omega
            clear hs
            go_wp2
            try rw [hw1]
            clear hw1 f0 f1
            go_roundg (2 - 1)
            case measure => omega
            case rel => exact ⟨1, by omega, by omega, by first | rfl | (congr 1; omega), by first | rfl | go_num, ⟨grown_trans HG.out HS.out.2⟩, ⟨HS.out.1⟩⟩
          · have hs := mkA_store1 HR.out hil HN.out
            have f0 : wr.frozen? ⟨g, i * 2 + 1, none⟩ = false := hs.1.1
            obtain ⟨yo, f1⟩ := hs.1.2
            have HS := Aside0.mk hs.2
            have hw1 : wrap64 (a1 + 2 * (i : Int) + 1 + 1) = a1 + 2 * (i : Int) + 1 + 1 := by have h1 := HL.out; have h2 := HA.out; unfold wrap64; omega
            clear hs
            go_wp2
            try rw [hw1]
            clear hw1 f0 f1
            go_roundg (2 - 2)
            case measure => omega
            case rel => exact ⟨2, by omega, by omega, by first | rfl | (congr 1; omega), by first | rfl | go_num, ⟨grown_trans HG.out HS.out.2⟩, ⟨HS.out.1⟩⟩
          · have HQ := Aside0.mk (mkAT_row l0 a1 i)
            go_wp2
            go_roundg (n - (i + 1))
            case measure => omega
            case rel => exact ⟨i + 1, by omega, by omega, by first | (congr 1; omega) | skip, by first | go_num | exact congrArg (Value.int .i64) (wrap_succ i (by have := HL.out; omega)), HG, by rw [← HQ.out]; exact HR⟩
      · obtain rfl : i = n := by omega
        have hkz : ¬ ((i : Int) < (i : Int)) := by omega
        have HE := Aside0.mk (show mkAT l0 a1 i 0 = mkA a1 i from by have h := mkAT_end l0 a1; rw [HN.out] at h; exact h)
        go_wp2
        go_ret
        exact ⟨rfl, by rw [← HE.out]; exact HR.out, HG.out⟩

end Go.Proofs.Ytlbkoejpjpcgaaa.Q
