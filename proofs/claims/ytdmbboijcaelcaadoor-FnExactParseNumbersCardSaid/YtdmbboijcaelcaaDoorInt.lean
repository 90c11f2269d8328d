/- The walk of ParseInt. -/
import Derived.Test.YtdmbboijcaelcaaDoorShelfF
import Derived.Test.YtdmbboijcaelcaaDoorFmt
import Derived.Test.YtdmbboijcaelcaaDoorRead
import Derived.Lib.AtoiAllCases
import Derived.Lib.SmallJoins
import Derived.Lib.Strings
namespace Go.Proofs.YtdmbboijcaelcaaDoor.Q
open Go.RowKit Go.Proofs.YtdmbboijcaelcaaDoorW.PrintWords Go.Proofs.YtdmbboijcaelcaaDoorW.PrintLast
set_option linter.unusedVariables false
set_option linter.unusedSimpArgs false
/-- The library's two sentinels hold errors. -/
def EW (w : World) : Prop := (∃ t p, w.var? Tryd.prog "strconv.ErrSyntax" = some #[.iface t p]) ∧ ∃ t p, w.var? Tryd.prog "strconv.ErrRange" = some #[.iface t p]
theorem var_below {w w' : World} {n : String} {g : Nat} {v : Value} (hg : Tryd.prog.globalNamed n = some g) (h : w.var? Tryd.prog n = some #[v]) (hb : Below w.heap.size w w') : w'.var? Tryd.prog n = some #[v] := by
  have hc := World.var?_cell hg h 0
  have hc2 : w.cell? ⟨g, 0, none⟩ = some v := by simpa using hc
  exact var?_below hb hg (World.block_lt_of_cell? w _ hc2) h
theorem named (n : String) (h : (Tryd.prog.globalNamed n).isSome = true) : ∃ g, Tryd.prog.globalNamed n = some g := by
  cases hh : Tryd.prog.globalNamed n with
  | some g => exact ⟨g, rfl⟩
  | none => rw [hh] at h; cases h
theorem EW.below {w w' : World} (h : EW w) (hb : Below w.heap.size w w') : EW w' := by
  obtain ⟨⟨t1, p1, h1⟩, ⟨t2, p2, h2⟩⟩ := h
  obtain ⟨g1, hg1⟩ := named "strconv.ErrSyntax" (by kernel_rfl)
  obtain ⟨g2, hg2⟩ := named "strconv.ErrRange" (by kernel_rfl)
  exact ⟨⟨t1, p1, var_below hg1 h1 hb⟩, ⟨t2, p2, var_below hg2 h2 hb⟩⟩
theorem atoi_calls (s : ByteArray) (hs : s.size ≤ 281474976710656) (w : World) (he : EW w) :
    Calls Tryd.prog 69 #[.string s] w fun e w' => ∃ v ev, e = .returned (.tuple #[.int .i64 v, ev]) ∧ ((Lib.atoiAll s.data.toList = .ok v ∧ ev = .nilIface) ∨ ((∀ x, Lib.atoiAll s.data.toList ≠ .ok x) ∧ ∃ t p, ev = .iface t p)) ∧ Below w.heap.size w w' := by
  obtain ⟨⟨t1, p1, h1⟩, ⟨t2, p2, h2⟩⟩ := he
  cases hc : Lib.atoiAll s.data.toList with
  | ok v =>
    refine (Any.strconv_Atoi_ok Tryd.laysAtoi s (by omega) v hc w).mono fun e w' ⟨he, hw⟩ => ⟨v, .nilIface, he, .inl ⟨rfl, rfl⟩, ?_⟩
    rcases hw with rfl | ⟨t, rfl⟩
    · exact Below.refl _ _
    · exact Go.Joins.below_bytesWorld _ _ _ _ (Nat.le_refl _)
  | «syntax» => exact (Any.strconv_Atoi_syntax_var Tryd.laysAtoi s hs hc t1 p1 w h1).mono fun e w' ⟨N, he, _, _, hb⟩ => ⟨_, _, he, .inr ⟨(fun x h => by cases h), _, _, rfl⟩, hb⟩
  | range => exact (Any.strconv_Atoi_range_var Tryd.laysAtoi s hs hc t2 p2 w h2).mono fun e w' ⟨N, he, _, _, hb⟩ => ⟨_, _, he, .inr ⟨(fun x h => by cases h), _, _, rfl⟩, hb⟩
theorem toList_mk (l : List UInt8) (s : ByteArray) : ((⟨l.toArray⟩ : ByteArray).toList = s.toList) ↔ l = s.data.toList := by
  rw [Lib.toList_data, Lib.toList_data]
set_option maxHeartbeats 2000000 in
set_option maxRecDepth 100000 in
theorem parseint_calls (s : ByteArray) (hs : s.size ≤ 1048576) (w : World) (hl : LW w) (he : EW w) :
    Calls Tryd.prog 30 #[.string s] w fun e w' => e = .returned (.tuple #[.int .i64 (readL s.data.toList).1, .bool (readL s.data.toList).2]) ∧ Below w.heap.size w w' := by
  have HE := Aside0.mk he
  have HL := Aside0.mk hl
  have HB := Aside0.mk (Below.refl w.heap.size w)
  have HQ := Aside0.mk (toList_mk · s)
  have HF := Aside0.mk (fun h => readL_fell (l := s.data.toList) h)
  have HO := Aside0.mk (fun v => readL_other (l := s.data.toList) (v := v))
  have HH := Aside0.mk (fun v => readL_hit (l := s.data.toList) (n := v))
  have HA := Aside0.mk (fun (W : World) (h : EW W) => atoi_calls s (by omega) W h)
  have HBD := Aside0.mk (fun v h => Lib.atoiAll_bounds (l := s.data.toList) (v := v) h)
  generalize readL s.data.toList = R at HF HO HH ⊢
  generalize s.data.toList = L at HF HO HH HA HQ HBD
  clear he hl
  go_enter Tryd.func30, Tryd.ntmps30
  go_upto_region 2 with (go_at_call 69; refine (HA.out _ (EW.below HE.out (by repeat (first | exact HB.out | apply below_alloc | apply pw_below_drewN | apply below_drew1)))).mono ?_; rintro e w1 ⟨v, ev, rfl, hc, hb⟩; have HB := Aside0.mk (below_chain (w := w) (by repeat (first | exact HB.out | apply below_alloc | apply pw_below_drewN | apply below_drew1)) hb); clear hb; have HC := Aside0.mk hc; clear hc)
  rcases HC.out with ⟨hok, rfl⟩ | ⟨hno, t, p, rfl⟩
  · have HK := Aside0.mk hok
    clear hok HC
    obtain ⟨b, hb⟩ : ∃ b, (decide (-999999 ≤ v) && decide (v ≤ 999999)) = b := ⟨_, rfl⟩
    have A1 := Aside0.mk ((within_eq v (-999999) 999999).trans (congrArg some hb))
    have HI := Aside0.mk (fun (W : World) (h : LW W) => itoa_calls v (HBD.out v HK.out).1 (HBD.out v HK.out).2 W h)
    cases b with
    | false =>
      have HR := Aside0.mk (HO.out v HK.out (fun h => by rw [decide_eq_true h.1, decide_eq_true h.2.1] at hb; cases hb))
      clear hb
      go_wp2_with (go_at_call 53; (with_reducible refine (impl_within.calls v (-999999) 999999 _ _ A1.out).mono ?_); rintro e w2 ⟨rfl, ⟨nd, rfl⟩⟩)
      go_ret2
      exact ⟨by rw [HR.out]; rfl, by repeat (first | exact HB.out | apply below_alloc | apply pw_below_drewN | apply below_drew1)⟩
    | true =>
      have hh : -999999 ≤ v ∧ v ≤ 999999 := by simpa using hb
      clear hb
      by_cases hq : Lib.itoa v = L
      · have e0 : ((⟨(Lib.itoa v).toArray⟩ : ByteArray).toList == s.toList) = true := beq_iff_eq.mpr ((HQ.out _).2 hq)
        have e1 : ((⟨(Lib.itoa v).toArray⟩ : ByteArray).toList != s.toList) = false := bne_eq_false_iff_eq.mpr ((HQ.out _).2 hq)
        have HR := Aside0.mk (HH.out v hh.1 hh.2 hq)
        generalize (⟨(Lib.itoa v).toArray⟩ : ByteArray) = y at e0 e1 HI
        clear hh hq
        go_wp2_with (first | (go_at_call 53; (with_reducible refine (impl_within.calls v (-999999) 999999 _ _ A1.out).mono ?_); rintro e w2 ⟨rfl, ⟨nd, rfl⟩⟩) | (go_at_call 54; refine (HI.out _ (LW.below HL.out (by repeat (first | exact HB.out | apply below_alloc | apply pw_below_drewN | apply below_drew1)))).mono ?_; rintro e w3 ⟨rfl, hb⟩; have HB := Aside0.mk (below_chain (w := w) (by repeat (first | exact HB.out | apply below_alloc | apply pw_below_drewN | apply below_drew1)) hb); clear hb))
        go_ret2
        exact ⟨by rw [HR.out]; rfl, by repeat (first | exact HB.out | apply below_alloc | apply pw_below_drewN | apply below_drew1)⟩
      · have e0 : ((⟨(Lib.itoa v).toArray⟩ : ByteArray).toList == s.toList) = false := beq_eq_false_iff_ne.mpr (fun h => hq ((HQ.out _).1 h))
        have e1 : ((⟨(Lib.itoa v).toArray⟩ : ByteArray).toList != s.toList) = true := bne_iff_ne.mpr (fun h => hq ((HQ.out _).1 h))
        have HR := Aside0.mk (HO.out v HK.out (fun h => hq h.2.2))
        generalize (⟨(Lib.itoa v).toArray⟩ : ByteArray) = y at e0 e1 HI
        clear hh hq
        go_wp2_with (first | (go_at_call 53; (with_reducible refine (impl_within.calls v (-999999) 999999 _ _ A1.out).mono ?_); rintro e w2 ⟨rfl, ⟨nd, rfl⟩⟩) | (go_at_call 54; refine (HI.out _ (LW.below HL.out (by repeat (first | exact HB.out | apply below_alloc | apply pw_below_drewN | apply below_drew1)))).mono ?_; rintro e w3 ⟨rfl, hb⟩; have HB := Aside0.mk (below_chain (w := w) (by repeat (first | exact HB.out | apply below_alloc | apply pw_below_drewN | apply below_drew1)) hb); clear hb))
        go_ret2
        exact ⟨by rw [HR.out]; rfl, by repeat (first | exact HB.out | apply below_alloc | apply pw_below_drewN | apply below_drew1)⟩
  · have HR := Aside0.mk (HF.out hno)
    clear HC hno
    go_wp2
    go_ret2
    exact ⟨by rw [HR.out]; rfl, by repeat (first | exact HB.out | apply below_alloc | apply pw_below_drewN | apply below_drew1)⟩
end Go.Proofs.YtdmbboijcaelcaaDoor.Q
