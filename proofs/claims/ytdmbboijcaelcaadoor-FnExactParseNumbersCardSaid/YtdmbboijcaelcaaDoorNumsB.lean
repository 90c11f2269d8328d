/- The walk of joinInts. -/
import Derived.Test.YtdmbboijcaelcaaDoorNums
namespace Go.Proofs.YtdmbboijcaelcaaDoor.Q
open Go.RowKit Go.Proofs.YtdmbboijcaelcaaDoorW.PrintWords Go.Proofs.YtdmbboijcaelcaaDoorW.PrintLast
set_option linter.unusedVariables false
set_option linter.unusedSimpArgs false
def tx (n : Int) : ByteArray := ⟨(Lib.itoa n).toArray⟩
def joinN (l : List Int) (sep : ByteArray) : ByteArray := ⟨(Lib.join (l.map Lib.itoa) sep.data.toList).toArray⟩
theorem joinN_eq (l : List Int) (sep : ByteArray) : (⟨(Lib.join ((l.map tx).map (·.data.toList)) sep.data.toList).toArray⟩ : ByteArray) = joinN l sep := by
  unfold joinN
  rw [List.map_map]
  rfl
set_option maxHeartbeats 8000000 in
set_option maxRecDepth 100000 in
theorem joinInts_calls (l : List Int) (A0 : Option Addr) (c0 : Nat) (sep : ByteArray) (w : World) (hr0 : Kd.C (Kd.int .i64) w A0 l.length l) (hc0 : l.length ≤ c0) (hl : l.length ≤ 1000) (hn : ∀ n ∈ l, -999999 ≤ n ∧ n ≤ 999999)
    (hj : (Lib.join (l.map Lib.itoa) sep.data.toList).length ≤ 140737488355328) (hlw : LW w) :
    Calls Tryd.prog 66 #[.slice A0 l.length c0, .string sep] w fun e w' => e = .returned (.string (joinN l sep)) ∧ Below w.heap.size w w' := by
  have HR0 := Aside0.mk hr0
  have HL := Aside0.mk hlw
  have HN := Aside0.mk hn
  have HJ := Aside0.mk (show strings_Join.f (l.map tx) sep = some (joinN l sep) from by
    unfold strings_Join.f
    rw [if_pos ⟨by rw [List.map_map]; exact hj, by rw [List.length_map]; omega⟩, joinN_eq])
  clear hr0 hlw hn hj
  go_enter Tryd.func66, Tryd.ntmps66
  go_upto_region 2 with ((with_reducible refine gate_dst (N := 8) rfl ?_); refine Kd.R_lit Kd.string _ 9 ?hg (N := 8) ?hd (xs := ([] : List ByteArray)) (inner := []) (ok := fun _ => True) (okp := fun _ => True) ?hr ?hp (fun _ hk => hk) trivial (Below.refl _ _) (Nat.le_refl _) (by simp) ?_; (case hd => rfl); (case hg => rfl); (case hr => first | (go_simp; done) | (go_simp; rfl)); (case hp => exact (Reps.none _ _)); intro v0 w1 ho hb hg_ hnew_; clear hg_ hnew_; have HR := Aside0.mk ho; have HB := Aside0.mk hb; clear ho hb)
  go_wp2
  go_loopg [5, 7, 11] l.length (fun gg s5 _ s11 wr => ∃ i : Nat, i ≤ l.length ∧ l.length - i ≤ gg ∧ s11 = .int .i64 i ∧ Aside0 (Below w.heap.size w wr) ∧ Aside0 (Kd.R Kd.string 9 wr w.heap.size (fun _ => True) s5 ((l.take i).map tx)))
  case atStart => exact ⟨0, Nat.zero_le _, by omega, rfl, HB, ⟨HR.out⟩⟩
  case round =>
    clear HR HB
    obtain ⟨i, hi, hgg, rfl, HB, HR⟩ := hrel
    by_cases hlt : i < l.length
    · have hltz : (i : Int) < (l.length : Int) := by omega
      obtain ⟨ad, e1, hx⟩ := Kd.at_int HR0.out (i : Int) (by omega) hltz
      cases e1
      have e2 : rd l (i : Int) = l.getD i 0 := by simp [rd]
      rw [e2, Int.toNat_natCast] at hx
      clear e2
      have hmem : l.getD i 0 ∈ l := by rw [List.getD_eq_getElem?_getD, List.getElem?_eq_getElem hlt]; exact List.getElem_mem hlt
      have htk : (l.take (i + 1)).map tx = (l.take i).map tx ++ [tx (l.getD i 0)] := by
        rw [List.take_succ_eq_append_getElem hlt, List.map_append, List.getD_eq_getElem?_getD, List.getElem?_eq_getElem hlt]
        rfl
      have hrange := HN.out _ hmem
      generalize l.getD i 0 = y at hx hmem htk hrange
      have HT := Aside0.mk htk
      have HY := Aside0.mk hrange
      have hlen : ((l.take i).map tx).length = i := by rw [List.length_map, List.length_take]; omega
      have HLN := Aside0.mk hlen
      clear htk hmem hrange hlen
      replace hx := (HB.out.cell (World.block_lt_of_cell? w _ hx)).trans hx
      go_wp2_with (first | (go_at_call 54; refine (itoa_calls y (by have := HY.out; omega) (by have := HY.out; omega) _ (LW.below HL.out (by repeat (first | exact HB.out | apply below_alloc | apply pw_below_drewN | apply below_drew1)))).mono ?_; rintro e w2 ⟨rfl, hb⟩; have HB := Aside0.mk (below_chain (w := w) (by repeat (first | exact HB.out | apply below_alloc | apply pw_below_drewN | apply below_drew1)) hb); have HR := Aside0.mk (Kd.R_below (HR.out) hb); have hx := pw_cell_below hb hx; clear hb) | ((with_reducible refine gate_builtin (b := .append) (xs := #[.tmp 15, .tmp 18]) rfl ?_); at_builtin; refine Kd.R_append Kd.string (w0 := w) w.heap.size rfl (.tmp 15) (.tmp 18) 25 9 (.string ByteArray.empty) 16 rfl Tryd.underlying25 info9 rfl (by decide) (by omega) _ ((l.take i).map tx) (tx y) [.string (tx y)] (fun _ => True) (fun _ => False) rfl rfl rfl (fun _ hk => hk.elim) (fun _ _ => trivial) ?aO ?aB ?aS ?aL ?_; (case aO => exact (by (with_reducible repeat (first | apply Kd.R_alloc | apply Kd.R_drewN | apply Kd.R_drew)); exact HR.out)); (case aB => exact (by repeat (first | exact HB.out | apply below_alloc | apply pw_below_drewN | apply below_drew1))); (case aS => exact below_size (by repeat (first | exact HB.out | apply below_alloc | apply pw_below_drewN | apply below_drew1))); (case aL => have h1 := HLN.out; omega); intro v1 w1 ho hb hg hat; have HB := Aside0.mk hb; have HR := Aside0.mk (show Kd.R Kd.string 9 w1 w.heap.size (fun _ => True) v1 ((l.take (i + 1)).map tx) from by rw [HT.out]; exact ho); clear hx ho hb hg hat))
      go_roundg (l.length - (i + 1))
      case measure => omega
      case rel => exact ⟨i + 1, by omega, by omega, by first | go_num | exact congrArg (Value.int .i64) (wrap_succ i (by omega)), HB, HR⟩
    · obtain rfl : i = l.length := by omega
      have hltz : ¬ ((l.length : Int) < (l.length : Int)) := by omega
      have HR2 := HR.out
      rw [List.take_length] at HR2
      have hjj := HJ.out
      generalize l.map tx = xs at HR2 hjj
      have HK := Aside0.mk hjj
      obtain ⟨A1, c1, rfl, hd1, hC1⟩ := Kd.R_reads HR2
      have HC1 := Aside0.mk hC1
      clear HR HR2 hC1 hjj HJ
      go_wp2_with (go_at_call 105; refine (strings_Join.calls _ _ xs sep _ _ (Kd.C_below HC1.out (by repeat (first | exact Below.refl _ _ | apply below_alloc | apply pw_below_drewN | apply below_drew1))) hd1 HK.out).mono ?_; rintro e w3 ⟨rfl, hb⟩; have HB := Aside0.mk (below_chain (w := w) (by repeat (first | exact HB.out | apply below_alloc | apply pw_below_drewN | apply below_drew1)) hb); clear hb)
      go_ret
      exact ⟨rfl, by repeat (first | exact HB.out | exact Below.refl _ _ | apply below_alloc | apply pw_below_drewN | apply below_drew1)⟩
end Go.Proofs.YtdmbboijcaelcaaDoor.Q
