-- Written by a program of this session (wip/xprint.py over the kit's printer).
import Derived.Test.YtenphfagdpkjaaaQ0
import Derived.Test.YtenphfagdpkjaaaQF92
import Derived.Test.YtenphfagdpkjaaaQF93
import Derived.Test.YtenphfagdpkjaaaQF99
import Derived.Test.YtenphfagdpkjaaaQP
namespace Go.Proofs.Ytenphfagdpkjaaa.Q
open Go.RowKit Go.Proofs.YtenphfagdpkjaaaW.PrintWords Go.Proofs.YtenphfagdpkjaaaW.PrintLast
set_option linter.unusedVariables false
set_option linter.unusedSimpArgs false

/-! ### impl_copyPhases: function 72 -/
/-- A phase of its own memory, or two bare cells. -/
def kx : Kd (S64 ⊕ List Value) where
  sz := 2
  E := k64.E
  K := fun w x cs => match x with | .inl p => k64.K w p cs | .inr vs => cs = vs ∧ cs.length = 2 ∧ ∀ u ∈ cs, u.oneCell' = true
  M := fun w base ok x cs => match x with | .inl p => k64.M w base ok p cs | .inr vs => cs = vs ∧ cs.length = 2 ∧ ∀ u ∈ cs, u.oneCell' = true
  K_len := by
    intro w x cs h
    cases x with
    | inl p => exact k64.K_len h
    | inr vs => exact h.2.1
  K_one := by
    intro w x cs h
    cases x with
    | inl p => exact k64.K_one h
    | inr vs => exact h.2.2
  K_below := by
    intro w w1 x cs hb h
    cases x with
    | inl p => exact k64.K_below hb h
    | inr vs => exact h
  K_of_M := by
    intro w base ok x cs h
    cases x with
    | inl p => exact k64.K_of_M h
    | inr vs => exact h
  M_mono := by
    intro w base ok ok' x cs hok h
    cases x with
    | inl p => exact k64.M_mono hok h
    | inr vs => exact h
  M_bound := by
    intro w base ok x cs h
    cases x with
    | inl p => exact k64.M_bound h
    | inr vs => exact h
  M_move := by
    intro w w1 base ok x cs hm h
    cases x with
    | inl p => exact k64.M_move hm h
    | inr vs => exact h
  M_lower := by
    intro w base base' ok x cs hb h
    cases x with
    | inl p => exact k64.M_lower hb h
    | inr vs => exact h
theorem kx_of_raw {e base : Nat} {w : World} {ok : Nat → Prop} {v : Value} {rows : List (List Value)} (h : Kd.R (Kd.raw 2) e w base ok v rows) : Kd.S kx e w base ok v (rows.map .inr) := by
  obtain ⟨h0, inner, ho, hr⟩ := h
  refine ⟨fun _ => 0, h0, inner, by rw [List.length_zipIdx, List.length_map]; exact ho, by rw [List.length_zipIdx, List.length_map]; exact hr.1, fun j p hj => ?_⟩
  rw [List.getElem?_zipIdx, Nat.zero_add, List.getElem?_map] at hj
  obtain ⟨x, hx, rfl⟩ := Option.map_eq_some_iff.1 hj
  obtain ⟨y, hy, rfl⟩ := Option.map_eq_some_iff.1 hx
  exact hr.2 j y hy
theorem kx_done {e base : Nat} {w : World} {ok : Nat → Prop} {v : Value} {l : List S64} (h : Kd.S kx e w base ok v (l.map .inl)) : Kd.S k64 e w base ok v l := by
  obtain ⟨f, h0, inner, ho, hr⟩ := h
  refine ⟨f, h0, inner, by rw [List.length_zipIdx, List.length_map] at ho; rw [List.length_zipIdx]; exact ho, by have := hr.1; rw [List.length_zipIdx, List.length_map] at this; rw [List.length_zipIdx]; exact this, fun j p hj => ?_⟩
  rw [List.getElem?_zipIdx, Nat.zero_add] at hj
  obtain ⟨x, hx, rfl⟩ := Option.map_eq_some_iff.1 hj
  exact hr.2 j (.inl x, j) (by rw [List.getElem?_zipIdx, Nat.zero_add, List.getElem?_map, hx]; rfl)
def cpDone (l : List S64) (rows : List (List Value)) (i : Nat) : List (S64 ⊕ List Value) := (l.take i).map .inl ++ (rows.drop i).map .inr
theorem cpDone_length {l : List S64} {rows : List (List Value)} (hl : rows.length = l.length) {i : Nat} (hi : i ≤ l.length) : (cpDone l rows i).length = l.length := by
  unfold cpDone
  simp only [List.length_append, List.length_map, List.length_take, List.length_drop]
  omega
theorem cpDone_get {l : List S64} {rows : List (List Value)} (hl : rows.length = l.length) {i : Nat} (hi : i < l.length) {c : List Value} (hc : rows[i]? = some c) (z : S64 ⊕ List Value) : (cpDone l rows i).getD i z = .inr c := by
  unfold cpDone
  rw [List.getD_eq_getElem?_getD, List.getElem?_append_right (by simp; omega)]
  simp only [List.length_map, List.length_take, Nat.min_eq_left (Nat.le_of_lt hi), Nat.sub_self, List.getElem?_map, List.getElem?_drop, Nat.add_zero, hc]
  rfl
theorem cpDone_set {l : List S64} {rows : List (List Value)} (hl : rows.length = l.length) {i : Nat} (hi : i < l.length) {p : S64} (hp : l[i]? = some p) : (cpDone l rows i).set i (.inl p) = cpDone l rows (i + 1) := by
  obtain ⟨_, rfl⟩ := List.getElem?_eq_some_iff.1 hp
  unfold cpDone
  rw [List.set_append_right _ _ (by simp; omega)]
  simp only [List.length_map, List.length_take, Nat.min_eq_left (Nat.le_of_lt hi), Nat.sub_self]
  rw [List.drop_eq_getElem_cons (show i < rows.length by omega), List.map_cons, List.set_cons_zero, List.take_succ_eq_append_getElem hi, List.map_append]
  simp
set_option maxHeartbeats 8000000 in
set_option maxRecDepth 100000 in
theorem impl_copyPhases.calls (A0 : Option Addr) (c0 : Nat) (l0 : List S64) (w : World) (hr0 : Kd.C k64 w A0 l0.length l0) (hc0 : l0.length ≤ c0) (hl : l0.length ≤ 1000000) (hm : ∀ p ∈ l0, p.f1.length ≤ 1000000) :
    Calls Try.prog 72 #[.slice A0 l0.length c0] w fun e w' => ∃ v0_ : Value, e = .returned v0_ ∧ Kd.S k64 64 w' w.heap.size (fun _ => True) v0_ l0 ∧ Below w.heap.size w w' := by
  obtain ⟨rows, hrl, hrC, hrK⟩ := C_rows hr0
  have HCL := Aside0.mk (fun (W : World) (hb : Below w.heap.size w W) => show Calls Try.prog 92 #[.slice A0 l0.length c0] W fun e w' => ∃ v0_ : Value, e = .returned v0_ ∧ Kd.R (Kd.raw 2) 64 w' W.heap.size (fun _ => True) v0_ rows ∧ Below W.heap.size W w' from by
    have h := impl_Phase_92.calls A0 c0 rows W (Kd.C_below hrC hb) (by rw [hrl]; exact hc0) (by rw [hrl]; omega)
    rw [hrl] at h
    exact h)
  have HRL := Aside0.mk hrl
  have HRK := Aside0.mk hrK
  have HM := Aside0.mk hm
  have HL := Aside0.mk hl
  have HB := Aside0.mk (Below.refl w.heap.size w)
  obtain ⟨n, hn⟩ : ∃ n, l0.length = n := ⟨_, rfl⟩
  rw [hn] at HCL HL HRL ⊢
  have HN := Aside0.mk hn
  clear hr0 hc0 hrl hrC hrK hm hl hn
  go_enter Try.func72, Try.ntmps72
  go_wp2_with (go_at_call 92; (refine (HCL.out _ (by repeat (first | exact HB.out | exact Below.refl _ _ | apply below_alloc | apply pw_below_drewN | apply below_drew1))).mono ?_); rintro e w1 ⟨v1, rfl, ho, hb⟩; have HO := Aside0.mk (show Kd.S kx 64 w1 w.heap.size (fun _ => True) v1 (cpDone l0 rows 0) from by have h := Kd.S_lower (kx_of_raw ho) HB.out.size; have e : cpDone l0 rows 0 = rows.map Sum.inr := (by simp [cpDone]); rw [e]; exact h); have HB := Aside0.mk (below_chain (w := w) HB.out hb); obtain ⟨A1, c1, e1⟩ := Kd.S_slice HO.out; rw [cpDone_length (by rw [HRL.out, HN.out]) (Nat.zero_le _), HN.out] at e1; subst e1; clear ho hb)
  clear HCL
  go_loopg [4, 9] n (fun gg _ s9 wr => ∃ i : Nat, i ≤ n ∧ n - i ≤ gg ∧ s9 = .int .i64 i ∧ Aside0 (Kd.S kx 64 wr w.heap.size (fun _ => True) (.slice A1 n c1) (cpDone l0 rows i)) ∧ Aside0 (Below w.heap.size w wr))
  case atStart => exact ⟨0, Nat.zero_le _, by omega, rfl, HO, HB⟩
  case round =>
    clear HO HB
    obtain ⟨i, hi, hgg, rfl, HO, HB⟩ := hrel
    by_cases hil : i < n
    · have hilz : (i : Int) < (n : Int) := by omega
      have hi0 : (0 : Int) ≤ (i : Int) := by omega
      have hlen : (cpDone l0 rows i).length = n := by rw [cpDone_length (by rw [HRL.out, HN.out]) (by rw [HN.out]; exact hi), HN.out]
      obtain ⟨g, cg, eg, hgb, hgl, _⟩ := Kd.S_form HO.out (by rw [hlen]; omega)
      injection eg with eg1 eg0 eg2
      subst eg1; subst eg2; clear eg0
      obtain ⟨p, hp⟩ : ∃ p, l0[i]? = some p := ⟨_, List.getElem?_eq_getElem (by rw [HN.out]; exact hil)⟩
      obtain ⟨c, hc, hK⟩ := HRK.out i p hp
      have HPM := Aside0.mk (HM.out p (List.mem_of_getElem? hp))
      obtain ⟨Ai, ci, rfl, hli, hCi⟩ := k64_open hK
      have HCi := Aside0.mk hCi
      have HLi := Aside0.mk hli
      have HGB := Aside0.mk hgb
      have hget := cpDone_get (by rw [HRL.out, HN.out]) (by rw [HN.out]; exact hil) hc (.inr [])
      have hset := cpDone_set (by rw [HRL.out, HN.out]) (by rw [HN.out]; exact hil) hp
      have HSET := Aside0.mk hset
      have HGET := Aside0.mk hget
      obtain ⟨_, ce, _, hM, hcc, hfr, _, _⟩ := Kd.S_elem HO.out (.inr []) (i : Int) hi0 hilz
      rw [Int.toNat_natCast, hget] at hM
      obtain ⟨rfl, _, _⟩ := hM
      have hx1 : wr.cell? ⟨g, (i : Int).toNat * 2 + 1, none⟩ = some (.slice Ai p.f1.length ci) := hcc 1 _ rfl
      clear hcc hfr hK hCi hli hgb hgl hc hp hget hset hlen
      simp only [Int.toNat_natCast] at hx1
      have HILZ := Aside0.mk hilz
      go_wp2_with (first | (go_at_call 93; (refine (slices_Clone_int_int.calls _ _ p.f1 p.f1 _ (Kd.C_below HCi.out (by repeat (first | exact HB.out | exact Below.refl _ _ | apply below_alloc | apply pw_below_drewN | apply below_drew1))) HLi.out (if_pos (by have := HPM.out; omega))).mono ?_); rintro e w5 ⟨v5, rfl, ho5, hb⟩; obtain ⟨A5, c5, rfl⟩ := Kd.R_slice ho5; have HX := Aside0.mk (show Kd.S kx 64 w5 w.heap.size (fun k => (fun _ => True) k ∧ ¬ (fun k => some k = (Value.slice A5 p.f1.length c5).ownBlock) k) (.slice (some ⟨g, 0, none⟩) n c1) (cpDone l0 rows i) from Kd.S_mono (Kd.S_elder' HO.out (Kd.R_base ho5) hb) (fun k hk => ⟨trivial, fun e => hk.2 e⟩)); obtain ⟨oki, ce, _, hM, hcc, hfr, _, hH⟩ := Kd.S_elem HX.out (.inr []) (i : Int) (by omega) HILZ.out; rw [Int.toNat_natCast, HGET.out] at hM; obtain ⟨rfl, _, _⟩ := hM; have HP := Kd.S_seg hH (by omega) HILZ.out (seg := [.slice A5 p.f1.length c5]) (j := 1) (show 2 ≤ 2 from by decide) (x' := .inl p) (k64_mkM w5 w.heap.size (fun k => some k = (Value.slice A5 p.f1.length c5).ownBlock) p (Kd.R_tight rfl (Kd.R_lower ho5 HB.out.size))) (fun _ hk => .inr hk) (fun k hk => ⟨trivial, fun e => by have h1 := Kd.R_base ho5 _ hk.symm; have h2 := Kd.S_lt HO.out g rfl; omega⟩); rw [Int.toNat_natCast, HSET.out] at HP; have HBn := Aside0.mk (below_chain HB.out hb); have hx5 : w5.cell? ⟨g, (i : Int).toNat * 2 + 1, none⟩ = some (.slice Ai p.f1.length ci) := hcc 1 _ rfl; have hf5 : w5.frozen? ⟨g, (i : Int).toNat * 2 + 1, none⟩ = false := hfr 1; simp only [Int.toNat_natCast] at hx5 hf5; have HPP := Aside0.mk HP; clear HP hcc hfr hH ho5 hb hx1 HX) | ((with_reducible refine gate_store (t := 45) (p := 21) rfl ?_); refine store_event (t := 45) (p := 21) (v := ?vo) (w1 := w5.setCell ⟨g, i * 2 + 1, none⟩ (.slice A5 p.f1.length c5)) ?hg ?ho ?hn ?hr ?_; (case ho => rfl); (case hg => rfl); (case hn => rfl); (case hr => first | (go_simp; done) | (go_simp; rfl)); intro w6 hw; have HO6 := Aside0.mk (show Kd.S kx 64 w6 w.heap.size (fun _ => True) (.slice (some ⟨g, 0, none⟩) n c1) (cpDone l0 rows (i + 1)) from by rw [hw]; exact HPP.out.1); have HB6 := Aside0.mk (show Below w.heap.size w w6 from by rw [hw]; exact below_set HBn.out HGB.out); clear hw hx5 hf5 HPP HBn))
      go_roundg (n - (i + 1))
      case measure => omega
      case rel => exact ⟨i + 1, by omega, by omega, by first | go_num | exact congrArg (Value.int .i64) (wrap_succ i (by have := HL.out; omega)), HO6, HB6⟩
    · obtain rfl : i = n := by omega
      have hilz : ¬ (i : Int) < (i : Int) := by omega
      have h := HO.out
      have e : cpDone l0 rows i = l0.map Sum.inl := by
        unfold cpDone
        rw [List.drop_eq_nil_of_le (by rw [HRL.out]; exact Nat.le_refl _), List.take_of_length_le (by rw [HN.out]; exact Nat.le_refl _)]
        simp
      rw [e] at h
      have HOF := Aside0.mk (kx_done h)
      clear h e HO
      go_wp2
      go_ret
      exact ⟨_, rfl, HOF.out, HB.out⟩

end Go.Proofs.Ytenphfagdpkjaaa.Q
