-- Written by a program of this session (wip/xprint.py over the kit's printer).
import Derived.Test.YtlbkoejpjpcgaaaQ0
import Derived.Test.YtlbkoejpjpcgaaaQF124
import Derived.Test.YtlbkoejpjpcgaaaQP
namespace Go.Proofs.Ytlbkoejpjpcgaaa.Q
open Go.RowKit Go.Proofs.YtlbkoejpjpcgaaaW.PrintWords Go.Proofs.YtlbkoejpjpcgaaaW.PrintLast
set_option linter.unusedVariables false
set_option linter.unusedSimpArgs false

/-! ### impl_Relation_97: function 97 -/
set_option maxHeartbeats 8000000 in
set_option maxRecDepth 100000 in
theorem impl_Relation_97.callsOn (g : Nat) (lb : Array Value) (eg : ∀ args w, (callFunc g args).run Try.prog w = .ok (.enter g args) w) (p : S100 → Bool) (v : Value) (xs : List S100) (base : Nat) (ok : Nat → Prop) (w : World) (HO : Kd.R k100 100 w base ok v xs) (hp : PredVon Try.prog g lb enc100 p v w xs) :
    Calls Try.prog 97 #[v, .func (.func g) #[] lb] w fun en w' => ∃ v1 : Value, en = .returned v1 ∧ Kd.R k100 100 w' base ok v1 (xs.filter fun x => !p x) ∧ w.grownBy w' v.ownBlock := by
  obtain ⟨A, c, rfl, hlc, hC⟩ := Kd.R_reads HO
  have hIF := impl_Relation_124.callsOn g lb eg p A c xs w hC hlc hp.predB
  have hbig : xs.length ≤ 9223372036854775807 := hC.2.1
  by_cases hall : idxI p xs = -1
  · rw [hall] at hIF
    have HF := Aside0.mk (show xs.filter (fun x => !p x) = xs from List.filter_eq_self.2 (fun x hx => by simpa using idxI_all p z100 xs hall x hx))
    have HO1 := Aside0.mk HO
    clear hall hC HO hp
    go_enter Try.func97, Try.ntmps97
    go_wp2_with (go_at_call 124; refine hIF.mono ?_; rintro e w' ⟨rfl, hb⟩)
    go_ret
    exact ⟨_, rfl, by rw [HF.out]; exact Kd.R_below HO1.out hb, grown_of_below hb _⟩
  · obtain ⟨k0, hk0, e0, hpk, hbef⟩ := idxI_found p z100 xs hall
    obtain ⟨g0, cap, hv, hcap, hbase, hg0, hok0⟩ := R_form HO (by omega)
    injection hv with hv1 hv2 hv3
    subst hv1; subst hv3
    rw [e0] at hIF
    have hne1 : ((k0 : Int) == -1) = false := beq_eq_false_iff_ne.2 (by omega)
    have KI := Aside0.mk (KInv.start hk0 hpk hbef)
    have HO1 := Aside0.mk HO
    have HP := Aside0.mk hp
    clear hall hC HO hp e0 hpk hbef
    have hj0 : (0:Int) ≤ (k0 : Int) := by omega
    go_enter Try.func97, Try.ntmps97
    go_wp2_with (go_at_call 124; refine hIF.mono ?_; rintro e w1 ⟨rfl, hb1⟩)
    have HB1 := Aside0.mk hb1
    clear hb1 hIF
    go_loopg [5, 6, 7] xs.length (fun gg s5 s6 _ wr => ∃ (i j : Nat) (ys : List S100), s5 = .int .i64 i ∧ s6 = .int .i64 j ∧ i < j ∧ j ≤ xs.length ∧ xs.length - j ≤ gg ∧ Aside0 (KInv p xs ys i j) ∧ Aside0 (Kd.R k100 100 wr base ok (.slice (some ⟨g0, 0, none⟩) xs.length c) ys) ∧ Aside0 (w.grownBy wr (some g0)))
    case atStart => exact ⟨k0, k0 + 1, xs, rfl, by go_num, by omega, by omega, by omega, KI, ⟨Kd.R_below HO1.out HB1.out⟩, ⟨grown_of_below HB1.out _⟩⟩
    case round =>
      obtain ⟨i, j, ys, rfl, rfl, hij, hjn, hgg, KJ, HR, HG⟩ := hrel
      have hys : ys.length = xs.length := KJ.out.len
      by_cases hlt : j < xs.length
      · have hltz : (j : Int) < (xs.length : Int) := by omega
        have hCy := (Kd.R_reads' HR.out).2.2

        obtain ⟨ad, e1, hx0, hx1⟩ := at_T100 hCy (j : Int) (by omega) (by omega)
        cases e1
        have e2 : rd_T100 ys (j : Int) = xs.getD j z100 := by rw [← KJ.out.get z100]; simp [rd_T100]
        rw [e2] at hx0 hx1
        clear e2 hCy
        simp only [Int.toNat_natCast, add_plain] at hx0 hx1
        obtain ⟨cs, hcl, hM, hcc, hcf⟩ := Kd.R_elem HR.out z100 (i : Int) (by omega) (by omega)
        obtain rfl := k100_openM hM
        have ci0 : wr.cell? ⟨g0, i * 2, none⟩ = some (.int .i64 (ys.getD (i : Int).toNat z100).f0) := by have := hcc 0 _ rfl; simpa only [Int.toNat_natCast, show (k100).sz = 2 from rfl, Nat.add_zero] using this
        have ci1 : wr.cell? ⟨g0, i * 2 + 1, none⟩ = some (.int .i64 (ys.getD (i : Int).toNat z100).f1) := by have := hcc 1 _ rfl; simpa only [Int.toNat_natCast, show (k100).sz = 2 from rfl, Nat.add_zero] using this
        have cf0 : wr.frozen? ⟨g0, i * 2, none⟩ = false := by have := hcf 0; simpa only [Int.toNat_natCast, show (k100).sz = 2 from rfl, Nat.add_zero] using this
        have cf1 : wr.frozen? ⟨g0, i * 2 + 1, none⟩ = false := by have := hcf 1; simpa only [Int.toNat_natCast, show (k100).sz = 2 from rfl, Nat.add_zero] using this
        generalize ys.getD (i : Int).toNat z100 = yo at ci0 ci1
        clear hcc hcf hM hcl hv2
        have hg0w : w.heap.size ≤ wr.heap.size := HG.out.size
        have hgz : g0 < wr.heap.size := by omega
        have hmem : xs.getD j z100 ∈ xs := by rw [List.getD_eq_getElem?_getD, List.getElem?_eq_getElem hlt]; exact List.getElem_mem hlt
        generalize hy : xs.getD j z100 = y at hx0 hx1 hmem
        have HY := Aside0.mk hy
        clear hy
        have hcall := fun (W : World) (hW : w.grownBy W (some g0)) => HP.out W y hmem hW
        clear hmem
        unfold enc100 at hcall
        cases hq : p y with
        | true =>
          have HQ := Aside0.mk hq
          rw [hq] at hcall
          have HC := Aside0.mk hcall
          clear hq hcall
          go_wp2_with (go_at_fn g; refine (HC.out _ ?hw).mono ?_; (case hw => repeat (first | exact HG.out | apply grown_alloc | apply grown_drew | (refine grown_set ?_ (by simp; omega) _ _))); rintro e w' ⟨rfl, hb'⟩)
          go_roundg (xs.length - (j + 1))
          case measure => omega
          case rel =>
            refine ⟨i, j + 1, ys, rfl, by go_num, by omega, by omega, by omega, ⟨KJ.out.skip hlt (by rw [HY.out]; exact HQ.out)⟩, ⟨Kd.R_grown HR.out (row := none) (grown_below ?hv hb') (by simp)⟩, ⟨grown_below ?hw hb'⟩⟩
            case hv => repeat (first | exact grown_refl _ _ | apply grown_alloc | apply grown_drew | (refine grown_set ?_ (by simp) _ _))
            case hw => repeat (first | exact HG.out | apply grown_alloc | apply grown_drew | (refine grown_set ?_ (by simp; omega) _ _))
        | false =>
          have HQ := Aside0.mk hq
          rw [hq] at hcall
          have HC := Aside0.mk hcall
          clear hq hcall
          go_wp2_with (go_at_fn g; refine (HC.out _ ?hw).mono ?_; (case hw => repeat (first | exact HG.out | apply grown_alloc | apply grown_drew | (refine grown_set ?_ (by simp; omega) _ _))); rintro e w' ⟨rfl, hb'⟩; obtain ⟨hbc, hbf⟩ := bcell hb'; have HB2 := Aside0.mk hb'; clear hb')
          clear hbc hbf
          have HRw : Kd.R k100 100 w' base ok (.slice (some ⟨g0, 0, none⟩) xs.length c) ys := Kd.R_grown HR.out (row := none) (grown_below (by repeat (first | exact grown_refl _ _ | apply grown_alloc | apply grown_drew | (refine grown_set ?_ (by simp) _ _))) HB2.out) (by simp)
          have HGw : w.grownBy w' (some g0) := grown_below (by repeat (first | exact HG.out | apply grown_alloc | apply grown_drew | (refine grown_set ?_ (by simp; omega) _ _))) HB2.out
          obtain ⟨cs, hcl, _, hcc, _⟩ := Kd.R_elem HRw z100 (i : Int) (by omega) (by omega)
          have hcl2 : cs.length = 2 := hcl
          obtain ⟨hR3, hG3⟩ := Kd.R_seg HRw (i : Int) (by omega) (by omega) hcl hcc (seg := [.int .i64 y.f0, .int .i64 y.f1]) (j := 0) (by simp [hcl2, ← hcl]) (x' := y) (okp := fun _ => False) (by rw [List.take_zero, List.nil_append, Nat.zero_add, List.drop_of_length_le (by simp [hcl2])]; exact k100_mkM _ _ _ y) (fun _ h => h.elim)
          rw [show w'.setCells g0 ((i : Int).toNat * (k100).sz + 0) [.int .i64 y.f0, .int .i64 y.f1] = ((w'.setCell ⟨g0, i * 2, none⟩ (.int .i64 y.f0)).setCell ⟨g0, i * 2 + 1, none⟩ (.int .i64 y.f1)) from by simp [World.setCells, show (k100).sz = 2 from rfl]] at hR3 hG3
          have HK := Aside0.mk (KJ.out.keep (d := z100) hlt (by rw [HY.out]; exact HQ.out))
          rw [HY.out] at HK
          simp only [Int.toNat_natCast] at hR3
          clear HRw hcc hcl hcl2
          go_roundg (xs.length - (j + 1))
          case measure => omega
          case rel => exact ⟨i + 1, j + 1, ys.set i y, by go_num, by go_num, by omega, by omega, by omega, HK, ⟨hR3⟩, ⟨grown_trans HGw hG3⟩⟩
      · have hltz : ¬ (j : Int) < (xs.length : Int) := by omega
        obtain rfl : j = xs.length := by omega
        obtain ⟨i0, hi0, hz0, hz1, hz2⟩ := info_parts info100
        have hcut := cut_from (P := Try.prog) 31 100 .i64 Try.underlying31 hi0 2 hz1 (some ⟨g0, 0, none⟩) xs.length c (i : Int) (by omega) (by omega)
        have hcut2 := cut_to (P := Try.prog) 31 100 .i64 Try.underlying31 hi0 (some ⟨g0, 0, none⟩) xs.length c (i : Int) (by omega) (by omega) hcap
        simp only [Int.toNat_natCast] at hcut hcut2
        rw [if_neg (show ¬ c = i by omega)] at hcut
        simp only [Option.map_some, add_plain] at hcut
        obtain ⟨W', hclr, HR', HG'⟩ := R_cleared k100 HR.out 31 0 (.agg #[(.int .i64 0), (.int .i64 0)]) 16 Try.underlying31 info100 rfl (by simp [Value.cells, Value.oneCell']) i (by omega) (c - i) (some ⟨g0, i * 2, none⟩) (fun _ => rfl)
        have HRr := Aside0.mk HR'
        have HGr := Aside0.mk HG'
        clear HR' HG' hi0 hz0 hz1 hz2
        go_wp2
        go_ret
        exact ⟨_, rfl, by rw [← KJ.out.done]; exact HRr.out, grown_trans HG.out HGr.out⟩
theorem impl_Relation_97.calls (g : Nat) (lb : Array Value) (eg : ∀ args w, (callFunc g args).run Try.prog w = .ok (.enter g args) w) (p : S100 → Bool) (v : Value) (xs : List S100) (base : Nat) (ok : Nat → Prop) (w : World) (HO : Kd.R k100 100 w base ok v xs) (hp : PredV Try.prog g lb enc100 p v w) :
    Calls Try.prog 97 #[v, .func (.func g) #[] lb] w fun en w' => ∃ v1 : Value, en = .returned v1 ∧ Kd.R k100 100 w' base ok v1 (xs.filter fun x => !p x) ∧ w.grownBy w' v.ownBlock :=
  impl_Relation_97.callsOn g lb eg p v xs base ok w HO (fun W x _ hb => hp W x hb)

end Go.Proofs.Ytlbkoejpjpcgaaa.Q
