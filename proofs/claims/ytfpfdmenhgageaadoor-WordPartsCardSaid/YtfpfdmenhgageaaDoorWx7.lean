-- Written by this session's program (wip/ext) with the kit's printer. Not trusted: Lean checks it.
import Derived.Test.YtfpfdmenhgageaaDoorWx0
import Derived.Test.YtfpfdmenhgageaaDoorWx1
import Derived.Test.YtfpfdmenhgageaaDoorWx3
import Derived.Test.YtfpfdmenhgageaaDoorWx4
import Derived.Test.YtfpfdmenhgageaaDoorWx5
import Derived.Test.YtfpfdmenhgageaaDoorWx6
namespace Go.Proofs.YtfpfdmenhgageaaDoor.W
open Go.RowKit Go.Proofs.YtfpfdmenhgageaaDoorW.PrintWords Go.Proofs.YtfpfdmenhgageaaDoorW.PrintLast Go.Proofs.YtfpfdmenhgageaaDoorW.PrintMore
attribute [local go_sem] max2_int min2_int max_two min_two max_three min_three max_four min_four   -- for this text's walks alone
set_option linter.unusedVariables false
set_option linter.unusedSimpArgs false

/-! ### cognatelaw03_awake: function 20 -/
def cognatelaw03_awake.f (k : Nat)  : Option (Bool) := (cognatelaw03_abc.f).bind fun bt119 => ((word_Turned.f k bt119.1 bt119.2 (⟨#[97, 98, 99]⟩ : ByteArray)).bind fun bt125 => (if bt125.2 = 0 then (some (bt125.1.toList == ([99, 98, 97] : List UInt8))) else (some false)))
theorem cognatelaw03_awake.mono : ∀ k, LeO (cognatelaw03_awake.f k ) (cognatelaw03_awake.f (k + 1) ) := by
  intro  k
  unfold cognatelaw03_awake.f
  repeat' first
      | (with_reducible exact word_Turned.mono _ _ _ _)
      | (with_reducible exact LeO.refl _)
      | (with_reducible exact LeO.none _)
      | (with_reducible refine LeO.ite ?_ ?_)
      | (with_reducible refine LeO.bind ?_ (fun _ => ?_))
      | exact word_Turned.mono _ _ _ _
      | exact LeO.none _
      | refine LeO.ite ?_ ?_
      | refine LeO.bind ?_ (fun _ => ?_)
set_option maxHeartbeats 8000000 in
set_option maxRecDepth 100000 in
theorem cognatelaw03_awake.calls (k : Nat)  (r : Bool) (w : World) (hG : GLaid w) (h : cognatelaw03_awake.f k  = some r) :
    Calls Tryd.prog 20 #[] w fun e w' => e = .returned (.bool r) ∧ Below w.heap.size w w' := by
  have HG := Aside0.mk hG
  clear hG
  have HB := Aside0.mk (Below.refl w.heap.size w)
  have H : ((cognatelaw03_abc.f).bind fun bt119 => ((word_Turned.f k bt119.1 bt119.2 (⟨#[97, 98, 99]⟩ : ByteArray)).bind fun bt125 => (if bt125.2 = 0 then (some (bt125.1.toList == ([99, 98, 97] : List UInt8))) else (some false)))) = some r := h
  clear h
  replace H := Option.bind_eq_some_iff.mp H
  obtain ⟨⟨t119, t122⟩, A10, H⟩ := H
  replace H : ((word_Turned.f k t119 t122 (⟨#[97, 98, 99]⟩ : ByteArray)).bind fun bt125 => (if bt125.2 = 0 then (some (bt125.1.toList == ([99, 98, 97] : List UInt8))) else (some false))) = some r := H
  have A1 := Aside0.mk A10
  clear A10
  replace H := Option.bind_eq_some_iff.mp H
  obtain ⟨⟨t125, t126⟩, A20, H⟩ := H
  replace H : (if t126 = 0 then (some (t125.toList == ([99, 98, 97] : List UInt8))) else (some false)) = some r := H
  have A2 := Aside0.mk A20
  clear A20
  by_cases c3 : t126 = 0
  · rw [if_pos c3] at H
    have c3b0 : (t126 == 0) = true := beq_iff_eq.mpr c3
    have c3b1 : (t126 != 0) = false := bne_eq_false_iff_eq.mpr c3
    clear c3
    obtain rfl := Option.some.inj H
    go_enter Tryd.func20, Tryd.ntmps20
    go_wp2_with (first | ((with_reducible refine gate_callee (f := 68) rfl ?_); refine goesL_ (some 4) rfl rfl Tryd.func68 (by kernel_rfl) rfl #[] rfl (by (try simp only [List.map_toArray, List.map_cons, List.map_nil]); first | done | rfl | (simp only [List.length_drop, List.length_take]; rfl)) ?_; (with_reducible refine (cognatelaw03_abc.calls  t119 t122 _ A1.out).mono ?_); rintro e w4 ⟨v120, v123, rfl, ho0, ho1, hb⟩; refine ⟨_, rfl, ?_⟩; have n0_ := Aside0.mk (Kd.R_lower ho0 (below_size (by repeat (first | (with_reducible first | exact HB.out | apply below_alloc | apply pw_below_drewN | apply below_drew1) | exact HB.out)))); have n1_ := Aside0.mk (Kd.R_lower ho1 (below_size (by repeat (first | (with_reducible first | exact HB.out | apply below_alloc | apply pw_below_drewN | apply below_drew1) | exact HB.out)))); have n2_ := Aside0.mk (below_step (by repeat (first | (with_reducible first | exact HB.out | apply below_alloc | apply pw_below_drewN | apply below_drew1) | exact HB.out)) hb); clear HB; have HO121 := n0_; have HO124 := n1_; have HB := n2_; clear n0_ n1_ n2_; (try clear hb); (try clear hb2); (try clear hk); (try clear hi); (try clear ho0); (try clear ho1); obtain ⟨Ao5, co5, eo5⟩ := Kd.R_slice HO121.out; subst eo5; obtain ⟨Ao6, co6, eo6⟩ := Kd.R_slice HO124.out; subst eo6) | ((with_reducible refine gate_callee (f := 27) rfl ?_); refine goesL_ (some 5) rfl rfl Tryd.func27 (by kernel_rfl) rfl #[.agg #[.slice Ao5 t119.length co5, .slice Ao6 t122.length co6], .string (⟨#[97, 98, 99]⟩ : ByteArray)] rfl (by (try simp only [List.map_toArray, List.map_cons, List.map_nil]); first | done | rfl | (simp only [List.length_drop, List.length_take]; rfl)) ?_; (with_reducible refine (word_Turned.calls k _ _ t119 _ _ t122 (⟨#[97, 98, 99]⟩ : ByteArray) t125 t126 _ ?side1 ?side2 ?side3 ?side4 ?side5 A2.out).mono ?_); (case side1 => repeat (first | exact (Kd.R_reads' HO121.out).2.2 | (with_reducible refine Kd.C_alloc ?_ _) | (with_reducible refine Kd.C_drewN ?_ _) | (with_reducible refine Kd.C_drew ?_))); (case side2 => exact (Kd.R_reads' HO121.out).2.1); (case side3 => repeat (first | exact (Kd.R_reads' HO124.out).2.2 | (with_reducible refine Kd.C_alloc ?_ _) | (with_reducible refine Kd.C_drewN ?_ _) | (with_reducible refine Kd.C_drew ?_))); (case side4 => exact (Kd.R_reads' HO124.out).2.1); (case side5 => exact GLaid.below_ HG.out (by repeat (first | (with_reducible first | exact HB.out | apply below_alloc | apply pw_below_drewN | apply below_drew1) | exact HB.out))); rintro e w7 ⟨rfl, hb⟩; refine ⟨_, rfl, ?_⟩; have n0_ := Aside0.mk (Kd.R_below (by (with_reducible repeat (first | apply Kd.R_alloc | apply Kd.R_drewN | apply Kd.R_drew)); exact HO121.out) hb); have n1_ := Aside0.mk (Kd.R_below (by (with_reducible repeat (first | apply Kd.R_alloc | apply Kd.R_drewN | apply Kd.R_drew)); exact HO124.out) hb); have n2_ := Aside0.mk (below_step (by repeat (first | (with_reducible first | exact HB.out | apply below_alloc | apply pw_below_drewN | apply below_drew1) | exact HB.out)) hb); clear HO121; clear HO124; clear HB; have HO121 := n0_; have HO124 := n1_; have HB := n2_; clear n0_ n1_ n2_; (try clear hb); (try clear hb2); (try clear hk); (try clear hi)))
    go_ret
    exact ⟨by first | rfl | (simp [errW_none, errW_some] <;> rfl) | (simp [*, errW_none, errW_some] <;> rfl), by repeat (first | (with_reducible first | exact HB.out | apply below_alloc | apply pw_below_drewN | apply below_drew1) | exact HB.out)⟩
  · rw [if_neg c3] at H
    have c3b0 : (t126 == 0) = false := beq_eq_false_iff_ne.mpr c3
    have c3b1 : (t126 != 0) = true := bne_iff_ne.mpr c3
    obtain rfl := Option.some.inj H
    go_enter Tryd.func20, Tryd.ntmps20
    go_wp2_with (first | ((with_reducible refine gate_callee (f := 68) rfl ?_); refine goesL_ (some 4) rfl rfl Tryd.func68 (by kernel_rfl) rfl #[] rfl (by (try simp only [List.map_toArray, List.map_cons, List.map_nil]); first | done | rfl | (simp only [List.length_drop, List.length_take]; rfl)) ?_; (with_reducible refine (cognatelaw03_abc.calls  t119 t122 _ A1.out).mono ?_); rintro e w8 ⟨v120, v123, rfl, ho0, ho1, hb⟩; refine ⟨_, rfl, ?_⟩; have n0_ := Aside0.mk (Kd.R_lower ho0 (below_size (by repeat (first | (with_reducible first | exact HB.out | apply below_alloc | apply pw_below_drewN | apply below_drew1) | exact HB.out)))); have n1_ := Aside0.mk (Kd.R_lower ho1 (below_size (by repeat (first | (with_reducible first | exact HB.out | apply below_alloc | apply pw_below_drewN | apply below_drew1) | exact HB.out)))); have n2_ := Aside0.mk (below_step (by repeat (first | (with_reducible first | exact HB.out | apply below_alloc | apply pw_below_drewN | apply below_drew1) | exact HB.out)) hb); clear HB; have HO121 := n0_; have HO124 := n1_; have HB := n2_; clear n0_ n1_ n2_; (try clear hb); (try clear hb2); (try clear hk); (try clear hi); (try clear ho0); (try clear ho1); obtain ⟨Ao9, co9, eo9⟩ := Kd.R_slice HO121.out; subst eo9; obtain ⟨Ao10, co10, eo10⟩ := Kd.R_slice HO124.out; subst eo10) | ((with_reducible refine gate_callee (f := 27) rfl ?_); refine goesL_ (some 5) rfl rfl Tryd.func27 (by kernel_rfl) rfl #[.agg #[.slice Ao9 t119.length co9, .slice Ao10 t122.length co10], .string (⟨#[97, 98, 99]⟩ : ByteArray)] rfl (by (try simp only [List.map_toArray, List.map_cons, List.map_nil]); first | done | rfl | (simp only [List.length_drop, List.length_take]; rfl)) ?_; (with_reducible refine (word_Turned.calls k _ _ t119 _ _ t122 (⟨#[97, 98, 99]⟩ : ByteArray) t125 t126 _ ?side1 ?side2 ?side3 ?side4 ?side5 A2.out).mono ?_); (case side1 => repeat (first | exact (Kd.R_reads' HO121.out).2.2 | (with_reducible refine Kd.C_alloc ?_ _) | (with_reducible refine Kd.C_drewN ?_ _) | (with_reducible refine Kd.C_drew ?_))); (case side2 => exact (Kd.R_reads' HO121.out).2.1); (case side3 => repeat (first | exact (Kd.R_reads' HO124.out).2.2 | (with_reducible refine Kd.C_alloc ?_ _) | (with_reducible refine Kd.C_drewN ?_ _) | (with_reducible refine Kd.C_drew ?_))); (case side4 => exact (Kd.R_reads' HO124.out).2.1); (case side5 => exact GLaid.below_ HG.out (by repeat (first | (with_reducible first | exact HB.out | apply below_alloc | apply pw_below_drewN | apply below_drew1) | exact HB.out))); rintro e w11 ⟨rfl, hb⟩; refine ⟨_, rfl, ?_⟩; have n0_ := Aside0.mk (Kd.R_below (by (with_reducible repeat (first | apply Kd.R_alloc | apply Kd.R_drewN | apply Kd.R_drew)); exact HO121.out) hb); have n1_ := Aside0.mk (Kd.R_below (by (with_reducible repeat (first | apply Kd.R_alloc | apply Kd.R_drewN | apply Kd.R_drew)); exact HO124.out) hb); have n2_ := Aside0.mk (below_step (by repeat (first | (with_reducible first | exact HB.out | apply below_alloc | apply pw_below_drewN | apply below_drew1) | exact HB.out)) hb); clear HO121; clear HO124; clear HB; have HO121 := n0_; have HO124 := n1_; have HB := n2_; clear n0_ n1_ n2_; (try clear hb); (try clear hb2); (try clear hk); (try clear hi)))
    go_ret
    exact ⟨by first | rfl | (simp [errW_none, errW_some] <;> rfl) | (simp [*, errW_none, errW_some] <;> rfl), by repeat (first | (with_reducible first | exact HB.out | apply below_alloc | apply pw_below_drewN | apply below_drew1) | exact HB.out)⟩

/-! ### word_Text: function 23 (by hand) -/
def word_Text.f (l0_0 : List ByteArray) (l0_1 : List (S118)) (l1 : List Int) : Option (ByteArray × Int) := if (fitsS l0_0 && fitsR l1) = true then some (textB l0_0 l0_1 l1) else none
set_option maxHeartbeats 4000000 in
set_option maxRecDepth 100000 in
theorem word_Text.calls (A0_0 : Option Addr) (c0_0 : Nat) (l0_0 : List ByteArray) (A0_1 : Option Addr) (c0_1 : Nat) (l0_1 : List (S118)) (A1 : Option Addr) (c1 : Nat) (l1 : List Int) (r1 : ByteArray) (r2 : Int) (w : World) (hr0_0 : Kd.C Kd.string w A0_0 l0_0.length l0_0) (hc0_0 : l0_0.length ≤ c0_0) (hr0_1 : Kd.C k118 w A0_1 l0_1.length l0_1) (hc0_1 : l0_1.length ≤ c0_1) (hr1 : Kd.C (Kd.int .i32) w A1 l1.length l1) (hc1 : l1.length ≤ c1) (h : word_Text.f l0_0 l0_1 l1 = some (r1, r2)) :
    Calls Tryd.prog 23 #[.agg #[.slice A0_0 l0_0.length c0_0, .slice A0_1 l0_1.length c0_1], .slice A1 l1.length c1] w fun e w' => e = .returned (.tuple #[.string r1, .int .i64 r2]) ∧ Below w.heap.size w w' := by
  unfold word_Text.f at h
  split at h
  case isFalse => cases h
  rename_i hfit
  simp only [Bool.and_eq_true] at hfit
  replace h := Option.some.inj h
  have HFIT := Aside0.mk hfit.1
  have HFR := Aside0.mk hfit.2
  have HR2 := Aside0.mk hr1
  have HC2 := Aside0.mk hc1
  clear hfit hr1 hc1
  have HR0 := Aside0.mk hr0_0
  have HR1 := Aside0.mk hr0_1
  have HC0 := Aside0.mk hc0_0
  have HC1 := Aside0.mk hc0_1
  clear hr0_0 hr0_1 hc0_0 hc0_1
  have hu := Tryd.underlying38
  unfold textB at h
  cases hal : alphaB l0_0 l0_1 with
  | false =>
    have HAL := Aside0.mk hal
    rw [hal] at h
    obtain ⟨rfl, rfl⟩ := Prod.mk.inj h
    clear h hal
    go_enter Tryd.func23, Tryd.ntmps23
    go_wp2_with (first | ((with_reducible refine gate_dst (N := 2) rfl ?_); refine box_event ?hg (N := 2) ?hd (cs := #[.slice A0_0 l0_0.length c0_0, .slice A0_1 l0_1.length c0_1]) (t := 38) ?hr ?_; (case hd => rfl); (case hg => rfl); (case hr => first | (go_simp; done) | (go_simp; rfl)); intro gb hg w3 hbox hb; have HB := Aside0.mk hb; clear hb; have hcz0 : w3.cell? ⟨gb, 0, none⟩ = some (.slice A0_0 l0_0.length c0_0) := (blk_cell hbox 0).trans rfl; have hcz1 : w3.cell? ⟨gb, 1, none⟩ = some (.slice A0_1 l0_1.length c0_1) := (blk_cell hbox 1).trans rfl; clear hbox hg) | (go_at_call 69; refine (word_ranks.no A0_0 c0_0 l0_0 A0_1 c0_1 l0_1 _ (Kd.C_below HR0.out HB.out) HC0.out (Kd.C_below HR1.out HB.out) HC1.out HFIT.out HAL.out).mono ?_; rintro e w4 ⟨rfl, hb4⟩; have HB4 := Aside0.mk (below_step HB.out hb4); clear hb4))
    go_ret2
    exact ⟨rfl, HB4.out⟩
  | true =>
    have HAL := Aside0.mk hal
    rw [hal] at h
    simp only [Bool.true_eq_false, if_false] at h
    by_cases hl : l1.length > 256
    · have b1 : decide ((256 : Int) < (l1.length : Int)) = true := decide_eq_true (by omega)
      rw [if_pos hl] at h
      obtain ⟨rfl, rfl⟩ := Prod.mk.inj h
      clear h hal hl
      go_enter Tryd.func23, Tryd.ntmps23
      go_wp2_with (first | ((with_reducible refine gate_dst (N := 2) rfl ?_); refine box_event ?hg (N := 2) ?hd (cs := #[.slice A0_0 l0_0.length c0_0, .slice A0_1 l0_1.length c0_1]) (t := 38) ?hr ?_; (case hd => rfl); (case hg => rfl); (case hr => first | (go_simp; done) | (go_simp; rfl)); intro gb hg w3 hbox hb; have HB := Aside0.mk hb; clear hb; have hcz0 : w3.cell? ⟨gb, 0, none⟩ = some (.slice A0_0 l0_0.length c0_0) := (blk_cell hbox 0).trans rfl; have hcz1 : w3.cell? ⟨gb, 1, none⟩ = some (.slice A0_1 l0_1.length c0_1) := (blk_cell hbox 1).trans rfl; clear hbox hg) | (go_at_call 69; refine (word_ranks.yes A0_0 c0_0 l0_0 A0_1 c0_1 l0_1 _ (Kd.C_below HR0.out HB.out) HC0.out (Kd.C_below HR1.out HB.out) HC1.out HFIT.out HAL.out).mono ?_; rintro e w4 ⟨bm, m, rfl, hbm, hM4, hRK, hb4⟩; have HB4 := Aside0.mk (below_step HB.out hb4); have HM4 := Aside0.mk hM4; have HRK := Aside0.mk hRK; clear hb4 hM4 hRK hbm))
      go_ret2
      exact ⟨rfl, HB4.out⟩
    · have b1 : decide ((256 : Int) < (l1.length : Int)) = false := decide_eq_false (by omega)
      rw [if_neg hl] at h
      have HLL : Aside0 (l1.length ≤ 256) := ⟨by omega⟩
      have HN : Aside0 ((l1.all fun r => (rankOf l0_1 r).isSome) = false → r1 = ⟨#[]⟩ ∧ r2 = 5) := ⟨fun e => by rw [e] at h; exact (Prod.mk.inj h).imp Eq.symm Eq.symm⟩
      have HY : Aside0 ((l1.all fun r => (rankOf l0_1 r).isSome) = true → r1 = runesBytes l1 ∧ r2 = 0) := ⟨fun e => by rw [e] at h; exact (Prod.mk.inj h).imp Eq.symm Eq.symm⟩
      clear h hal hl
      go_enter Tryd.func23, Tryd.ntmps23
      go_wp2_with (first | ((with_reducible refine gate_dst (N := 2) rfl ?_); refine box_event ?hg (N := 2) ?hd (cs := #[.slice A0_0 l0_0.length c0_0, .slice A0_1 l0_1.length c0_1]) (t := 38) ?hr ?_; (case hd => rfl); (case hg => rfl); (case hr => first | (go_simp; done) | (go_simp; rfl)); intro gb hg w3 hbox hb; have HB := Aside0.mk hb; clear hb; have hcz0 : w3.cell? ⟨gb, 0, none⟩ = some (.slice A0_0 l0_0.length c0_0) := (blk_cell hbox 0).trans rfl; have hcz1 : w3.cell? ⟨gb, 1, none⟩ = some (.slice A0_1 l0_1.length c0_1) := (blk_cell hbox 1).trans rfl; clear hbox hg) | (go_at_call 69; refine (word_ranks.yes A0_0 c0_0 l0_0 A0_1 c0_1 l0_1 _ (Kd.C_below HR0.out HB.out) HC0.out (Kd.C_below HR1.out HB.out) HC1.out HFIT.out HAL.out).mono ?_; rintro e w4 ⟨bm, m, rfl, hbm, hM4, hRK, hb4⟩; have HB4 := Aside0.mk (below_step HB.out hb4); have HM4 := Aside0.mk hM4; have HRK := Aside0.mk hRK; clear hb4 hM4 hRK hbm))
      go_loopg [25] l1.length (fun kq v25 w' => ∃ (k : Nat), v25 = .int .i64 (k : Int) ∧ Aside0 (k + kq = l1.length ∧ (l1.all fun r => (rankOf l0_1 r).isSome) = ((l1.drop k).all fun r => (rankOf l0_1 r).isSome)) ∧ Aside0 (Below w4.heap.size w4 w'))
      case atStart => exact ⟨0, rfl, ⟨by omega, rfl⟩, ⟨Below.refl _ _⟩⟩
      case round =>
        obtain ⟨k, rfl, HI, HBR⟩ := hrel
        have hb2 := below_step HB4.out HBR.out
        by_cases hlt : k < l1.length
        · have b4 : decide ((k : Int) < (l1.length : Int)) = true := decide_eq_true (by omega)
          obtain ⟨ad, e0, hx⟩ := (Kd.reads_of_C (enc := Value.int .i32) (d := (0 : Int)) (h1 := fun _ => rfl) HR2.out).at_ (k : Int) (by omega) (by omega)
          obtain rfl := e0
          replace hx := pw_cell_below hb2 hx
          have hd : l1.drop k = rdOf (0 : Int) l1 (k : Int) :: l1.drop (k + 1) := by rw [List.drop_eq_getElem_cons hlt]; simp [rdOf, List.getD_eq_getElem?_getD, List.getElem?_eq_getElem hlt]
          have hmem : rdOf (0 : Int) l1 (k : Int) ∈ l1 := by simp [rdOf, List.getD_eq_getElem?_getD, List.getElem?_eq_getElem hlt]
          generalize rdOf (0 : Int) l1 (k : Int) = f0 at hx hd hmem
          simp only [Int.toNat_natCast] at hx
          have HWF : Aside0 ((Lit.int .i32 f0).wf = true) := ⟨List.all_eq_true.1 HFR.out _ hmem⟩
          have HMR := Aside0.mk (HM4.out.below HBR.out)
          have HE : Aside0 ((l1.all fun r => (rankOf l0_1 r).isSome) = ((rankOf l0_1 f0).isSome && ((l1.drop (k + 1)).all fun r => (rankOf l0_1 r).isSome))) := ⟨by rw [HI.out.2, hd]; rfl⟩
          have HB6 := Aside0.mk hb2
          clear hd hmem hb2
          cases hg : (rankOf l0_1 f0).isSome with
          | false =>
            have HGET : Aside0 ((m f0).isSome = false) := ⟨by rw [HRK.out f0, Option.isSome_map]; exact hg⟩
            obtain ⟨rfl, rfl⟩ := HN.out (by rw [HE.out, hg]; rfl)
            clear hg
            go_wp2_with (at_lookup; refine YtfpfdmenhgageaaDoorMp.wp_look_ok _ rfl _ _ _ rfl (YtfpfdmenhgageaaDoorMp.intKey Tryd.underlying21) (YtfpfdmenhgageaaDoorMp.intElem Tryd.underlying3) Tryd.underlying100 0 (by kernel_rfl) rfl bm _ m rfl HMR.out f0 rfl HWF.out ?_; rw [show (m f0).isSome = false from HGET.out])
            go_ret2
            exact ⟨rfl, HB6.out⟩
          | true =>
            have HGET : Aside0 ((m f0).isSome = true) := ⟨by rw [HRK.out f0, Option.isSome_map]; exact hg⟩
            have HE2 : Aside0 ((l1.all fun r => (rankOf l0_1 r).isSome) = ((l1.drop (k + 1)).all fun r => (rankOf l0_1 r).isSome)) := ⟨by rw [HE.out, hg]; rfl⟩
            clear hg
            go_wp2_with (at_lookup; refine YtfpfdmenhgageaaDoorMp.wp_look_ok _ rfl _ _ _ rfl (YtfpfdmenhgageaaDoorMp.intKey Tryd.underlying21) (YtfpfdmenhgageaaDoorMp.intElem Tryd.underlying3) Tryd.underlying100 0 (by kernel_rfl) rfl bm _ m rfl HMR.out f0 rfl HWF.out ?_; rw [show (m f0).isSome = true from HGET.out])
            go_roundg (l1.length - (k + 1))
            case measure => have := HI.out.1; omega
            case rel =>
              have hL := HLL.out
              exact ⟨k + 1, by rw [show wrap64 ((k : Int) + 1) = ((k + 1 : Nat) : Int) from by unfold wrap64; omega], ⟨by omega, HE2.out⟩, HBR⟩
        · have b4 : decide ((k : Int) < (l1.length : Int)) = false := decide_eq_false (by omega)
          obtain ⟨rfl, rfl⟩ := HY.out (by rw [HI.out.2, List.drop_of_length_le (by omega)]; rfl)
          have hcv := C_runes (P := Tryd.prog) (A := A1) (c := c1) Tryd.underlying39 Tryd.underlying21 Tryd.underlying9 (Kd.C_below HR2.out hb2)
          have HB6 := Aside0.mk hb2
          clear hb2
          go_wp2
          go_ret2
          exact ⟨rfl, HB6.out⟩

/-! ### word_Part: function 25 (by hand) -/
def partB (fs : List ByteArray) (ls : List S118) (s : ByteArray) (lo hi : Int) : ByteArray × Int :=
  if (lettersB fs ls s).2 ≠ 0 then (⟨#[]⟩, (lettersB fs ls s).2) else if lo < 0 ∨ hi < lo ∨ ((lettersB fs ls s).1.length : Int) < hi then (⟨#[]⟩, 2) else (runesBytes (((lettersB fs ls s).1.take hi.toNat).drop lo.toNat), 0)
theorem word_Part.cut (A : Option Addr) (n c : Nat) (lo hi : Int) (h0 : 0 ≤ lo) (h1 : lo ≤ hi) (h2 : hi ≤ c) (W : World) : (Instr.slice 39 (.slice A n c) (some (.int .i64 lo)) (some (.int .i64 hi)) (some (.int .i64 hi))).run Tryd.prog W =
    .ok (.slice (if hi.toNat = lo.toNat then A else A.map (·.add lo.toNat)) (hi.toNat - lo.toNat) (hi.toNat - lo.toNat)) W := by
  have hel : Tryd.prog.elem 39 = 21 := by simp [Program.elem, Tryd.underlying39]
  have hi3 : (Tryd.prog.info? 21).map (·.size) = some 1 := by kernel_rfl
  obtain ⟨i, hi', hsz⟩ := Option.map_eq_some_iff.1 hi3
  rw [run_slice_lhm W 39 A n c (by rw [hel]; exact Tryd.underlying39) .i64 .i64 .i64 lo hi hi h0 h1 (Int.le_refl _) h2, hel]
  simp [sizeOf, typeInfo, hi', hsz, sliced, Result.andThen]
def word_Part.f (l0_0 : List ByteArray) (l0_1 : List (S118)) (a1 : ByteArray) (a2 : Int) (a3 : Int) : Option (ByteArray × Int) := if fitsS l0_0 = true then some (partB l0_0 l0_1 a1 a2 a3) else none
set_option maxHeartbeats 4000000 in
set_option maxRecDepth 100000 in
theorem word_Part.calls (A0_0 : Option Addr) (c0_0 : Nat) (l0_0 : List ByteArray) (A0_1 : Option Addr) (c0_1 : Nat) (l0_1 : List (S118)) (a1 : ByteArray) (a2 : Int) (a3 : Int) (r1 : ByteArray) (r2 : Int) (w : World) (hr0_0 : Kd.C Kd.string w A0_0 l0_0.length l0_0) (hc0_0 : l0_0.length ≤ c0_0) (hr0_1 : Kd.C k118 w A0_1 l0_1.length l0_1) (hc0_1 : l0_1.length ≤ c0_1) (hG : GLaid w) (h : word_Part.f l0_0 l0_1 a1 a2 a3 = some (r1, r2)) :
    Calls Tryd.prog 25 #[.agg #[.slice A0_0 l0_0.length c0_0, .slice A0_1 l0_1.length c0_1], .string a1, .int .i64 a2, .int .i64 a3] w fun e w' => e = .returned (.tuple #[.string r1, .int .i64 r2]) ∧ Below w.heap.size w w' := by
  unfold word_Part.f at h
  split at h
  case isFalse => cases h
  rename_i hfit
  replace h := Option.some.inj h
  have hLE : word_Letters.f l0_0 l0_1 a1 = some (lettersB l0_0 l0_1 a1) := by unfold word_Letters.f; rw [if_pos hfit]
  have HG := Aside0.mk hG
  clear hfit hG
  have HR0 := Aside0.mk hr0_0
  have HR1 := Aside0.mk hr0_1
  have HC0 := Aside0.mk hc0_0
  have HC1 := Aside0.mk hc0_1
  clear hr0_0 hr0_1 hc0_0 hc0_1
  have hu := Tryd.underlying38
  unfold partB at h
  generalize lettersB l0_0 l0_1 a1 = le_ at h hLE
  obtain ⟨ll, le⟩ := le_
  have HLE := Aside0.mk hLE
  clear hLE
  simp only at h
  by_cases q0 : le ≠ 0
  · rw [if_pos q0] at h
    obtain ⟨rfl, rfl⟩ := Prod.mk.inj h
    clear h
    go_enter Tryd.func25, Tryd.ntmps25
    go_wp2_with (first | ((with_reducible refine gate_dst (N := 4) rfl ?_); refine box_event ?hg (N := 4) ?hd (cs := #[.slice A0_0 l0_0.length c0_0, .slice A0_1 l0_1.length c0_1]) (t := 38) ?hr ?_; (case hd => rfl); (case hg => rfl); (case hr => first | (go_simp; done) | (go_simp; rfl)); intro gb hg w3 hbox hb; have HB := Aside0.mk hb; clear hb; have hcz0 : w3.cell? ⟨gb, 0, none⟩ = some (.slice A0_0 l0_0.length c0_0) := (blk_cell hbox 0).trans rfl; have hcz1 : w3.cell? ⟨gb, 1, none⟩ = some (.slice A0_1 l0_1.length c0_1) := (blk_cell hbox 1).trans rfl; clear hbox hg) | (go_at_call 21; refine (word_Letters.calls A0_0 c0_0 l0_0 A0_1 c0_1 l0_1 a1 ll _ _ (Kd.C_below HR0.out HB.out) HC0.out (Kd.C_below HR1.out HB.out) HC1.out (GLaid.below_ HG.out HB.out) HLE.out).mono ?_; rintro e w4 ⟨v4, rfl, hR4, hB4⟩; obtain ⟨A4, c4, rfl, hc4, _⟩ := Kd.R_reads hR4; have HB4 := Aside0.mk (below_step HB.out hB4); have HR4 := Aside0.mk hR4; clear hR4 hB4))
    go_ret2
    exact ⟨rfl, HB4.out⟩
  · obtain rfl : le = 0 := by omega
    rw [if_neg q0] at h
    by_cases q1 : a2 < 0
    · have b1 : decide (a2 < 0) = true := decide_eq_true q1
      rw [if_pos (.inl q1)] at h
      obtain ⟨rfl, rfl⟩ := Prod.mk.inj h
      clear h q0
      go_enter Tryd.func25, Tryd.ntmps25
      go_wp2_with (first | ((with_reducible refine gate_dst (N := 4) rfl ?_); refine box_event ?hg (N := 4) ?hd (cs := #[.slice A0_0 l0_0.length c0_0, .slice A0_1 l0_1.length c0_1]) (t := 38) ?hr ?_; (case hd => rfl); (case hg => rfl); (case hr => first | (go_simp; done) | (go_simp; rfl)); intro gb hg w3 hbox hb; have HB := Aside0.mk hb; clear hb; have hcz0 : w3.cell? ⟨gb, 0, none⟩ = some (.slice A0_0 l0_0.length c0_0) := (blk_cell hbox 0).trans rfl; have hcz1 : w3.cell? ⟨gb, 1, none⟩ = some (.slice A0_1 l0_1.length c0_1) := (blk_cell hbox 1).trans rfl; clear hbox hg) | (go_at_call 21; refine (word_Letters.calls A0_0 c0_0 l0_0 A0_1 c0_1 l0_1 a1 ll _ _ (Kd.C_below HR0.out HB.out) HC0.out (Kd.C_below HR1.out HB.out) HC1.out (GLaid.below_ HG.out HB.out) HLE.out).mono ?_; rintro e w4 ⟨v4, rfl, hR4, hB4⟩; obtain ⟨A4, c4, rfl, hc4, _⟩ := Kd.R_reads hR4; have HB4 := Aside0.mk (below_step HB.out hB4); have HR4 := Aside0.mk hR4; clear hR4 hB4))
      go_ret2
      exact ⟨rfl, HB4.out⟩
    · have b1 : decide (a2 < 0) = false := decide_eq_false q1
      by_cases q2 : a3 < a2
      · have b2 : decide (a3 < a2) = true := decide_eq_true q2
        rw [if_pos (.inr (.inl q2))] at h
        obtain ⟨rfl, rfl⟩ := Prod.mk.inj h
        clear h q0
        go_enter Tryd.func25, Tryd.ntmps25
        go_wp2_with (first | ((with_reducible refine gate_dst (N := 4) rfl ?_); refine box_event ?hg (N := 4) ?hd (cs := #[.slice A0_0 l0_0.length c0_0, .slice A0_1 l0_1.length c0_1]) (t := 38) ?hr ?_; (case hd => rfl); (case hg => rfl); (case hr => first | (go_simp; done) | (go_simp; rfl)); intro gb hg w3 hbox hb; have HB := Aside0.mk hb; clear hb; have hcz0 : w3.cell? ⟨gb, 0, none⟩ = some (.slice A0_0 l0_0.length c0_0) := (blk_cell hbox 0).trans rfl; have hcz1 : w3.cell? ⟨gb, 1, none⟩ = some (.slice A0_1 l0_1.length c0_1) := (blk_cell hbox 1).trans rfl; clear hbox hg) | (go_at_call 21; refine (word_Letters.calls A0_0 c0_0 l0_0 A0_1 c0_1 l0_1 a1 ll _ _ (Kd.C_below HR0.out HB.out) HC0.out (Kd.C_below HR1.out HB.out) HC1.out (GLaid.below_ HG.out HB.out) HLE.out).mono ?_; rintro e w4 ⟨v4, rfl, hR4, hB4⟩; obtain ⟨A4, c4, rfl, hc4, _⟩ := Kd.R_reads hR4; have HB4 := Aside0.mk (below_step HB.out hB4); have HR4 := Aside0.mk hR4; clear hR4 hB4))
        go_ret2
        exact ⟨rfl, HB4.out⟩
      · have b2 : decide (a3 < a2) = false := decide_eq_false q2
        by_cases q3 : (ll.length : Int) < a3
        · have b3 : decide ((ll.length : Int) < a3) = true := decide_eq_true q3
          rw [if_pos (.inr (.inr q3))] at h
          obtain ⟨rfl, rfl⟩ := Prod.mk.inj h
          clear h q0
          go_enter Tryd.func25, Tryd.ntmps25
          go_wp2_with (first | ((with_reducible refine gate_dst (N := 4) rfl ?_); refine box_event ?hg (N := 4) ?hd (cs := #[.slice A0_0 l0_0.length c0_0, .slice A0_1 l0_1.length c0_1]) (t := 38) ?hr ?_; (case hd => rfl); (case hg => rfl); (case hr => first | (go_simp; done) | (go_simp; rfl)); intro gb hg w3 hbox hb; have HB := Aside0.mk hb; clear hb; have hcz0 : w3.cell? ⟨gb, 0, none⟩ = some (.slice A0_0 l0_0.length c0_0) := (blk_cell hbox 0).trans rfl; have hcz1 : w3.cell? ⟨gb, 1, none⟩ = some (.slice A0_1 l0_1.length c0_1) := (blk_cell hbox 1).trans rfl; clear hbox hg) | (go_at_call 21; refine (word_Letters.calls A0_0 c0_0 l0_0 A0_1 c0_1 l0_1 a1 ll _ _ (Kd.C_below HR0.out HB.out) HC0.out (Kd.C_below HR1.out HB.out) HC1.out (GLaid.below_ HG.out HB.out) HLE.out).mono ?_; rintro e w4 ⟨v4, rfl, hR4, hB4⟩; obtain ⟨A4, c4, rfl, hc4, _⟩ := Kd.R_reads hR4; have HB4 := Aside0.mk (below_step HB.out hB4); have HR4 := Aside0.mk hR4; clear hR4 hB4))
          go_ret2
          exact ⟨rfl, HB4.out⟩
        · have b3 : decide ((ll.length : Int) < a3) = false := decide_eq_false q3
          rw [if_neg (by omega)] at h
          obtain ⟨rfl, rfl⟩ := Prod.mk.inj h
          clear h q0
          go_enter Tryd.func25, Tryd.ntmps25
          go_wp2_with (first | ((with_reducible refine gate_dst (N := 4) rfl ?_); refine box_event ?hg (N := 4) ?hd (cs := #[.slice A0_0 l0_0.length c0_0, .slice A0_1 l0_1.length c0_1]) (t := 38) ?hr ?_; (case hd => rfl); (case hg => rfl); (case hr => first | (go_simp; done) | (go_simp; rfl)); intro gb hg w3 hbox hb; have HB := Aside0.mk hb; clear hb; have hcz0 : w3.cell? ⟨gb, 0, none⟩ = some (.slice A0_0 l0_0.length c0_0) := (blk_cell hbox 0).trans rfl; have hcz1 : w3.cell? ⟨gb, 1, none⟩ = some (.slice A0_1 l0_1.length c0_1) := (blk_cell hbox 1).trans rfl; clear hbox hg) | (go_at_call 21; refine (word_Letters.calls A0_0 c0_0 l0_0 A0_1 c0_1 l0_1 a1 ll _ _ (Kd.C_below HR0.out HB.out) HC0.out (Kd.C_below HR1.out HB.out) HC1.out (GLaid.below_ HG.out HB.out) HLE.out).mono ?_; rintro e w4 ⟨v4, rfl, hR4, hB4⟩; obtain ⟨A4, c4, rfl, hc4, hc5⟩ := Kd.R_reads hR4; have HB4 := Aside0.mk (below_step HB.out hB4); have HR4 := Aside0.mk hR4; have hsl := word_Part.cut A4 ll.length c4 a2 a3 (by omega) (by omega) (by omega) w4; have hrd0 := (Kd.reads_of_C (enc := Value.int .i32) (d := (0 : Int)) (h1 := fun _ => rfl) hc5); have hrd := (((show ReadsInt w4 .i32 A4 ll.length ll from hrd0).take_ a3.toNat (by omega)).drop_ (c := a3.toNat) a2.toNat (by omega) (Nat.le_refl _)); have hcv := runes_of_reads (P := Tryd.prog) (c := a3.toNat - a2.toNat) Tryd.underlying39 Tryd.underlying21 Tryd.underlying9 hrd; clear hrd hrd0; generalize (if a3.toNat = a2.toNat then A4 else A4.map (·.add a2.toNat)) = A5 at hsl hcv; clear hR4 hB4))
          go_ret2
          exact ⟨rfl, HB4.out⟩


theorem results_tmp4 {fn : Func} {t u v x : Tmp} (h : fn.results = #[.tmp t, .tmp u, .tmp v, .tmp x]) (tmps : Array Value) (P : Program) (w : World) :
    (results fn tmps).run P w = .ok (.tuple #[tmps.getD t undef, tmps.getD u undef, tmps.getD v undef, tmps.getD x undef]) w := by
  simp [results, h]
def bothB (fs : List ByteArray) (ls : List S118) (x y : ByteArray) : List Int × List Int × Int :=
  if (lettersB fs ls x).2 ≠ 0 then ([], [], (lettersB fs ls x).2) else if (lettersB fs ls y).2 ≠ 0 then ([], [], (lettersB fs ls y).2) else ((lettersB fs ls x).1, (lettersB fs ls y).1, 0)
theorem readP_err (ls : List S118) : ∀ ps out, (readP ls ps out).2 ≠ 0 → (readP ls ps out).1 = []
  | [], out, h => absurd rfl h
  | p :: ps, out, h => by
    unfold readP at h ⊢
    split
    · rfl
    · split
      · rfl
      · split
        · rfl
        · rename_i h1 h2 h3
          rw [if_neg h1, if_neg h2, if_neg h3] at h
          exact readP_err ls ps _ h
theorem letters_alpha {fs : List ByteArray} {ls : List S118} {x : ByteArray} (h : (lettersB fs ls x).2 = 0) : alphaB fs ls = true := by
  cases hal : alphaB fs ls with
  | true => rfl
  | false => unfold lettersB at h; rw [hal] at h; simp at h
theorem readP_wf (ls : List S118) : ∀ (ps : List S97) (out : List Int), (∀ p ∈ ps, (Lit.int .i32 p.f0).wf = true) → (∀ x ∈ out, (Lit.int .i32 x).wf = true) → out.length ≤ 64 → (∀ x ∈ (readP ls ps out).1, (Lit.int .i32 x).wf = true) ∧ (readP ls ps out).1.length ≤ 64
  | [], out, _, h2, h3 => ⟨h2, h3⟩
  | p :: ps, out, h1, h2, h3 => by
    unfold readP
    split
    · simp
    · split
      · simp
      · split
        · simp
        · exact readP_wf ls ps _ (fun q hq => h1 q (by simp [hq])) (fun x hx => by rcases List.mem_append.1 hx with hx | hx; exact h2 x hx; simp at hx; subst hx; exact h1 p (by simp)) (by simp; omega)
theorem letters_wf (fs : List ByteArray) (ls : List S118) (x : ByteArray) : (∀ r ∈ (lettersB fs ls x).1, (Lit.int .i32 r).wf = true) ∧ (lettersB fs ls x).1.length ≤ 64 := by
  unfold lettersB
  split
  · exact readP_wf ls _ [] (fun p hp => piece_wf hp) (by simp) (by simp)
  · simp
theorem both_yes {fs : List ByteArray} {ls : List S118} {x y : ByteArray} (h : (bothB fs ls x y).2.2 = 0) : lettersB fs ls x = ((bothB fs ls x y).1, 0) ∧ lettersB fs ls y = ((bothB fs ls x y).2.1, 0) := by
  unfold bothB at h ⊢
  split at h
  · rename_i h1; exact absurd h h1
  · split at h
    · rename_i h1; exact absurd h h1
    · rename_i h1 h2
      rw [if_neg h1, if_neg h2]
      exact ⟨Prod.ext rfl (by simpa using h1), Prod.ext rfl (by simpa using h2)⟩
set_option maxHeartbeats 4000000 in
set_option maxRecDepth 100000 in
theorem word_both.no (A0_0 : Option Addr) (c0_0 : Nat) (l0_0 : List ByteArray) (A0_1 : Option Addr) (c0_1 : Nat) (l0_1 : List (S118)) (a1 a2 : ByteArray) (w : World) (hr0 : Kd.C Kd.string w A0_0 l0_0.length l0_0) (hc0 : l0_0.length ≤ c0_0) (hr1 : Kd.C k118 w A0_1 l0_1.length l0_1) (hc1 : l0_1.length ≤ c0_1)
    (hG : GLaid w) (hfit : fitsS l0_0 = true) (r : Int) (h0 : (bothB l0_0 l0_1 a1 a2).2.2 = r) (hr : r ≠ 0) : Calls Tryd.prog 79 #[.agg #[.slice A0_0 l0_0.length c0_0, .slice A0_1 l0_1.length c0_1], .string a1, .string a2] w fun e w' =>
      e = .returned (.tuple #[.map none, .slice none 0 0, .slice none 0 0, .int .i64 r]) ∧ Below w.heap.size w w' := by
  have HFIT := Aside0.mk hfit
  have HG := Aside0.mk hG
  have HR0 := Aside0.mk hr0
  have HR1 := Aside0.mk hr1
  have HC0 := Aside0.mk hc0
  have HC1 := Aside0.mk hc1
  clear hfit hG hr0 hr1 hc0 hc1
  have hu := Tryd.underlying38
  cases hal : alphaB l0_0 l0_1 with
  | false =>
    have HAL := Aside0.mk hal
    obtain rfl : r = 7 := by rw [← h0]; unfold bothB lettersB; rw [hal]; simp
    clear h0 hal hr
    go_enter Tryd.func79, Tryd.ntmps79
    go_wp2_with (first | ((with_reducible refine gate_dst (N := 3) rfl ?_); refine box_event ?hg (N := 3) ?hd (cs := #[.slice A0_0 l0_0.length c0_0, .slice A0_1 l0_1.length c0_1]) (t := 38) ?hr ?_; (case hd => rfl); (case hg => rfl); (case hr => first | (go_simp; done) | (go_simp; rfl)); intro gb hg w3 hbox hb; have HB := Aside0.mk hb; clear hb; have hcz0 : w3.cell? ⟨gb, 0, none⟩ = some (.slice A0_0 l0_0.length c0_0) := (blk_cell hbox 0).trans rfl; have hcz1 : w3.cell? ⟨gb, 1, none⟩ = some (.slice A0_1 l0_1.length c0_1) := (blk_cell hbox 1).trans rfl; clear hbox hg) | (go_at_call 69; refine (word_ranks.no A0_0 c0_0 l0_0 A0_1 c0_1 l0_1 _ (Kd.C_below HR0.out HB.out) HC0.out (Kd.C_below HR1.out HB.out) HC1.out HFIT.out HAL.out).mono ?_; rintro e w4 ⟨rfl, hb4⟩; have HB4 := Aside0.mk (below_step HB.out hb4); clear hb4))
    ((try simp only [Exit.inBlock, Exit.then]); refine bodyPost_ret (results_tmp4 rfl _ _ _) rfl ?_)
    exact ⟨rfl, HB4.out⟩
  | true =>
    have HAL := Aside0.mk hal
    have hx : lettersB l0_0 l0_1 a1 = readP l0_1 (pieces (cut65 a1)) [] := by unfold lettersB; rw [hal, if_pos rfl]
    have hy : lettersB l0_0 l0_1 a2 = readP l0_1 (pieces (cut65 a2)) [] := by unfold lettersB; rw [hal, if_pos rfl]
    unfold bothB at h0
    rw [hx, hy] at h0
    by_cases e1 : (readP l0_1 (pieces (cut65 a1)) []).2 = 0
    · rw [if_neg (by simpa using e1)] at h0
      have e2 : (readP l0_1 (pieces (cut65 a2)) []).2 = r := by
        by_cases e3 : (readP l0_1 (pieces (cut65 a2)) []).2 = 0
        · rw [if_neg (by simpa using e3)] at h0; exact absurd h0.symm hr
        · rw [if_pos e3] at h0; exact h0
      have b1 : decide (r = 0) = false := decide_eq_false hr
      have HX : Aside0 (readP l0_1 (pieces (cut65 a1)) [] = ((readP l0_1 (pieces (cut65 a1)) []).1, 0)) := ⟨Prod.ext rfl e1⟩
      have HY : Aside0 (readP l0_1 (pieces (cut65 a2)) [] = ([], r)) := ⟨Prod.ext (readP_err l0_1 (pieces (cut65 a2)) [] (by rw [e2]; exact hr)) e2⟩
      clear h0 hx hy hal e1 e2
      go_enter Tryd.func79, Tryd.ntmps79
      go_wp2_with (first | ((with_reducible refine gate_dst (N := 3) rfl ?_); refine box_event ?hg (N := 3) ?hd (cs := #[.slice A0_0 l0_0.length c0_0, .slice A0_1 l0_1.length c0_1]) (t := 38) ?hr ?_; (case hd => rfl); (case hg => rfl); (case hr => first | (go_simp; done) | (go_simp; rfl)); intro gb hg w3 hbox hb; have HB := Aside0.mk hb; clear hb; have hcz0 : w3.cell? ⟨gb, 0, none⟩ = some (.slice A0_0 l0_0.length c0_0) := (blk_cell hbox 0).trans rfl; have hcz1 : w3.cell? ⟨gb, 1, none⟩ = some (.slice A0_1 l0_1.length c0_1) := (blk_cell hbox 1).trans rfl; clear hbox hg) | (go_at_call 69; refine (word_ranks.yes A0_0 c0_0 l0_0 A0_1 c0_1 l0_1 _ (Kd.C_below HR0.out HB.out) HC0.out (Kd.C_below HR1.out HB.out) HC1.out HFIT.out HAL.out).mono ?_; rintro e w4 ⟨bm, m, rfl, hbm, hM4, hRK, hb4⟩; have HB4 := Aside0.mk (below_step HB.out hb4); have HM4 := Aside0.mk hM4; have HRK := Aside0.mk hRK; clear hb4 hM4 hRK hbm) | (go_at_call 70; (with_reducible refine (word_read.ok bm _ m l0_1 a1 _ (GLaid.below_ HG.out HB4.out) HM4.out HRK.out _ _ HX.out).mono ?_); rintro e w5 ⟨v5, rfl, hR5, hB5⟩; have HM5 := Aside0.mk (HM4.out.below hB5); have HB5 := Aside0.mk (below_step HB4.out hB5); clear hR5 hB5) | (go_at_call 70; (with_reducible refine (word_read.ok bm _ m l0_1 a2 _ (GLaid.below_ HG.out HB5.out) HM5.out HRK.out _ _ HY.out).mono ?_); rintro e w6 ⟨v6, rfl, hR6, hB6⟩; have HB6 := Aside0.mk (below_step HB5.out hB6); clear hR6 hB6))
      ((try simp only [Exit.inBlock, Exit.then]); refine bodyPost_ret (results_tmp4 rfl _ _ _) rfl ?_)
      exact ⟨rfl, HB6.out⟩
    · rw [if_pos e1] at h0
      have b1 : decide (r = 0) = false := decide_eq_false hr
      have HX : Aside0 (readP l0_1 (pieces (cut65 a1)) [] = ([], r)) := ⟨Prod.ext (readP_err l0_1 (pieces (cut65 a1)) [] e1) h0⟩
      clear h0 hx hy hal e1
      go_enter Tryd.func79, Tryd.ntmps79
      go_wp2_with (first | ((with_reducible refine gate_dst (N := 3) rfl ?_); refine box_event ?hg (N := 3) ?hd (cs := #[.slice A0_0 l0_0.length c0_0, .slice A0_1 l0_1.length c0_1]) (t := 38) ?hr ?_; (case hd => rfl); (case hg => rfl); (case hr => first | (go_simp; done) | (go_simp; rfl)); intro gb hg w3 hbox hb; have HB := Aside0.mk hb; clear hb; have hcz0 : w3.cell? ⟨gb, 0, none⟩ = some (.slice A0_0 l0_0.length c0_0) := (blk_cell hbox 0).trans rfl; have hcz1 : w3.cell? ⟨gb, 1, none⟩ = some (.slice A0_1 l0_1.length c0_1) := (blk_cell hbox 1).trans rfl; clear hbox hg) | (go_at_call 69; refine (word_ranks.yes A0_0 c0_0 l0_0 A0_1 c0_1 l0_1 _ (Kd.C_below HR0.out HB.out) HC0.out (Kd.C_below HR1.out HB.out) HC1.out HFIT.out HAL.out).mono ?_; rintro e w4 ⟨bm, m, rfl, hbm, hM4, hRK, hb4⟩; have HB4 := Aside0.mk (below_step HB.out hb4); have HM4 := Aside0.mk hM4; have HRK := Aside0.mk hRK; clear hb4 hM4 hRK hbm) | (go_at_call 70; (with_reducible refine (word_read.ok bm _ m l0_1 a1 _ (GLaid.below_ HG.out HB4.out) HM4.out HRK.out _ _ HX.out).mono ?_); rintro e w5 ⟨v5, rfl, hR5, hB5⟩; have HB5 := Aside0.mk (below_step HB4.out hB5); clear hR5 hB5))
      ((try simp only [Exit.inBlock, Exit.then]); refine bodyPost_ret (results_tmp4 rfl _ _ _) rfl ?_)
      exact ⟨rfl, HB5.out⟩
set_option maxHeartbeats 4000000 in
set_option maxRecDepth 100000 in
theorem word_both.yes (A0_0 : Option Addr) (c0_0 : Nat) (l0_0 : List ByteArray) (A0_1 : Option Addr) (c0_1 : Nat) (l0_1 : List (S118)) (a1 a2 : ByteArray) (w : World) (hr0 : Kd.C Kd.string w A0_0 l0_0.length l0_0) (hc0 : l0_0.length ≤ c0_0) (hr1 : Kd.C k118 w A0_1 l0_1.length l0_1) (hc1 : l0_1.length ≤ c0_1)
    (hG : GLaid w) (hfit : fitsS l0_0 = true) (lx ly : List Int) (hx : lettersB l0_0 l0_1 a1 = (lx, 0)) (hy : lettersB l0_0 l0_1 a2 = (ly, 0)) : Calls Tryd.prog 79 #[.agg #[.slice A0_0 l0_0.length c0_0, .slice A0_1 l0_1.length c0_1], .string a1, .string a2] w fun e w' =>
      ∃ bm m A1 c1 A2 c2, e = .returned (.tuple #[.map (some bm), .slice A1 lx.length c1, .slice A2 ly.length c2, .int .i64 0]) ∧ w.heap.size ≤ bm ∧ YtfpfdmenhgageaaDoorMp.MapI (YtfpfdmenhgageaaDoorMp.intKey Tryd.underlying21) (YtfpfdmenhgageaaDoorMp.intElem Tryd.underlying3) w' bm l0_1.length m ∧ Ranked m l0_1 ∧
        Kd.C (Kd.int .i32) w' A1 lx.length lx ∧ lx.length ≤ c1 ∧ Kd.C (Kd.int .i32) w' A2 ly.length ly ∧ ly.length ≤ c2 ∧ Below w.heap.size w w' := by
  have HFIT := Aside0.mk hfit
  have HG := Aside0.mk hG
  have HR0 := Aside0.mk hr0
  have HR1 := Aside0.mk hr1
  have HC0 := Aside0.mk hc0
  have HC1 := Aside0.mk hc1
  have hal : alphaB l0_0 l0_1 = true := letters_alpha (x := a1) (by rw [hx])
  clear hfit hG hr0 hr1 hc0 hc1
  have hu := Tryd.underlying38
  have HAL := Aside0.mk hal
  have HX : Aside0 (readP l0_1 (pieces (cut65 a1)) [] = (lx, 0)) := ⟨by rw [← hx]; unfold lettersB; rw [hal, if_pos rfl]⟩
  have HY : Aside0 (readP l0_1 (pieces (cut65 a2)) [] = (ly, 0)) := ⟨by rw [← hy]; unfold lettersB; rw [hal, if_pos rfl]⟩
  clear hx hy hal
  go_enter Tryd.func79, Tryd.ntmps79
  go_wp2_with (first | ((with_reducible refine gate_dst (N := 3) rfl ?_); refine box_event ?hg (N := 3) ?hd (cs := #[.slice A0_0 l0_0.length c0_0, .slice A0_1 l0_1.length c0_1]) (t := 38) ?hr ?_; (case hd => rfl); (case hg => rfl); (case hr => first | (go_simp; done) | (go_simp; rfl)); intro gb hg w3 hbox hb; have HB := Aside0.mk hb; clear hb; have hcz0 : w3.cell? ⟨gb, 0, none⟩ = some (.slice A0_0 l0_0.length c0_0) := (blk_cell hbox 0).trans rfl; have hcz1 : w3.cell? ⟨gb, 1, none⟩ = some (.slice A0_1 l0_1.length c0_1) := (blk_cell hbox 1).trans rfl; clear hbox hg) | (go_at_call 69; refine (word_ranks.yes A0_0 c0_0 l0_0 A0_1 c0_1 l0_1 _ (Kd.C_below HR0.out HB.out) HC0.out (Kd.C_below HR1.out HB.out) HC1.out HFIT.out HAL.out).mono ?_; rintro e w4 ⟨bm, m, rfl, hbm, hM4, hRK, hb4⟩; have HBM : Aside0 (w.heap.size ≤ bm) := ⟨Nat.le_trans HB.out.size hbm⟩; have HB4 := Aside0.mk (below_step HB.out hb4); have HM4 := Aside0.mk hM4; have HRK := Aside0.mk hRK; clear hb4 hM4 hRK hbm) | (go_at_call 70; (with_reducible refine (word_read.ok bm _ m l0_1 a1 _ (GLaid.below_ HG.out HB4.out) HM4.out HRK.out _ _ HX.out).mono ?_); rintro e w5 ⟨v5, rfl, hR5, hB5⟩; obtain ⟨A5, c5, rfl, hl5, hC5⟩ := Kd.R_reads hR5; have HL5 := Aside0.mk hl5; have HC5 := Aside0.mk hC5; have HM5 := Aside0.mk (HM4.out.below hB5); have HB5 := Aside0.mk (below_step HB4.out hB5); clear hR5 hB5 hl5 hC5) | (go_at_call 70; (with_reducible refine (word_read.ok bm _ m l0_1 a2 _ (GLaid.below_ HG.out HB5.out) HM5.out HRK.out _ _ HY.out).mono ?_); rintro e w6 ⟨v6, rfl, hR6, hB6⟩; obtain ⟨A6, c6, rfl, hl6, hC6⟩ := Kd.R_reads hR6; have HL6 := Aside0.mk hl6; have HC6 := Aside0.mk hC6; have HC56 := Aside0.mk (Kd.C_below HC5.out hB6); have HM6 := Aside0.mk (HM5.out.below hB6); have HB6 := Aside0.mk (below_step HB5.out hB6); clear hR6 hB6 hl6 hC6))
  ((try simp only [Exit.inBlock, Exit.then]); refine bodyPost_ret (results_tmp4 rfl _ _ _) rfl ?_)
  exact ⟨bm, m, _, _, _, _, rfl, HBM.out, HM6.out, HRK.out, HC56.out, HL5.out, HC6.out, HL6.out, HB6.out⟩

end Go.Proofs.YtfpfdmenhgageaaDoor.W
