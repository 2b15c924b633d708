-- Written by this session's program (wip/ext) with the kit's printer. Not trusted: Lean checks it.
import Derived.Test.YtfpfdmenhgageaaDoorPx0
import Derived.Test.YtfpfdmenhgageaaDoorPx2
import Derived.Test.YtfpfdmenhgageaaDoorPx5
import Derived.Test.YtfpfdmenhgageaaDoorPx6
namespace Go.Proofs.YtfpfdmenhgageaaDoor.P
open Go.RowKit Go.Proofs.YtfpfdmenhgageaaDoorW.PrintWords Go.Proofs.YtfpfdmenhgageaaDoorW.PrintLast Go.Proofs.YtfpfdmenhgageaaDoorW.PrintMore
attribute [local go_sem] max2_int min2_int max_two min_two max_three min_three max_four min_four   -- for this text's walks alone
set_option linter.unusedVariables false
set_option linter.unusedSimpArgs false

/-! ### word_Text: function 23 (by hand) -/
def word_Text.f (l0_0 : List ByteArray) (l0_1 : List (S118)) (l1 : List Int) : Option (ByteArray × Int) := if (fitsS l0_0 && fitsR l1) = true then some (textB l0_0 l0_1 l1) else none
set_option maxHeartbeats 4000000 in
set_option maxRecDepth 100000 in
theorem word_Text.calls (A0_0 : Option Addr) (c0_0 : Nat) (l0_0 : List ByteArray) (A0_1 : Option Addr) (c0_1 : Nat) (l0_1 : List (S118)) (A1 : Option Addr) (c1 : Nat) (l1 : List Int) (r1 : ByteArray) (r2 : Int) (w : World) (hr0_0 : Kd.C Kd.string w A0_0 l0_0.length l0_0) (hc0_0 : l0_0.length ≤ c0_0) (hr0_1 : Kd.C k118 w A0_1 l0_1.length l0_1) (hc0_1 : l0_1.length ≤ c0_1) (hr1 : Kd.C (Kd.int .i32) w A1 l1.length l1) (hc1 : l1.length ≤ c1) (h : word_Text.f l0_0 l0_1 l1 = some (r1, r2)) :
    Calls Tryd.prog 23 #[.agg #[.slice A0_0 l0_0.length c0_0, .slice A0_1 l0_1.length c0_1], .slice A1 l1.length c1] w fun e w' => e = .returned (.tuple #[.string r1, .int .i64 r2]) ∧ Below w.heap.size w w' := by
  unfold word_Text.f at h
  split at h
  case isFalse => cases h
  rename_i hfit
  simp only [Bool.and_eq_true] at hfit
  replace h := Option.some.inj h
  have HFIT := Aside0.mk hfit.1
  have HFR := Aside0.mk hfit.2
  have HR2 := Aside0.mk hr1
  have HC2 := Aside0.mk hc1
  clear hfit hr1 hc1
  have HR0 := Aside0.mk hr0_0
  have HR1 := Aside0.mk hr0_1
  have HC0 := Aside0.mk hc0_0
  have HC1 := Aside0.mk hc0_1
  clear hr0_0 hr0_1 hc0_0 hc0_1
  have hu := Tryd.underlying38
  unfold textB at h
  cases hal : alphaB l0_0 l0_1 with
  | false =>
    have HAL := Aside0.mk hal
    rw [hal] at h
    obtain ⟨rfl, rfl⟩ := Prod.mk.inj h
    clear h hal
    go_enter Tryd.func23, Tryd.ntmps23
    go_wp2_with (first | ((with_reducible refine gate_dst (N := 2) rfl ?_); refine box_event ?hg (N := 2) ?hd (cs := #[.slice A0_0 l0_0.length c0_0, .slice A0_1 l0_1.length c0_1]) (t := 38) ?hr ?_; (case hd => rfl); (case hg => rfl); (case hr => first | (go_simp; done) | (go_simp; rfl)); intro gb hg w3 hbox hb; have HB := Aside0.mk hb; clear hb; have hcz0 : w3.cell? ⟨gb, 0, none⟩ = some (.slice A0_0 l0_0.length c0_0) := (blk_cell hbox 0).trans rfl; have hcz1 : w3.cell? ⟨gb, 1, none⟩ = some (.slice A0_1 l0_1.length c0_1) := (blk_cell hbox 1).trans rfl; clear hbox hg) | (go_at_call 69; refine (word_ranks.no A0_0 c0_0 l0_0 A0_1 c0_1 l0_1 _ (Kd.C_below HR0.out HB.out) HC0.out (Kd.C_below HR1.out HB.out) HC1.out HFIT.out HAL.out).mono ?_; rintro e w4 ⟨rfl, hb4⟩; have HB4 := Aside0.mk (below_step HB.out hb4); clear hb4))
    go_ret2
    exact ⟨rfl, HB4.out⟩
  | true =>
    have HAL := Aside0.mk hal
    rw [hal] at h
    simp only [Bool.true_eq_false, if_false] at h
    by_cases hl : l1.length > 256
    · have b1 : decide ((256 : Int) < (l1.length : Int)) = true := decide_eq_true (by omega)
      rw [if_pos hl] at h
      obtain ⟨rfl, rfl⟩ := Prod.mk.inj h
      clear h hal hl
      go_enter Tryd.func23, Tryd.ntmps23
      go_wp2_with (first | ((with_reducible refine gate_dst (N := 2) rfl ?_); refine box_event ?hg (N := 2) ?hd (cs := #[.slice A0_0 l0_0.length c0_0, .slice A0_1 l0_1.length c0_1]) (t := 38) ?hr ?_; (case hd => rfl); (case hg => rfl); (case hr => first | (go_simp; done) | (go_simp; rfl)); intro gb hg w3 hbox hb; have HB := Aside0.mk hb; clear hb; have hcz0 : w3.cell? ⟨gb, 0, none⟩ = some (.slice A0_0 l0_0.length c0_0) := (blk_cell hbox 0).trans rfl; have hcz1 : w3.cell? ⟨gb, 1, none⟩ = some (.slice A0_1 l0_1.length c0_1) := (blk_cell hbox 1).trans rfl; clear hbox hg) | (go_at_call 69; refine (word_ranks.yes A0_0 c0_0 l0_0 A0_1 c0_1 l0_1 _ (Kd.C_below HR0.out HB.out) HC0.out (Kd.C_below HR1.out HB.out) HC1.out HFIT.out HAL.out).mono ?_; rintro e w4 ⟨bm, m, rfl, hbm, hM4, hRK, hb4⟩; have HB4 := Aside0.mk (below_step HB.out hb4); have HM4 := Aside0.mk hM4; have HRK := Aside0.mk hRK; clear hb4 hM4 hRK hbm))
      go_ret2
      exact ⟨rfl, HB4.out⟩
    · have b1 : decide ((256 : Int) < (l1.length : Int)) = false := decide_eq_false (by omega)
      rw [if_neg hl] at h
      have HLL : Aside0 (l1.length ≤ 256) := ⟨by omega⟩
      have HN : Aside0 ((l1.all fun r => (rankOf l0_1 r).isSome) = false → r1 = ⟨#[]⟩ ∧ r2 = 5) := ⟨fun e => by rw [e] at h; exact (Prod.mk.inj h).imp Eq.symm Eq.symm⟩
      have HY : Aside0 ((l1.all fun r => (rankOf l0_1 r).isSome) = true → r1 = runesBytes l1 ∧ r2 = 0) := ⟨fun e => by rw [e] at h; exact (Prod.mk.inj h).imp Eq.symm Eq.symm⟩
      clear h hal hl
      go_enter Tryd.func23, Tryd.ntmps23
      go_wp2_with (first | ((with_reducible refine gate_dst (N := 2) rfl ?_); refine box_event ?hg (N := 2) ?hd (cs := #[.slice A0_0 l0_0.length c0_0, .slice A0_1 l0_1.length c0_1]) (t := 38) ?hr ?_; (case hd => rfl); (case hg => rfl); (case hr => first | (go_simp; done) | (go_simp; rfl)); intro gb hg w3 hbox hb; have HB := Aside0.mk hb; clear hb; have hcz0 : w3.cell? ⟨gb, 0, none⟩ = some (.slice A0_0 l0_0.length c0_0) := (blk_cell hbox 0).trans rfl; have hcz1 : w3.cell? ⟨gb, 1, none⟩ = some (.slice A0_1 l0_1.length c0_1) := (blk_cell hbox 1).trans rfl; clear hbox hg) | (go_at_call 69; refine (word_ranks.yes A0_0 c0_0 l0_0 A0_1 c0_1 l0_1 _ (Kd.C_below HR0.out HB.out) HC0.out (Kd.C_below HR1.out HB.out) HC1.out HFIT.out HAL.out).mono ?_; rintro e w4 ⟨bm, m, rfl, hbm, hM4, hRK, hb4⟩; have HB4 := Aside0.mk (below_step HB.out hb4); have HM4 := Aside0.mk hM4; have HRK := Aside0.mk hRK; clear hb4 hM4 hRK hbm))
      go_loopg [25] l1.length (fun kq v25 w' => ∃ (k : Nat), v25 = .int .i64 (k : Int) ∧ Aside0 (k + kq = l1.length ∧ (l1.all fun r => (rankOf l0_1 r).isSome) = ((l1.drop k).all fun r => (rankOf l0_1 r).isSome)) ∧ Aside0 (Below w4.heap.size w4 w'))
      case atStart => exact ⟨0, rfl, ⟨by omega, rfl⟩, ⟨Below.refl _ _⟩⟩
      case round =>
        obtain ⟨k, rfl, HI, HBR⟩ := hrel
        have hb2 := below_step HB4.out HBR.out
        by_cases hlt : k < l1.length
        · have b4 : decide ((k : Int) < (l1.length : Int)) = true := decide_eq_true (by omega)
          obtain ⟨ad, e0, hx⟩ := (Kd.reads_of_C (enc := Value.int .i32) (d := (0 : Int)) (h1 := fun _ => rfl) HR2.out).at_ (k : Int) (by omega) (by omega)
          obtain rfl := e0
          replace hx := pw_cell_below hb2 hx
          have hd : l1.drop k = rdOf (0 : Int) l1 (k : Int) :: l1.drop (k + 1) := by rw [List.drop_eq_getElem_cons hlt]; simp [rdOf, List.getD_eq_getElem?_getD, List.getElem?_eq_getElem hlt]
          have hmem : rdOf (0 : Int) l1 (k : Int) ∈ l1 := by simp [rdOf, List.getD_eq_getElem?_getD, List.getElem?_eq_getElem hlt]
          generalize rdOf (0 : Int) l1 (k : Int) = f0 at hx hd hmem
          simp only [Int.toNat_natCast] at hx
          have HWF : Aside0 ((Lit.int .i32 f0).wf = true) := ⟨List.all_eq_true.1 HFR.out _ hmem⟩
          have HMR := Aside0.mk (HM4.out.below HBR.out)
          have HE : Aside0 ((l1.all fun r => (rankOf l0_1 r).isSome) = ((rankOf l0_1 f0).isSome && ((l1.drop (k + 1)).all fun r => (rankOf l0_1 r).isSome))) := ⟨by rw [HI.out.2, hd]; rfl⟩
          have HB6 := Aside0.mk hb2
          clear hd hmem hb2
          cases hg : (rankOf l0_1 f0).isSome with
          | false =>
            have HGET : Aside0 ((m f0).isSome = false) := ⟨by rw [HRK.out f0, Option.isSome_map]; exact hg⟩
            obtain ⟨rfl, rfl⟩ := HN.out (by rw [HE.out, hg]; rfl)
            clear hg
            go_wp2_with (at_lookup; refine YtfpfdmenhgageaaDoorMp.wp_look_ok _ rfl _ _ _ rfl (YtfpfdmenhgageaaDoorMp.intKey Tryd.underlying21) (YtfpfdmenhgageaaDoorMp.intElem Tryd.underlying3) Tryd.underlying100 0 (by kernel_rfl) rfl bm _ m rfl HMR.out f0 rfl HWF.out ?_; rw [show (m f0).isSome = false from HGET.out])
            go_ret2
            exact ⟨rfl, HB6.out⟩
          | true =>
            have HGET : Aside0 ((m f0).isSome = true) := ⟨by rw [HRK.out f0, Option.isSome_map]; exact hg⟩
            have HE2 : Aside0 ((l1.all fun r => (rankOf l0_1 r).isSome) = ((l1.drop (k + 1)).all fun r => (rankOf l0_1 r).isSome)) := ⟨by rw [HE.out, hg]; rfl⟩
            clear hg
            go_wp2_with (at_lookup; refine YtfpfdmenhgageaaDoorMp.wp_look_ok _ rfl _ _ _ rfl (YtfpfdmenhgageaaDoorMp.intKey Tryd.underlying21) (YtfpfdmenhgageaaDoorMp.intElem Tryd.underlying3) Tryd.underlying100 0 (by kernel_rfl) rfl bm _ m rfl HMR.out f0 rfl HWF.out ?_; rw [show (m f0).isSome = true from HGET.out])
            go_roundg (l1.length - (k + 1))
            case measure => have := HI.out.1; omega
            case rel =>
              have hL := HLL.out
              exact ⟨k + 1, by rw [show wrap64 ((k : Int) + 1) = ((k + 1 : Nat) : Int) from by unfold wrap64; omega], ⟨by omega, HE2.out⟩, HBR⟩
        · have b4 : decide ((k : Int) < (l1.length : Int)) = false := decide_eq_false (by omega)
          obtain ⟨rfl, rfl⟩ := HY.out (by rw [HI.out.2, List.drop_of_length_le (by omega)]; rfl)
          have hcv := C_runes (P := Tryd.prog) (A := A1) (c := c1) Tryd.underlying39 Tryd.underlying21 Tryd.underlying9 (Kd.C_below HR2.out hb2)
          have HB6 := Aside0.mk hb2
          clear hb2
          go_wp2
          go_ret2
          exact ⟨rfl, HB6.out⟩

end Go.Proofs.YtfpfdmenhgageaaDoor.P
