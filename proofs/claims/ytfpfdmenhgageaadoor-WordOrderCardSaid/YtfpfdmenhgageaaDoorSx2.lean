-- Written by this session's program (wip/ext) with the kit's printer. Not trusted: Lean checks it.
import Derived.Test.YtfpfdmenhgageaaDoorSx0
import Derived.Test.YtfpfdmenhgageaaDoorSx1
namespace Go.Proofs.YtfpfdmenhgageaaDoor.S
open Go.RowKit Go.Proofs.YtfpfdmenhgageaaDoorW.PrintWords Go.Proofs.YtfpfdmenhgageaaDoorW.PrintLast Go.Proofs.YtfpfdmenhgageaaDoorW.PrintMore
attribute [local go_sem] max2_int min2_int max_two min_two max_three min_three max_four min_four   -- for this text's walks alone
set_option linter.unusedVariables false
set_option linter.unusedSimpArgs false

/-! ### feature_Check: function 94 (by hand) -/
theorem lettered_eq (r : Int) : feature_lettered.f 3 r = some (letteredB r) := by
  unfold feature_lettered.f letteredB
  simp only [feature_lettered.j0, feature_lettered.j1]
  repeat' split
  all_goals (simp_all; try omega)
theorem within_eq (fs : List ByteArray) (ls : List S118) (p m : Int) : feature_within.f fs ls p m = some (withinB fs.length p m) := by
  unfold feature_within.f withinB
  split <;> simp_all
def feature_Check.f (l0_0 : List ByteArray) (l0_1 : List (S118)) : Option (Int) := if fitsS l0_0 = true then some (if alphaB l0_0 l0_1 = true then 0 else 7) else none
set_option maxHeartbeats 4000000 in
set_option maxRecDepth 100000 in
theorem feature_Check.calls (A0_0 : Option Addr) (c0_0 : Nat) (l0_0 : List ByteArray) (A0_1 : Option Addr) (c0_1 : Nat) (l0_1 : List (S118)) (r : Int) (w : World) (hr0_0 : Kd.C Kd.string w A0_0 l0_0.length l0_0) (hc0_0 : l0_0.length ≤ c0_0) (hr0_1 : Kd.C k118 w A0_1 l0_1.length l0_1) (hc0_1 : l0_1.length ≤ c0_1) (h : feature_Check.f l0_0 l0_1 = some r) :
    Calls Tryd.prog 94 #[.agg #[.slice A0_0 l0_0.length c0_0, .slice A0_1 l0_1.length c0_1]] w fun e w' => e = .returned (.int .i64 r) ∧ Below w.heap.size w w' := by
  unfold feature_Check.f at h
  split at h
  case isFalse => cases h
  rename_i hfit
  replace h := Option.some.inj h
  have HFIT := Aside0.mk hfit
  have HQ : Aside0 (alphaB l0_0 l0_1 = false → r = 7) := ⟨fun e => by rw [e] at h; exact h.symm⟩
  have HT : Aside0 (alphaB l0_0 l0_1 = true → r = 0) := ⟨fun e => by rw [e] at h; exact h.symm⟩
  clear h hfit
  have HR0 := Aside0.mk hr0_0
  have HR1 := Aside0.mk hr0_1
  have HC0 := Aside0.mk hc0_0
  have HC1 := Aside0.mk hc0_1
  clear hr0_0 hr0_1 hc0_0 hc0_1
  have hmm := @run_makeMap Tryd.prog
  have hu := Tryd.underlying38
  by_cases q1 : (24 : Int) < (l0_0.length : Int)
  · have b1 : decide ((24 : Int) < (l0_0.length : Int)) = true := decide_eq_true q1
    obtain rfl := HQ.out (by unfold alphaB; rw [decide_eq_false (by omega)]; rfl)
    clear q1
    go_enter Tryd.func94, Tryd.ntmps94
    go_wp2_with (first | ((with_reducible refine gate_dst (N := 1) rfl ?_); refine box_event ?hg (N := 1) ?hd (cs := #[.slice A0_0 l0_0.length c0_0, .slice A0_1 l0_1.length c0_1]) (t := 38) ?hr ?_; (case hd => rfl); (case hg => rfl); (case hr => first | (go_simp; done) | (go_simp; rfl)); intro gb hg w3 hbox hb; have HB := Aside0.mk hb; clear hb; have hcz0 : w3.cell? ⟨gb, 0, none⟩ = some (.slice A0_0 l0_0.length c0_0) := (blk_cell hbox 0).trans rfl; have hcz1 : w3.cell? ⟨gb, 1, none⟩ = some (.slice A0_1 l0_1.length c0_1) := (blk_cell hbox 1).trans rfl; have HGB : Aside0 (w.heap.size ≤ gb) := ⟨Nat.le_of_eq hg.symm⟩; have HGB2 : Aside0 (gb < w3.heap.size) := ⟨(Array.getElem?_eq_some_iff.1 hbox).1⟩; clear hbox hg))
    repeat (go_quiet (fail); try go_wp2)
    all_goals go_ret
    all_goals exact ⟨rfl, HB.out⟩
  · have b1 : decide ((24 : Int) < (l0_0.length : Int)) = false := decide_eq_false q1
    by_cases q2 : (l0_1.length : Int) < 1
    · have b2 : decide ((l0_1.length : Int) < 1) = true := decide_eq_true q2
      obtain rfl := HQ.out (by unfold alphaB; rw [decide_eq_false (p := 1 ≤ l0_1.length) (by omega)]; simp)
      clear q1 q2
      go_enter Tryd.func94, Tryd.ntmps94
      go_wp2_with (first | ((with_reducible refine gate_dst (N := 1) rfl ?_); refine box_event ?hg (N := 1) ?hd (cs := #[.slice A0_0 l0_0.length c0_0, .slice A0_1 l0_1.length c0_1]) (t := 38) ?hr ?_; (case hd => rfl); (case hg => rfl); (case hr => first | (go_simp; done) | (go_simp; rfl)); intro gb hg w3 hbox hb; have HB := Aside0.mk hb; clear hb; have hcz0 : w3.cell? ⟨gb, 0, none⟩ = some (.slice A0_0 l0_0.length c0_0) := (blk_cell hbox 0).trans rfl; have hcz1 : w3.cell? ⟨gb, 1, none⟩ = some (.slice A0_1 l0_1.length c0_1) := (blk_cell hbox 1).trans rfl; have HGB : Aside0 (w.heap.size ≤ gb) := ⟨Nat.le_of_eq hg.symm⟩; have HGB2 : Aside0 (gb < w3.heap.size) := ⟨(Array.getElem?_eq_some_iff.1 hbox).1⟩; clear hbox hg))
      repeat (go_quiet (fail); try go_wp2)
      all_goals go_ret
      all_goals exact ⟨rfl, HB.out⟩
    · have b2 : decide ((l0_1.length : Int) < 1) = false := decide_eq_false q2
      by_cases q3 : (128 : Int) < (l0_1.length : Int)
      · have b3 : decide ((128 : Int) < (l0_1.length : Int)) = true := decide_eq_true q3
        obtain rfl := HQ.out (by unfold alphaB; rw [decide_eq_false (p := l0_1.length ≤ 128) (by omega)]; simp)
        clear q1 q2 q3
        go_enter Tryd.func94, Tryd.ntmps94
        go_wp2_with (first | ((with_reducible refine gate_dst (N := 1) rfl ?_); refine box_event ?hg (N := 1) ?hd (cs := #[.slice A0_0 l0_0.length c0_0, .slice A0_1 l0_1.length c0_1]) (t := 38) ?hr ?_; (case hd => rfl); (case hg => rfl); (case hr => first | (go_simp; done) | (go_simp; rfl)); intro gb hg w3 hbox hb; have HB := Aside0.mk hb; clear hb; have hcz0 : w3.cell? ⟨gb, 0, none⟩ = some (.slice A0_0 l0_0.length c0_0) := (blk_cell hbox 0).trans rfl; have hcz1 : w3.cell? ⟨gb, 1, none⟩ = some (.slice A0_1 l0_1.length c0_1) := (blk_cell hbox 1).trans rfl; have HGB : Aside0 (w.heap.size ≤ gb) := ⟨Nat.le_of_eq hg.symm⟩; have HGB2 : Aside0 (gb < w3.heap.size) := ⟨(Array.getElem?_eq_some_iff.1 hbox).1⟩; clear hbox hg))
        repeat (go_quiet (fail); try go_wp2)
        all_goals go_ret
        all_goals exact ⟨rfl, HB.out⟩
      · have b3 : decide ((128 : Int) < (l0_1.length : Int)) = false := decide_eq_false q3
        have HL : Aside0 (l0_0.length ≤ 24 ∧ 1 ≤ l0_1.length ∧ l0_1.length ≤ 128) := ⟨by omega⟩
        have HX : Aside0 (alphaB l0_0 l0_1 = (featsB [] l0_0 && letsB l0_0.length [] l0_1)) := ⟨by unfold alphaB; rw [decide_eq_true HL.out.1, decide_eq_true HL.out.2.1, decide_eq_true HL.out.2.2]; rfl⟩
        clear q1 q2 q3
        go_enter Tryd.func94, Tryd.ntmps94
        go_wp2_with (first | ((with_reducible refine gate_dst (N := 1) rfl ?_); refine box_event ?hg (N := 1) ?hd (cs := #[.slice A0_0 l0_0.length c0_0, .slice A0_1 l0_1.length c0_1]) (t := 38) ?hr ?_; (case hd => rfl); (case hg => rfl); (case hr => first | (go_simp; done) | (go_simp; rfl)); intro gb hg w3 hbox hb; have HB := Aside0.mk hb; clear hb; have hcz0 : w3.cell? ⟨gb, 0, none⟩ = some (.slice A0_0 l0_0.length c0_0) := (blk_cell hbox 0).trans rfl; have hcz1 : w3.cell? ⟨gb, 1, none⟩ = some (.slice A0_1 l0_1.length c0_1) := (blk_cell hbox 1).trans rfl; have hcm0 : (w3.alloc (.map #[] 0)).cell? ⟨gb, 0, none⟩ = some (.slice A0_0 l0_0.length c0_0) := pw_cell_below (below_alloc (Below.refl _ w3) _) hcz0; have hcm1 : (w3.alloc (.map #[] 0)).cell? ⟨gb, 1, none⟩ = some (.slice A0_1 l0_1.length c0_1) := pw_cell_below (below_alloc (Below.refl _ w3) _) hcz1; have HGB : Aside0 (w.heap.size ≤ gb) := ⟨Nat.le_of_eq hg.symm⟩; have HGB2 : Aside0 (gb < w3.heap.size) := ⟨(Array.getElem?_eq_some_iff.1 hbox).1⟩; clear hbox hg))
        repeat (go_quiet (fail); try go_wp2)
        clear b1 b2 b3 hcz0 hcz1
        have HM : Aside0 (YtfpfdmenhgageaaDoorMp.MapI (YtfpfdmenhgageaaDoorMp.strKey Tryd.underlying9) (YtfpfdmenhgageaaDoorMp.boolElem Tryd.underlying4) (w3.alloc (.map #[] 0)) w3.heap.size 0 (fun _ => none)) := ⟨YtfpfdmenhgageaaDoorMp.MapI.made _ _ w3⟩
        go_loopg [29] l0_0.length (fun kq v29 w' => ∃ (k : Nat) (m : ByteArray → Option Bool), v29 = .int .i64 (k : Int) ∧ w'.cell? ⟨gb, 0, none⟩ = some (.slice A0_0 l0_0.length c0_0) ∧ w'.cell? ⟨gb, 1, none⟩ = some (.slice A0_1 l0_1.length c0_1) ∧
          Aside0 (k + kq = l0_0.length ∧ featsB [] l0_0 = featsB (l0_0.take k) (l0_0.drop k)) ∧ Aside0 (Seen m (l0_0.take k)) ∧ Aside0 (YtfpfdmenhgageaaDoorMp.MapI (YtfpfdmenhgageaaDoorMp.strKey Tryd.underlying9) (YtfpfdmenhgageaaDoorMp.boolElem Tryd.underlying4) w' w3.heap.size k m) ∧ Aside0 (Below w.heap.size w w'))
        case atStart =>
          exact ⟨0, _, rfl, hcm0, hcm1, ⟨by omega, by simp⟩, ⟨by simpa using Seen.nil⟩, HM, ⟨below_alloc HB.out _⟩⟩
        case round =>
          clear HM HB hcm0 hcm1
          obtain ⟨k, m, rfl, hcl0, hcl, HI, HS, HM, HB⟩ := hrel
          by_cases hlt : k < l0_0.length
          · have b4 : decide ((k : Int) < (l0_0.length : Int)) = true := decide_eq_true (by omega)
            obtain ⟨ad, e0, hx⟩ := Kd.at_string HR0.out (k : Int) (by omega) (by omega)
            obtain rfl := e0
            replace hx := pw_cell_below HB.out hx
            have hd := drop_str l0_0 k hlt
            have hmem : rdOf ByteArray.empty l0_0 (k : Int) ∈ l0_0 := by simp [rdOf, List.getD_eq_getElem?_getD, List.getElem?_eq_getElem hlt]
            generalize rdOf ByteArray.empty l0_0 (k : Int) = f at hx hd hmem
            simp only [Int.toNat_natCast] at hx
            have hfs : f.size ≤ 9223372036854775807 := by have := HFIT.out; unfold fitsS at this; have := List.all_eq_true.1 this _ hmem; simpa using this
            have hnm : feature_named.f f = some (namedB f) := by unfold feature_named.f; rw [if_pos hfs]
            have HE : Aside0 (featsB [] l0_0 = (namedB f && (!((l0_0.take k).any fun g => decide (g = f)) && featsB (l0_0.take k ++ [f]) (l0_0.drop (k + 1))))) := ⟨by rw [HI.out.2, hd]; rfl⟩
            have HD := Aside0.mk hd
            clear hd hmem hfs
            cases hn : namedB f with
            | false =>
              rw [hn] at hnm
              have HNM := Aside0.mk hnm
              obtain rfl := HQ.out (by rw [HX.out, HE.out, hn]; rfl)
              clear hnm
              (go_wp2_with (go_at_call 124; refine (feature_named.calls f _ _ HNM.out).mono ?_; rintro e w5 ⟨rfl, hb5⟩))
              repeat (go_quiet (fail); try go_wp2)
              all_goals go_ret
              all_goals exact ⟨rfl, below_step HB.out hb5⟩
            | true =>
              rw [hn] at hnm
              have HNM := Aside0.mk hnm
              have hkey : f.size ≤ maxLen := namedB_key hn
              clear hnm
              by_cases hin : ((l0_0.take k).any fun g => decide (g = f)) = true
              · obtain rfl := HQ.out (by rw [HX.out, HE.out, hn, hin]; rfl)
                have hget : (m f).getD false = true := by rw [HS.out.get, hin]
                (go_wp2_with (first | (go_at_call 124; refine (feature_named.calls f _ _ HNM.out).mono ?_; rintro e w5 ⟨rfl, hb5⟩; have HM5 := Aside0.mk (HM.out.below hb5)) | (at_lookup; (try (refine gate_guard (by rfl) ?_; dsimp only)); refine YtfpfdmenhgageaaDoorMp.wp_look _ rfl _ _ _ rfl (YtfpfdmenhgageaaDoorMp.strKey Tryd.underlying9) (YtfpfdmenhgageaaDoorMp.boolElem Tryd.underlying4) Tryd.underlying163 false (by kernel_rfl) trivial w3.heap.size k m rfl HM5.out f rfl hkey ?_; rw [show (YtfpfdmenhgageaaDoorMp.boolElem Tryd.underlying4).enc ((m f).getD false) = Value.bool true from congrArg Value.bool hget])))
                repeat (go_quiet (fail); try go_wp2)
                all_goals go_ret
                all_goals exact ⟨rfl, below_step HB.out hb5⟩
              · have hin' : ((l0_0.take k).any fun g => decide (g = f)) = false := Bool.eq_false_iff.2 hin
                have hget : (m f).getD false = false := by rw [HS.out.get, hin']
                have HE2 : Aside0 (featsB [] l0_0 = featsB (l0_0.take (k + 1)) (l0_0.drop (k + 1))) := ⟨by rw [HE.out, hn, hin', take_snoc l0_0 k f HD.out]; rfl⟩
                clear hin hin'
                (go_wp2_with (first | (go_at_call 124; refine (feature_named.calls f _ _ HNM.out).mono ?_; rintro e w5 ⟨rfl, hb5⟩; have HM5 := Aside0.mk (HM.out.below hb5); have hcl50 := pw_cell_below hb5 hcl0; have hcl5 := pw_cell_below hb5 hcl; have HB5 := Aside0.mk (below_step HB.out hb5); clear hb5) | (at_lookup; (try (refine gate_guard (by rfl) ?_; dsimp only)); refine YtfpfdmenhgageaaDoorMp.wp_look _ rfl _ _ _ rfl (YtfpfdmenhgageaaDoorMp.strKey Tryd.underlying9) (YtfpfdmenhgageaaDoorMp.boolElem Tryd.underlying4) Tryd.underlying163 false (by kernel_rfl) trivial w3.heap.size k m rfl HM5.out f rfl hkey ?_; rw [show (YtfpfdmenhgageaaDoorMp.boolElem Tryd.underlying4).enc ((m f).getD false) = Value.bool false from congrArg Value.bool hget]) | (at_mapUpdate; refine YtfpfdmenhgageaaDoorMp.wp_update _ rfl _ _ _ _ rfl (YtfpfdmenhgageaaDoorMp.strKey Tryd.underlying9) (YtfpfdmenhgageaaDoorMp.boolElem Tryd.underlying4) Tryd.underlying163 w3.heap.size k m rfl HM5.out (by have := HL.out.1; unfold maxLen; omega) f rfl hkey true rfl trivial ?_; intro w6 hm6 hg6; have HM6 := Aside0.mk hm6; have HG6 := Aside0.mk hg6; clear hm6 hg6)))
                repeat (go_quiet (fail); try go_wp2)
                go_roundg (l0_0.length - (k + 1))
                case measure => have := HI.out.1; omega
                case rel =>
                  have hlt24 := HL.out.1
                  have hG := HG6.out
                  refine ⟨k + 1, _, by rw [show wrap64 ((k : Int) + 1) = ((k + 1 : Nat) : Int) from by unfold wrap64; omega], hG.cell hcl50 (by intro e; have := HGB2.out; simp at e; omega), ?_, ⟨by omega, HE2.out⟩, ⟨?_⟩, HM6, ⟨?_⟩⟩
                  · exact hG.cell hcl5 (by intro e; have := HGB2.out; simp at e; omega)
                  · rw [take_snoc l0_0 k f HD.out]
                    exact HS.out.snoc f (by simp) (fun y hy => by simp [hy])
                  · exact pw_below_grown HB5.out _ HB5.out.size hG (fun j hj => by injection hj with hj; subst hj; exact (Nat.le_trans HGB.out (Nat.le_of_lt HGB2.out)))
          · have b4 : decide ((k : Int) < (l0_0.length : Int)) = false := decide_eq_false (by omega)
            have HF : Aside0 (featsB [] l0_0 = true) := ⟨by rw [HI.out.2, List.drop_of_length_le (by have := HI.out.1; omega)]; rfl⟩
            have hcm0 : (wr.alloc (.map #[] 0)).cell? ⟨gb, 0, none⟩ = some (.slice A0_0 l0_0.length c0_0) := pw_cell_below (below_alloc (Below.refl _ wr) _) hcl0
            have hcm1 : (wr.alloc (.map #[] 0)).cell? ⟨gb, 1, none⟩ = some (.slice A0_1 l0_1.length c0_1) := pw_cell_below (below_alloc (Below.refl _ wr) _) hcl
            obtain ⟨w3s, hw3s⟩ : ∃ n, n = w3.heap.size := ⟨_, rfl⟩
            have HGB3 : Aside0 (gb < wr.heap.size) := ⟨World.block_lt_of_cell? wr _ hcl⟩
            have HM2 : Aside0 (YtfpfdmenhgageaaDoorMp.MapI (YtfpfdmenhgageaaDoorMp.intKey Tryd.underlying21) (YtfpfdmenhgageaaDoorMp.boolElem Tryd.underlying4) (wr.alloc (.map #[] 0)) wr.heap.size 0 (fun _ => none)) := ⟨YtfpfdmenhgageaaDoorMp.MapI.made _ _ wr⟩
            clear HM hcl0 hcl
            go_wp2
            obtain ⟨wo, hwo⟩ : ∃ wo, wo = wr := ⟨_, rfl⟩
            subst hwo
            go_loopg [48] l0_1.length (fun kq v48 w' => ∃ (k : Nat) (m : Int → Option Bool), v48 = .int .i64 (k : Int) ∧ w'.cell? ⟨gb, 0, none⟩ = some (.slice A0_0 l0_0.length c0_0) ∧ w'.cell? ⟨gb, 1, none⟩ = some (.slice A0_1 l0_1.length c0_1) ∧
              Aside0 (k + kq = l0_1.length ∧ letsB l0_0.length [] l0_1 = letsB l0_0.length (l0_1.take k |>.map (·.f0)) (l0_1.drop k)) ∧ Aside0 (Seen m (l0_1.take k |>.map (·.f0))) ∧ Aside0 (YtfpfdmenhgageaaDoorMp.MapI (YtfpfdmenhgageaaDoorMp.intKey Tryd.underlying21) (YtfpfdmenhgageaaDoorMp.boolElem Tryd.underlying4) w' wo.heap.size k m) ∧ Aside0 (Below w.heap.size w w'))
            case atStart => exact ⟨0, _, rfl, hcm0, hcm1, ⟨by omega, by simp⟩, ⟨by simpa using Seen.nil⟩, HM2, ⟨below_alloc HB.out _⟩⟩
            case round =>
              clear HM2 HB hcm0 hcm1
              obtain ⟨k, m, rfl, hcl0, hcl, HI, HS, HM, HB⟩ := hrel
              by_cases hlt : k < l0_1.length
              · have b4 : decide ((k : Int) < (l0_1.length : Int)) = true := decide_eq_true (by omega)
                obtain ⟨ad, e0, hx0, hx1, hx2⟩ := at_T118 HR1.out (k : Int) (by omega) (by omega)
                obtain rfl := e0
                replace hx0 := pw_cell_below HB.out hx0
                replace hx1 := pw_cell_below HB.out hx1
                replace hx2 := pw_cell_below HB.out hx2
                have hd := drop_let l0_1 k hlt
                generalize rd_T118 l0_1 (k : Int) = f at hx0 hx1 hx2 hd
                obtain ⟨f0, f1, f2⟩ := f
                simp only [Int.toNat_natCast] at hx0 hx1 hx2
                have HE : Aside0 (letsB l0_0.length [] l0_1 = (letteredB f0 && (!((l0_1.take k |>.map (·.f0)).any fun g => decide (g = f0)) && (withinB l0_0.length f1 f2 && letsB l0_0.length ((l0_1.take k |>.map (·.f0)) ++ [f0]) (l0_1.drop (k + 1)))))) := ⟨by rw [HI.out.2, hd]; rfl⟩
                have HD := Aside0.mk hd
                have hg0 : (wr.alloc (.cells #[.int .i32 f0, .int .u32 f1, .int .u32 f2] 118)).cell? ⟨gb, 0, none⟩ = some (.slice A0_0 l0_0.length c0_0) := pw_cell_below (below_alloc (Below.refl _ wr) _) hcl0
                have hg1 : (wr.alloc (.cells #[.int .i32 f0, .int .u32 f1, .int .u32 f2] 118)).cell? ⟨gb, 1, none⟩ = some (.slice (some ad) l0_1.length c0_1) := pw_cell_below (below_alloc (Below.refl _ wr) _) hcl
                have hl0 : (wr.alloc (.cells #[.int .i32 f0, .int .u32 f1, .int .u32 f2] 118)).cell? ⟨wr.heap.size, 0, none⟩ = some (.int .i32 f0) := (blk_cell (blk_new wr _) 0).trans rfl
                have hl1 : (wr.alloc (.cells #[.int .i32 f0, .int .u32 f1, .int .u32 f2] 118)).cell? ⟨wr.heap.size, 1, none⟩ = some (.int .u32 f1) := (blk_cell (blk_new wr _) 1).trans rfl
                have hl2 : (wr.alloc (.cells #[.int .i32 f0, .int .u32 f1, .int .u32 f2] 118)).cell? ⟨wr.heap.size, 2, none⟩ = some (.int .u32 f2) := (blk_cell (blk_new wr _) 2).trans rfl
                have HMA := Aside0.mk (HM.out.alloc (.cells #[.int .i32 f0, .int .u32 f1, .int .u32 f2] 118))
                have HBA := Aside0.mk (below_alloc HB.out (.cells #[.int .i32 f0, .int .u32 f1, .int .u32 f2] 118))
                have hle : feature_lettered.f 3 f0 = some (letteredB f0) := lettered_eq f0
                have hwi : feature_within.f l0_0 l0_1 f1 f2 = some (withinB l0_0.length f1 f2) := within_eq l0_0 l0_1 f1 f2
                clear hd hcl0 hcl
                cases hn : letteredB f0 with
                | false =>
                  rw [hn] at hle
                  have HLT := Aside0.mk hle
                  obtain rfl := HQ.out (by rw [HX.out, HF.out, HE.out, hn]; rfl)
                  clear hle hwi hn
                  go_wp2_with (go_at_call 125; refine (feature_lettered.calls 3 f0 _ _ HLT.out).mono ?_; rintro e w5 ⟨rfl, hd5⟩; have hb5 := hd5.below; have hm0 := pw_cell_below hb5 hl0; have hm1 := pw_cell_below hb5 hl1; have hm2 := pw_cell_below hb5 hl2; have hgm0 := pw_cell_below hb5 hg0; have hgm1 := pw_cell_below hb5 hg1; have HM5 := Aside0.mk (HMA.out.below hb5); have HB5 := Aside0.mk (below_step HBA.out hb5); clear hb5 hd5)
                  repeat (go_quiet (fail); try go_wp2)
                  all_goals go_ret
                  all_goals exact ⟨rfl, HB5.out⟩
                | true =>
                  rw [hn] at hle
                  have HLT := Aside0.mk hle
                  have HWF : Aside0 ((Lit.int .i32 f0).wf = true) := ⟨lettered_wf hn⟩
                  cases hin : ((l0_1.take k |>.map (·.f0)).any fun g => decide (g = f0)) with
                  | true =>
                    obtain rfl := HQ.out (by rw [HX.out, HF.out, HE.out, hn, hin]; rfl)
                    have HGET : Aside0 ((m f0).getD false = true) := ⟨by rw [HS.out.get, hin]⟩
                    clear hle hwi hn hin
                    go_wp2_with (first | (go_at_call 125; refine (feature_lettered.calls 3 f0 _ _ HLT.out).mono ?_; rintro e w5 ⟨rfl, hd5⟩; have hb5 := hd5.below; have hm0 := pw_cell_below hb5 hl0; have hm1 := pw_cell_below hb5 hl1; have hm2 := pw_cell_below hb5 hl2; have hgm0 := pw_cell_below hb5 hg0; have hgm1 := pw_cell_below hb5 hg1; have HM5 := Aside0.mk (HMA.out.below hb5); have HB5 := Aside0.mk (below_step HBA.out hb5); clear hb5 hd5) | (at_lookup; (try (refine gate_guard (by rfl) ?_; dsimp only)); refine YtfpfdmenhgageaaDoorMp.wp_look _ rfl _ _ _ rfl (YtfpfdmenhgageaaDoorMp.intKey Tryd.underlying21) (YtfpfdmenhgageaaDoorMp.boolElem Tryd.underlying4) Tryd.underlying132 false (by kernel_rfl) trivial wo.heap.size k m rfl HM5.out f0 rfl HWF.out ?_; rw [show (YtfpfdmenhgageaaDoorMp.boolElem Tryd.underlying4).enc ((m f0).getD false) = Value.bool true from congrArg Value.bool HGET.out]))
                    repeat (go_quiet (fail); try go_wp2)
                    all_goals go_ret
                    all_goals exact ⟨rfl, HB5.out⟩
                  | false =>
                    have HGET : Aside0 ((m f0).getD false = false) := ⟨by rw [HS.out.get, hin]⟩
                    cases hw : withinB l0_0.length f1 f2 with
                    | false =>
                      rw [hw] at hwi
                      have HWI := Aside0.mk hwi
                      obtain rfl := HQ.out (by rw [HX.out, HF.out, HE.out, hn, hin, hw]; rfl)
                      clear hle hwi hn hin hw
                      go_wp2_with (first | (go_at_call 125; refine (feature_lettered.calls 3 f0 _ _ HLT.out).mono ?_; rintro e w5 ⟨rfl, hd5⟩; have hb5 := hd5.below; have hm0 := pw_cell_below hb5 hl0; have hm1 := pw_cell_below hb5 hl1; have hm2 := pw_cell_below hb5 hl2; have hgm0 := pw_cell_below hb5 hg0; have hgm1 := pw_cell_below hb5 hg1; have HM5 := Aside0.mk (HMA.out.below hb5); have HB5 := Aside0.mk (below_step HBA.out hb5); clear hb5 hd5) | (at_lookup; (try (refine gate_guard (by rfl) ?_; dsimp only)); refine YtfpfdmenhgageaaDoorMp.wp_look _ rfl _ _ _ rfl (YtfpfdmenhgageaaDoorMp.intKey Tryd.underlying21) (YtfpfdmenhgageaaDoorMp.boolElem Tryd.underlying4) Tryd.underlying132 false (by kernel_rfl) trivial wo.heap.size k m rfl HM5.out f0 rfl HWF.out ?_; rw [show (YtfpfdmenhgageaaDoorMp.boolElem Tryd.underlying4).enc ((m f0).getD false) = Value.bool false from congrArg Value.bool HGET.out]) | (go_at_call 82; refine (feature_within.calls A0_0 c0_0 l0_0 (some ad) c0_1 l0_1 f1 f2 _ _ (Kd.C_below HR0.out HB5.out) HC0.out (Kd.C_below HR1.out HB5.out) HC1.out HWI.out).mono ?_; rintro e w6 ⟨rfl, hb6⟩; have hn0 := pw_cell_below hb6 hm0; have hgn0 := pw_cell_below hb6 hgm0; have hgn1 := pw_cell_below hb6 hgm1; have HM6 := Aside0.mk (HM5.out.below hb6); have HB6 := Aside0.mk (below_step HB5.out hb6); clear hb6))
                      repeat (go_quiet (fail); try go_wp2)
                      all_goals go_ret
                      all_goals exact ⟨rfl, HB6.out⟩
                    | true =>
                      rw [hw] at hwi
                      have HWI := Aside0.mk hwi
                      have HE2 : Aside0 (letsB l0_0.length [] l0_1 = letsB l0_0.length (l0_1.take (k + 1) |>.map (·.f0)) (l0_1.drop (k + 1))) := ⟨by rw [HE.out, hn, hin, hw, take_snoc l0_1 k _ HD.out, List.map_append]; rfl⟩
                      clear hle hwi hn hin hw
                      go_wp2_with (first | (go_at_call 125; refine (feature_lettered.calls 3 f0 _ _ HLT.out).mono ?_; rintro e w5 ⟨rfl, hd5⟩; have hb5 := hd5.below; have hm0 := pw_cell_below hb5 hl0; have hm1 := pw_cell_below hb5 hl1; have hm2 := pw_cell_below hb5 hl2; have hgm0 := pw_cell_below hb5 hg0; have hgm1 := pw_cell_below hb5 hg1; have HM5 := Aside0.mk (HMA.out.below hb5); have HB5 := Aside0.mk (below_step HBA.out hb5); clear hb5 hd5) | (at_lookup; (try (refine gate_guard (by rfl) ?_; dsimp only)); refine YtfpfdmenhgageaaDoorMp.wp_look _ rfl _ _ _ rfl (YtfpfdmenhgageaaDoorMp.intKey Tryd.underlying21) (YtfpfdmenhgageaaDoorMp.boolElem Tryd.underlying4) Tryd.underlying132 false (by kernel_rfl) trivial wo.heap.size k m rfl HM5.out f0 rfl HWF.out ?_; rw [show (YtfpfdmenhgageaaDoorMp.boolElem Tryd.underlying4).enc ((m f0).getD false) = Value.bool false from congrArg Value.bool HGET.out]) | (go_at_call 82; refine (feature_within.calls A0_0 c0_0 l0_0 (some ad) c0_1 l0_1 f1 f2 _ _ (Kd.C_below HR0.out HB5.out) HC0.out (Kd.C_below HR1.out HB5.out) HC1.out HWI.out).mono ?_; rintro e w6 ⟨rfl, hb6⟩; have hn0 := pw_cell_below hb6 hm0; have hgn0 := pw_cell_below hb6 hgm0; have hgn1 := pw_cell_below hb6 hgm1; have HM6 := Aside0.mk (HM5.out.below hb6); have HB6 := Aside0.mk (below_step HB5.out hb6); clear hb6) | (at_mapUpdate; refine YtfpfdmenhgageaaDoorMp.wp_update _ rfl _ _ _ _ rfl (YtfpfdmenhgageaaDoorMp.intKey Tryd.underlying21) (YtfpfdmenhgageaaDoorMp.boolElem Tryd.underlying4) Tryd.underlying132 wo.heap.size k m rfl HM6.out (by have := HL.out.2.2; unfold maxLen; omega) f0 rfl HWF.out true rfl trivial ?_; intro w7 hm7 hg7; have HM7 := Aside0.mk hm7; have HG7 := Aside0.mk hg7; clear hm7 hg7))
                      repeat (go_quiet (fail); try go_wp2)
                      go_roundg (l0_1.length - (k + 1))
                      case measure => have := HI.out.1; omega
                      case rel =>
                        have hlt128 := HL.out.2.2
                        have hG := HG7.out
                        have h3 := HGB3.out
                        refine ⟨k + 1, _, by rw [show wrap64 ((k : Int) + 1) = ((k + 1 : Nat) : Int) from by unfold wrap64; omega], hG.cell hgn0 (by intro e; simp at e; omega), hG.cell hgn1 (by intro e; simp at e; omega), ⟨by omega, HE2.out⟩, ⟨?_⟩, HM7, ⟨?_⟩⟩
                        · rw [take_snoc l0_1 k _ HD.out, List.map_append]
                          exact HS.out.snoc f0 (by simp) (fun y hy => by simp [hy])
                        · exact pw_below_grown HB6.out _ HB6.out.size hG (fun j hj => by injection hj with hj; subst hj; exact Nat.le_trans HGB.out (Nat.le_of_lt h3))
              · have b4 : decide ((k : Int) < (l0_1.length : Int)) = false := decide_eq_false (by omega)
                obtain rfl := HT.out (by rw [HX.out, HF.out, HI.out.2, List.drop_of_length_le (by have := HI.out.1; omega)]; rfl)
                go_wp2
                go_ret
                exact ⟨rfl, HB.out⟩


/-! ### runes_long: function 65 -/
def runes_long.f (a0 : ByteArray) : Option (Int) := if (a0.size : Int) > 65536 then (some 3) else (some 0)
set_option maxHeartbeats 8000000 in
set_option maxRecDepth 100000 in
theorem runes_long.calls (a0 : ByteArray) (r : Int) (w : World) (h : runes_long.f a0 = some r) :
    Calls Tryd.prog 65 #[.string a0] w fun e w' => e = .returned (.int .i64 r) ∧ Drawn0 w w' := by
  have H : (if (a0.size : Int) > 65536 then (some 3) else (some 0)) = some r := h
  clear h
  by_cases c2 : (a0.size : Int) > 65536
  · rw [if_pos c2] at H
    have c2b0 : decide (65536 < (a0.size : Int)) = true := decide_eq_true c2
    have c2b1 : decide (65536 < a0.size) = true := decide_eq_true (by omega)
    clear c2
    obtain rfl := Option.some.inj H
    go_enter Tryd.func65, Tryd.ntmps65
    go_wp2
    go_ret
    exact ⟨by first | rfl | (simp; done) | (simp [*]; done), by repeat (first | exact Drawn0.refl _ | apply Drawn0.step)⟩
  · rw [if_neg c2] at H
    have c2b0 : decide (65536 < (a0.size : Int)) = false := decide_eq_false c2
    have c2b1 : decide (65536 < a0.size) = false := decide_eq_false (by omega)
    clear c2
    obtain rfl := Option.some.inj H
    go_enter Tryd.func65, Tryd.ntmps65
    go_wp2
    go_ret
    exact ⟨by first | rfl | (simp; done) | (simp [*]; done), by repeat (first | exact Drawn0.refl _ | apply Drawn0.step)⟩

end Go.Proofs.YtfpfdmenhgageaaDoor.S
