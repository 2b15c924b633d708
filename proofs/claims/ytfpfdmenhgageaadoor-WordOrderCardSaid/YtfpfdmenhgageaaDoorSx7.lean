-- Written by this session's program (wip/ext) with the kit's printer. Not trusted: Lean checks it.
import Derived.Test.YtfpfdmenhgageaaDoorSx0
import Derived.Test.YtfpfdmenhgageaaDoorSx1
import Derived.Test.YtfpfdmenhgageaaDoorSx3
import Derived.Test.YtfpfdmenhgageaaDoorSx4
import Derived.Test.YtfpfdmenhgageaaDoorSx5
import Derived.Test.YtfpfdmenhgageaaDoorSx6
namespace Go.Proofs.YtfpfdmenhgageaaDoor.S
open Go.RowKit Go.Proofs.YtfpfdmenhgageaaDoorW.PrintWords Go.Proofs.YtfpfdmenhgageaaDoorW.PrintLast Go.Proofs.YtfpfdmenhgageaaDoorW.PrintMore
attribute [local go_sem] max2_int min2_int max_two min_two max_three min_three max_four min_four   -- for this text's walks alone
set_option linter.unusedVariables false
set_option linter.unusedSimpArgs false

/-! ### cognatelaw03_awake: function 20 -/
def cognatelaw03_awake.f (k : Nat)  : Option (Bool) := (cognatelaw03_abc.f).bind fun bt119 => ((word_Turned.f k bt119.1 bt119.2 (⟨#[97, 98, 99]⟩ : ByteArray)).bind fun bt125 => (if bt125.2 = 0 then (some (bt125.1.toList == ([99, 98, 97] : List UInt8))) else (some false)))
theorem cognatelaw03_awake.mono : ∀ k, LeO (cognatelaw03_awake.f k ) (cognatelaw03_awake.f (k + 1) ) := by
  intro  k
  unfold cognatelaw03_awake.f
  repeat' first
      | (with_reducible exact word_Turned.mono _ _ _ _)
      | (with_reducible exact LeO.refl _)
      | (with_reducible exact LeO.none _)
      | (with_reducible refine LeO.ite ?_ ?_)
      | (with_reducible refine LeO.bind ?_ (fun _ => ?_))
      | exact word_Turned.mono _ _ _ _
      | exact LeO.none _
      | refine LeO.ite ?_ ?_
      | refine LeO.bind ?_ (fun _ => ?_)
set_option maxHeartbeats 8000000 in
set_option maxRecDepth 100000 in
theorem cognatelaw03_awake.calls (k : Nat)  (r : Bool) (w : World) (hG : GLaid w) (h : cognatelaw03_awake.f k  = some r) :
    Calls Tryd.prog 20 #[] w fun e w' => e = .returned (.bool r) ∧ Below w.heap.size w w' := by
  have HG := Aside0.mk hG
  clear hG
  have HB := Aside0.mk (Below.refl w.heap.size w)
  have H : ((cognatelaw03_abc.f).bind fun bt119 => ((word_Turned.f k bt119.1 bt119.2 (⟨#[97, 98, 99]⟩ : ByteArray)).bind fun bt125 => (if bt125.2 = 0 then (some (bt125.1.toList == ([99, 98, 97] : List UInt8))) else (some false)))) = some r := h
  clear h
  replace H := Option.bind_eq_some_iff.mp H
  obtain ⟨⟨t119, t122⟩, A10, H⟩ := H
  replace H : ((word_Turned.f k t119 t122 (⟨#[97, 98, 99]⟩ : ByteArray)).bind fun bt125 => (if bt125.2 = 0 then (some (bt125.1.toList == ([99, 98, 97] : List UInt8))) else (some false))) = some r := H
  have A1 := Aside0.mk A10
  clear A10
  replace H := Option.bind_eq_some_iff.mp H
  obtain ⟨⟨t125, t126⟩, A20, H⟩ := H
  replace H : (if t126 = 0 then (some (t125.toList == ([99, 98, 97] : List UInt8))) else (some false)) = some r := H
  have A2 := Aside0.mk A20
  clear A20
  by_cases c3 : t126 = 0
  · rw [if_pos c3] at H
    have c3b0 : (t126 == 0) = true := beq_iff_eq.mpr c3
    have c3b1 : (t126 != 0) = false := bne_eq_false_iff_eq.mpr c3
    clear c3
    obtain rfl := Option.some.inj H
    go_enter Tryd.func20, Tryd.ntmps20
    go_wp2_with (first | ((with_reducible refine gate_callee (f := 68) rfl ?_); refine goesL_ (some 4) rfl rfl Tryd.func68 (by kernel_rfl) rfl #[] rfl (by (try simp only [List.map_toArray, List.map_cons, List.map_nil]); first | done | rfl | (simp only [List.length_drop, List.length_take]; rfl)) ?_; (with_reducible refine (cognatelaw03_abc.calls  t119 t122 _ A1.out).mono ?_); rintro e w4 ⟨v120, v123, rfl, ho0, ho1, hb⟩; refine ⟨_, rfl, ?_⟩; have n0_ := Aside0.mk (Kd.R_lower ho0 (below_size (by repeat (first | (with_reducible first | exact HB.out | apply below_alloc | apply pw_below_drewN | apply below_drew1) | exact HB.out)))); have n1_ := Aside0.mk (Kd.R_lower ho1 (below_size (by repeat (first | (with_reducible first | exact HB.out | apply below_alloc | apply pw_below_drewN | apply below_drew1) | exact HB.out)))); have n2_ := Aside0.mk (below_step (by repeat (first | (with_reducible first | exact HB.out | apply below_alloc | apply pw_below_drewN | apply below_drew1) | exact HB.out)) hb); clear HB; have HO121 := n0_; have HO124 := n1_; have HB := n2_; clear n0_ n1_ n2_; (try clear hb); (try clear hb2); (try clear hk); (try clear hi); (try clear ho0); (try clear ho1); obtain ⟨Ao5, co5, eo5⟩ := Kd.R_slice HO121.out; subst eo5; obtain ⟨Ao6, co6, eo6⟩ := Kd.R_slice HO124.out; subst eo6) | ((with_reducible refine gate_callee (f := 27) rfl ?_); refine goesL_ (some 5) rfl rfl Tryd.func27 (by kernel_rfl) rfl #[.agg #[.slice Ao5 t119.length co5, .slice Ao6 t122.length co6], .string (⟨#[97, 98, 99]⟩ : ByteArray)] rfl (by (try simp only [List.map_toArray, List.map_cons, List.map_nil]); first | done | rfl | (simp only [List.length_drop, List.length_take]; rfl)) ?_; (with_reducible refine (word_Turned.calls k _ _ t119 _ _ t122 (⟨#[97, 98, 99]⟩ : ByteArray) t125 t126 _ ?side1 ?side2 ?side3 ?side4 ?side5 A2.out).mono ?_); (case side1 => repeat (first | exact (Kd.R_reads' HO121.out).2.2 | (with_reducible refine Kd.C_alloc ?_ _) | (with_reducible refine Kd.C_drewN ?_ _) | (with_reducible refine Kd.C_drew ?_))); (case side2 => exact (Kd.R_reads' HO121.out).2.1); (case side3 => repeat (first | exact (Kd.R_reads' HO124.out).2.2 | (with_reducible refine Kd.C_alloc ?_ _) | (with_reducible refine Kd.C_drewN ?_ _) | (with_reducible refine Kd.C_drew ?_))); (case side4 => exact (Kd.R_reads' HO124.out).2.1); (case side5 => exact GLaid.below_ HG.out (by repeat (first | (with_reducible first | exact HB.out | apply below_alloc | apply pw_below_drewN | apply below_drew1) | exact HB.out))); rintro e w7 ⟨rfl, hb⟩; refine ⟨_, rfl, ?_⟩; have n0_ := Aside0.mk (Kd.R_below (by (with_reducible repeat (first | apply Kd.R_alloc | apply Kd.R_drewN | apply Kd.R_drew)); exact HO121.out) hb); have n1_ := Aside0.mk (Kd.R_below (by (with_reducible repeat (first | apply Kd.R_alloc | apply Kd.R_drewN | apply Kd.R_drew)); exact HO124.out) hb); have n2_ := Aside0.mk (below_step (by repeat (first | (with_reducible first | exact HB.out | apply below_alloc | apply pw_below_drewN | apply below_drew1) | exact HB.out)) hb); clear HO121; clear HO124; clear HB; have HO121 := n0_; have HO124 := n1_; have HB := n2_; clear n0_ n1_ n2_; (try clear hb); (try clear hb2); (try clear hk); (try clear hi)))
    go_ret
    exact ⟨by first | rfl | (simp [errW_none, errW_some] <;> rfl) | (simp [*, errW_none, errW_some] <;> rfl), by repeat (first | (with_reducible first | exact HB.out | apply below_alloc | apply pw_below_drewN | apply below_drew1) | exact HB.out)⟩
  · rw [if_neg c3] at H
    have c3b0 : (t126 == 0) = false := beq_eq_false_iff_ne.mpr c3
    have c3b1 : (t126 != 0) = true := bne_iff_ne.mpr c3
    obtain rfl := Option.some.inj H
    go_enter Tryd.func20, Tryd.ntmps20
    go_wp2_with (first | ((with_reducible refine gate_callee (f := 68) rfl ?_); refine goesL_ (some 4) rfl rfl Tryd.func68 (by kernel_rfl) rfl #[] rfl (by (try simp only [List.map_toArray, List.map_cons, List.map_nil]); first | done | rfl | (simp only [List.length_drop, List.length_take]; rfl)) ?_; (with_reducible refine (cognatelaw03_abc.calls  t119 t122 _ A1.out).mono ?_); rintro e w8 ⟨v120, v123, rfl, ho0, ho1, hb⟩; refine ⟨_, rfl, ?_⟩; have n0_ := Aside0.mk (Kd.R_lower ho0 (below_size (by repeat (first | (with_reducible first | exact HB.out | apply below_alloc | apply pw_below_drewN | apply below_drew1) | exact HB.out)))); have n1_ := Aside0.mk (Kd.R_lower ho1 (below_size (by repeat (first | (with_reducible first | exact HB.out | apply below_alloc | apply pw_below_drewN | apply below_drew1) | exact HB.out)))); have n2_ := Aside0.mk (below_step (by repeat (first | (with_reducible first | exact HB.out | apply below_alloc | apply pw_below_drewN | apply below_drew1) | exact HB.out)) hb); clear HB; have HO121 := n0_; have HO124 := n1_; have HB := n2_; clear n0_ n1_ n2_; (try clear hb); (try clear hb2); (try clear hk); (try clear hi); (try clear ho0); (try clear ho1); obtain ⟨Ao9, co9, eo9⟩ := Kd.R_slice HO121.out; subst eo9; obtain ⟨Ao10, co10, eo10⟩ := Kd.R_slice HO124.out; subst eo10) | ((with_reducible refine gate_callee (f := 27) rfl ?_); refine goesL_ (some 5) rfl rfl Tryd.func27 (by kernel_rfl) rfl #[.agg #[.slice Ao9 t119.length co9, .slice Ao10 t122.length co10], .string (⟨#[97, 98, 99]⟩ : ByteArray)] rfl (by (try simp only [List.map_toArray, List.map_cons, List.map_nil]); first | done | rfl | (simp only [List.length_drop, List.length_take]; rfl)) ?_; (with_reducible refine (word_Turned.calls k _ _ t119 _ _ t122 (⟨#[97, 98, 99]⟩ : ByteArray) t125 t126 _ ?side1 ?side2 ?side3 ?side4 ?side5 A2.out).mono ?_); (case side1 => repeat (first | exact (Kd.R_reads' HO121.out).2.2 | (with_reducible refine Kd.C_alloc ?_ _) | (with_reducible refine Kd.C_drewN ?_ _) | (with_reducible refine Kd.C_drew ?_))); (case side2 => exact (Kd.R_reads' HO121.out).2.1); (case side3 => repeat (first | exact (Kd.R_reads' HO124.out).2.2 | (with_reducible refine Kd.C_alloc ?_ _) | (with_reducible refine Kd.C_drewN ?_ _) | (with_reducible refine Kd.C_drew ?_))); (case side4 => exact (Kd.R_reads' HO124.out).2.1); (case side5 => exact GLaid.below_ HG.out (by repeat (first | (with_reducible first | exact HB.out | apply below_alloc | apply pw_below_drewN | apply below_drew1) | exact HB.out))); rintro e w11 ⟨rfl, hb⟩; refine ⟨_, rfl, ?_⟩; have n0_ := Aside0.mk (Kd.R_below (by (with_reducible repeat (first | apply Kd.R_alloc | apply Kd.R_drewN | apply Kd.R_drew)); exact HO121.out) hb); have n1_ := Aside0.mk (Kd.R_below (by (with_reducible repeat (first | apply Kd.R_alloc | apply Kd.R_drewN | apply Kd.R_drew)); exact HO124.out) hb); have n2_ := Aside0.mk (below_step (by repeat (first | (with_reducible first | exact HB.out | apply below_alloc | apply pw_below_drewN | apply below_drew1) | exact HB.out)) hb); clear HO121; clear HO124; clear HB; have HO121 := n0_; have HO124 := n1_; have HB := n2_; clear n0_ n1_ n2_; (try clear hb); (try clear hb2); (try clear hk); (try clear hi)))
    go_ret
    exact ⟨by first | rfl | (simp [errW_none, errW_some] <;> rfl) | (simp [*, errW_none, errW_some] <;> rfl), by repeat (first | (with_reducible first | exact HB.out | apply below_alloc | apply pw_below_drewN | apply below_drew1) | exact HB.out)⟩

theorem results_tmp4 {fn : Func} {t u v x : Tmp} (h : fn.results = #[.tmp t, .tmp u, .tmp v, .tmp x]) (tmps : Array Value) (P : Program) (w : World) :
    (results fn tmps).run P w = .ok (.tuple #[tmps.getD t undef, tmps.getD u undef, tmps.getD v undef, tmps.getD x undef]) w := by
  simp [results, h]
def bothB (fs : List ByteArray) (ls : List S118) (x y : ByteArray) : List Int × List Int × Int :=
  if (lettersB fs ls x).2 ≠ 0 then ([], [], (lettersB fs ls x).2) else if (lettersB fs ls y).2 ≠ 0 then ([], [], (lettersB fs ls y).2) else ((lettersB fs ls x).1, (lettersB fs ls y).1, 0)
theorem readP_err (ls : List S118) : ∀ ps out, (readP ls ps out).2 ≠ 0 → (readP ls ps out).1 = []
  | [], out, h => absurd rfl h
  | p :: ps, out, h => by
    unfold readP at h ⊢
    split
    · rfl
    · split
      · rfl
      · split
        · rfl
        · rename_i h1 h2 h3
          rw [if_neg h1, if_neg h2, if_neg h3] at h
          exact readP_err ls ps _ h
theorem letters_alpha {fs : List ByteArray} {ls : List S118} {x : ByteArray} (h : (lettersB fs ls x).2 = 0) : alphaB fs ls = true := by
  cases hal : alphaB fs ls with
  | true => rfl
  | false => unfold lettersB at h; rw [hal] at h; simp at h
theorem readP_wf (ls : List S118) : ∀ (ps : List S97) (out : List Int), (∀ p ∈ ps, (Lit.int .i32 p.f0).wf = true) → (∀ x ∈ out, (Lit.int .i32 x).wf = true) → out.length ≤ 64 → (∀ x ∈ (readP ls ps out).1, (Lit.int .i32 x).wf = true) ∧ (readP ls ps out).1.length ≤ 64
  | [], out, _, h2, h3 => ⟨h2, h3⟩
  | p :: ps, out, h1, h2, h3 => by
    unfold readP
    split
    · simp
    · split
      · simp
      · split
        · simp
        · exact readP_wf ls ps _ (fun q hq => h1 q (by simp [hq])) (fun x hx => by rcases List.mem_append.1 hx with hx | hx; exact h2 x hx; simp at hx; subst hx; exact h1 p (by simp)) (by simp; omega)
theorem letters_wf (fs : List ByteArray) (ls : List S118) (x : ByteArray) : (∀ r ∈ (lettersB fs ls x).1, (Lit.int .i32 r).wf = true) ∧ (lettersB fs ls x).1.length ≤ 64 := by
  unfold lettersB
  split
  · exact readP_wf ls _ [] (fun p hp => piece_wf hp) (by simp) (by simp)
  · simp
theorem both_yes {fs : List ByteArray} {ls : List S118} {x y : ByteArray} (h : (bothB fs ls x y).2.2 = 0) : lettersB fs ls x = ((bothB fs ls x y).1, 0) ∧ lettersB fs ls y = ((bothB fs ls x y).2.1, 0) := by
  unfold bothB at h ⊢
  split at h
  · rename_i h1; exact absurd h h1
  · split at h
    · rename_i h1; exact absurd h h1
    · rename_i h1 h2
      rw [if_neg h1, if_neg h2]
      exact ⟨Prod.ext rfl (by simpa using h1), Prod.ext rfl (by simpa using h2)⟩
set_option maxHeartbeats 4000000 in
set_option maxRecDepth 100000 in
theorem word_both.no (A0_0 : Option Addr) (c0_0 : Nat) (l0_0 : List ByteArray) (A0_1 : Option Addr) (c0_1 : Nat) (l0_1 : List (S118)) (a1 a2 : ByteArray) (w : World) (hr0 : Kd.C Kd.string w A0_0 l0_0.length l0_0) (hc0 : l0_0.length ≤ c0_0) (hr1 : Kd.C k118 w A0_1 l0_1.length l0_1) (hc1 : l0_1.length ≤ c0_1)
    (hG : GLaid w) (hfit : fitsS l0_0 = true) (r : Int) (h0 : (bothB l0_0 l0_1 a1 a2).2.2 = r) (hr : r ≠ 0) : Calls Tryd.prog 79 #[.agg #[.slice A0_0 l0_0.length c0_0, .slice A0_1 l0_1.length c0_1], .string a1, .string a2] w fun e w' =>
      e = .returned (.tuple #[.map none, .slice none 0 0, .slice none 0 0, .int .i64 r]) ∧ Below w.heap.size w w' := by
  have HFIT := Aside0.mk hfit
  have HG := Aside0.mk hG
  have HR0 := Aside0.mk hr0
  have HR1 := Aside0.mk hr1
  have HC0 := Aside0.mk hc0
  have HC1 := Aside0.mk hc1
  clear hfit hG hr0 hr1 hc0 hc1
  have hu := Tryd.underlying38
  cases hal : alphaB l0_0 l0_1 with
  | false =>
    have HAL := Aside0.mk hal
    obtain rfl : r = 7 := by rw [← h0]; unfold bothB lettersB; rw [hal]; simp
    clear h0 hal hr
    go_enter Tryd.func79, Tryd.ntmps79
    go_wp2_with (first | ((with_reducible refine gate_dst (N := 3) rfl ?_); refine box_event ?hg (N := 3) ?hd (cs := #[.slice A0_0 l0_0.length c0_0, .slice A0_1 l0_1.length c0_1]) (t := 38) ?hr ?_; (case hd => rfl); (case hg => rfl); (case hr => first | (go_simp; done) | (go_simp; rfl)); intro gb hg w3 hbox hb; have HB := Aside0.mk hb; clear hb; have hcz0 : w3.cell? ⟨gb, 0, none⟩ = some (.slice A0_0 l0_0.length c0_0) := (blk_cell hbox 0).trans rfl; have hcz1 : w3.cell? ⟨gb, 1, none⟩ = some (.slice A0_1 l0_1.length c0_1) := (blk_cell hbox 1).trans rfl; clear hbox hg) | (go_at_call 69; refine (word_ranks.no A0_0 c0_0 l0_0 A0_1 c0_1 l0_1 _ (Kd.C_below HR0.out HB.out) HC0.out (Kd.C_below HR1.out HB.out) HC1.out HFIT.out HAL.out).mono ?_; rintro e w4 ⟨rfl, hb4⟩; have HB4 := Aside0.mk (below_step HB.out hb4); clear hb4))
    ((try simp only [Exit.inBlock, Exit.then]); refine bodyPost_ret (results_tmp4 rfl _ _ _) rfl ?_)
    exact ⟨rfl, HB4.out⟩
  | true =>
    have HAL := Aside0.mk hal
    have hx : lettersB l0_0 l0_1 a1 = readP l0_1 (pieces (cut65 a1)) [] := by unfold lettersB; rw [hal, if_pos rfl]
    have hy : lettersB l0_0 l0_1 a2 = readP l0_1 (pieces (cut65 a2)) [] := by unfold lettersB; rw [hal, if_pos rfl]
    unfold bothB at h0
    rw [hx, hy] at h0
    by_cases e1 : (readP l0_1 (pieces (cut65 a1)) []).2 = 0
    · rw [if_neg (by simpa using e1)] at h0
      have e2 : (readP l0_1 (pieces (cut65 a2)) []).2 = r := by
        by_cases e3 : (readP l0_1 (pieces (cut65 a2)) []).2 = 0
        · rw [if_neg (by simpa using e3)] at h0; exact absurd h0.symm hr
        · rw [if_pos e3] at h0; exact h0
      have b1 : decide (r = 0) = false := decide_eq_false hr
      have HX : Aside0 (readP l0_1 (pieces (cut65 a1)) [] = ((readP l0_1 (pieces (cut65 a1)) []).1, 0)) := ⟨Prod.ext rfl e1⟩
      have HY : Aside0 (readP l0_1 (pieces (cut65 a2)) [] = ([], r)) := ⟨Prod.ext (readP_err l0_1 (pieces (cut65 a2)) [] (by rw [e2]; exact hr)) e2⟩
      clear h0 hx hy hal e1 e2
      go_enter Tryd.func79, Tryd.ntmps79
      go_wp2_with (first | ((with_reducible refine gate_dst (N := 3) rfl ?_); refine box_event ?hg (N := 3) ?hd (cs := #[.slice A0_0 l0_0.length c0_0, .slice A0_1 l0_1.length c0_1]) (t := 38) ?hr ?_; (case hd => rfl); (case hg => rfl); (case hr => first | (go_simp; done) | (go_simp; rfl)); intro gb hg w3 hbox hb; have HB := Aside0.mk hb; clear hb; have hcz0 : w3.cell? ⟨gb, 0, none⟩ = some (.slice A0_0 l0_0.length c0_0) := (blk_cell hbox 0).trans rfl; have hcz1 : w3.cell? ⟨gb, 1, none⟩ = some (.slice A0_1 l0_1.length c0_1) := (blk_cell hbox 1).trans rfl; clear hbox hg) | (go_at_call 69; refine (word_ranks.yes A0_0 c0_0 l0_0 A0_1 c0_1 l0_1 _ (Kd.C_below HR0.out HB.out) HC0.out (Kd.C_below HR1.out HB.out) HC1.out HFIT.out HAL.out).mono ?_; rintro e w4 ⟨bm, m, rfl, hbm, hM4, hRK, hb4⟩; have HB4 := Aside0.mk (below_step HB.out hb4); have HM4 := Aside0.mk hM4; have HRK := Aside0.mk hRK; clear hb4 hM4 hRK hbm) | (go_at_call 70; (with_reducible refine (word_read.ok bm _ m l0_1 a1 _ (GLaid.below_ HG.out HB4.out) HM4.out HRK.out _ _ HX.out).mono ?_); rintro e w5 ⟨v5, rfl, hR5, hB5⟩; have HM5 := Aside0.mk (HM4.out.below hB5); have HB5 := Aside0.mk (below_step HB4.out hB5); clear hR5 hB5) | (go_at_call 70; (with_reducible refine (word_read.ok bm _ m l0_1 a2 _ (GLaid.below_ HG.out HB5.out) HM5.out HRK.out _ _ HY.out).mono ?_); rintro e w6 ⟨v6, rfl, hR6, hB6⟩; have HB6 := Aside0.mk (below_step HB5.out hB6); clear hR6 hB6))
      ((try simp only [Exit.inBlock, Exit.then]); refine bodyPost_ret (results_tmp4 rfl _ _ _) rfl ?_)
      exact ⟨rfl, HB6.out⟩
    · rw [if_pos e1] at h0
      have b1 : decide (r = 0) = false := decide_eq_false hr
      have HX : Aside0 (readP l0_1 (pieces (cut65 a1)) [] = ([], r)) := ⟨Prod.ext (readP_err l0_1 (pieces (cut65 a1)) [] e1) h0⟩
      clear h0 hx hy hal e1
      go_enter Tryd.func79, Tryd.ntmps79
      go_wp2_with (first | ((with_reducible refine gate_dst (N := 3) rfl ?_); refine box_event ?hg (N := 3) ?hd (cs := #[.slice A0_0 l0_0.length c0_0, .slice A0_1 l0_1.length c0_1]) (t := 38) ?hr ?_; (case hd => rfl); (case hg => rfl); (case hr => first | (go_simp; done) | (go_simp; rfl)); intro gb hg w3 hbox hb; have HB := Aside0.mk hb; clear hb; have hcz0 : w3.cell? ⟨gb, 0, none⟩ = some (.slice A0_0 l0_0.length c0_0) := (blk_cell hbox 0).trans rfl; have hcz1 : w3.cell? ⟨gb, 1, none⟩ = some (.slice A0_1 l0_1.length c0_1) := (blk_cell hbox 1).trans rfl; clear hbox hg) | (go_at_call 69; refine (word_ranks.yes A0_0 c0_0 l0_0 A0_1 c0_1 l0_1 _ (Kd.C_below HR0.out HB.out) HC0.out (Kd.C_below HR1.out HB.out) HC1.out HFIT.out HAL.out).mono ?_; rintro e w4 ⟨bm, m, rfl, hbm, hM4, hRK, hb4⟩; have HB4 := Aside0.mk (below_step HB.out hb4); have HM4 := Aside0.mk hM4; have HRK := Aside0.mk hRK; clear hb4 hM4 hRK hbm) | (go_at_call 70; (with_reducible refine (word_read.ok bm _ m l0_1 a1 _ (GLaid.below_ HG.out HB4.out) HM4.out HRK.out _ _ HX.out).mono ?_); rintro e w5 ⟨v5, rfl, hR5, hB5⟩; have HB5 := Aside0.mk (below_step HB4.out hB5); clear hR5 hB5))
      ((try simp only [Exit.inBlock, Exit.then]); refine bodyPost_ret (results_tmp4 rfl _ _ _) rfl ?_)
      exact ⟨rfl, HB5.out⟩
set_option maxHeartbeats 4000000 in
set_option maxRecDepth 100000 in
theorem word_both.yes (A0_0 : Option Addr) (c0_0 : Nat) (l0_0 : List ByteArray) (A0_1 : Option Addr) (c0_1 : Nat) (l0_1 : List (S118)) (a1 a2 : ByteArray) (w : World) (hr0 : Kd.C Kd.string w A0_0 l0_0.length l0_0) (hc0 : l0_0.length ≤ c0_0) (hr1 : Kd.C k118 w A0_1 l0_1.length l0_1) (hc1 : l0_1.length ≤ c0_1)
    (hG : GLaid w) (hfit : fitsS l0_0 = true) (lx ly : List Int) (hx : lettersB l0_0 l0_1 a1 = (lx, 0)) (hy : lettersB l0_0 l0_1 a2 = (ly, 0)) : Calls Tryd.prog 79 #[.agg #[.slice A0_0 l0_0.length c0_0, .slice A0_1 l0_1.length c0_1], .string a1, .string a2] w fun e w' =>
      ∃ bm m A1 c1 A2 c2, e = .returned (.tuple #[.map (some bm), .slice A1 lx.length c1, .slice A2 ly.length c2, .int .i64 0]) ∧ w.heap.size ≤ bm ∧ YtfpfdmenhgageaaDoorMp.MapI (YtfpfdmenhgageaaDoorMp.intKey Tryd.underlying21) (YtfpfdmenhgageaaDoorMp.intElem Tryd.underlying3) w' bm l0_1.length m ∧ Ranked m l0_1 ∧
        Kd.C (Kd.int .i32) w' A1 lx.length lx ∧ lx.length ≤ c1 ∧ Kd.C (Kd.int .i32) w' A2 ly.length ly ∧ ly.length ≤ c2 ∧ Below w.heap.size w w' := by
  have HFIT := Aside0.mk hfit
  have HG := Aside0.mk hG
  have HR0 := Aside0.mk hr0
  have HR1 := Aside0.mk hr1
  have HC0 := Aside0.mk hc0
  have HC1 := Aside0.mk hc1
  have hal : alphaB l0_0 l0_1 = true := letters_alpha (x := a1) (by rw [hx])
  clear hfit hG hr0 hr1 hc0 hc1
  have hu := Tryd.underlying38
  have HAL := Aside0.mk hal
  have HX : Aside0 (readP l0_1 (pieces (cut65 a1)) [] = (lx, 0)) := ⟨by rw [← hx]; unfold lettersB; rw [hal, if_pos rfl]⟩
  have HY : Aside0 (readP l0_1 (pieces (cut65 a2)) [] = (ly, 0)) := ⟨by rw [← hy]; unfold lettersB; rw [hal, if_pos rfl]⟩
  clear hx hy hal
  go_enter Tryd.func79, Tryd.ntmps79
  go_wp2_with (first | ((with_reducible refine gate_dst (N := 3) rfl ?_); refine box_event ?hg (N := 3) ?hd (cs := #[.slice A0_0 l0_0.length c0_0, .slice A0_1 l0_1.length c0_1]) (t := 38) ?hr ?_; (case hd => rfl); (case hg => rfl); (case hr => first | (go_simp; done) | (go_simp; rfl)); intro gb hg w3 hbox hb; have HB := Aside0.mk hb; clear hb; have hcz0 : w3.cell? ⟨gb, 0, none⟩ = some (.slice A0_0 l0_0.length c0_0) := (blk_cell hbox 0).trans rfl; have hcz1 : w3.cell? ⟨gb, 1, none⟩ = some (.slice A0_1 l0_1.length c0_1) := (blk_cell hbox 1).trans rfl; clear hbox hg) | (go_at_call 69; refine (word_ranks.yes A0_0 c0_0 l0_0 A0_1 c0_1 l0_1 _ (Kd.C_below HR0.out HB.out) HC0.out (Kd.C_below HR1.out HB.out) HC1.out HFIT.out HAL.out).mono ?_; rintro e w4 ⟨bm, m, rfl, hbm, hM4, hRK, hb4⟩; have HBM : Aside0 (w.heap.size ≤ bm) := ⟨Nat.le_trans HB.out.size hbm⟩; have HB4 := Aside0.mk (below_step HB.out hb4); have HM4 := Aside0.mk hM4; have HRK := Aside0.mk hRK; clear hb4 hM4 hRK hbm) | (go_at_call 70; (with_reducible refine (word_read.ok bm _ m l0_1 a1 _ (GLaid.below_ HG.out HB4.out) HM4.out HRK.out _ _ HX.out).mono ?_); rintro e w5 ⟨v5, rfl, hR5, hB5⟩; obtain ⟨A5, c5, rfl, hl5, hC5⟩ := Kd.R_reads hR5; have HL5 := Aside0.mk hl5; have HC5 := Aside0.mk hC5; have HM5 := Aside0.mk (HM4.out.below hB5); have HB5 := Aside0.mk (below_step HB4.out hB5); clear hR5 hB5 hl5 hC5) | (go_at_call 70; (with_reducible refine (word_read.ok bm _ m l0_1 a2 _ (GLaid.below_ HG.out HB5.out) HM5.out HRK.out _ _ HY.out).mono ?_); rintro e w6 ⟨v6, rfl, hR6, hB6⟩; obtain ⟨A6, c6, rfl, hl6, hC6⟩ := Kd.R_reads hR6; have HL6 := Aside0.mk hl6; have HC6 := Aside0.mk hC6; have HC56 := Aside0.mk (Kd.C_below HC5.out hB6); have HM6 := Aside0.mk (HM5.out.below hB6); have HB6 := Aside0.mk (below_step HB5.out hB6); clear hR6 hB6 hl6 hC6))
  ((try simp only [Exit.inBlock, Exit.then]); refine bodyPost_ret (results_tmp4 rfl _ _ _) rfl ?_)
  exact ⟨bm, m, _, _, _, _, rfl, HBM.out, HM6.out, HRK.out, HC56.out, HL5.out, HC6.out, HL6.out, HB6.out⟩

/-- How slices.CompareFunc compares. -/
def cmpL (cf : Int → Int → Int) : List Int → List Int → Int
  | [], [] => 0
  | [], _ :: _ => -1
  | _ :: _, [] => 1
  | x :: xs, y :: ys => if cf x y ≠ 0 then cf x y else cmpL cf xs ys
/-- A world with draws and blocks more. -/
def Gr (w w' : World) : Prop := ∃ q os, w' = Go.Sort.grow (w.drewN q) os
theorem Gr.refl (w : World) : Gr w w := ⟨0, #[], by rw [Go.Sort.grow]; simp [World.drewN]⟩
theorem Gr.alloc {w W : World} (h : Gr w W) (o : Obj) : Gr w (W.alloc o) := by
  obtain ⟨q, os, rfl⟩ := h
  exact ⟨q, os ++ #[o], by rw [Go.Sort.alloc_eq_grow, Go.Sort.grow_grow]⟩
theorem Gr.drewN {w W : World} (h : Gr w W) (n : Nat) : Gr w (W.drewN n) := by
  obtain ⟨q, os, rfl⟩ := h
  exact ⟨q + n, os, by rw [← World.drewN_drewN]; rfl⟩
theorem Gr.trans {w W W2 : World} (h : Gr w W) (k : Gr W W2) : Gr w W2 := by
  obtain ⟨q, os, rfl⟩ := h
  obtain ⟨q2, os2, rfl⟩ := k
  exact ⟨q + q2, os ++ os2, by rw [← World.drewN_drewN, ← Go.Sort.grow_grow]; rfl⟩
theorem Gr.below {w W : World} (h : Gr w W) : Below w.heap.size w W := by
  obtain ⟨q, os, rfl⟩ := h
  exact ⟨rfl, rfl, rfl, by simp [Go.Sort.grow, World.drewN], fun i hi => Go.Sort.heap_grow_old (w.drewN q) os hi⟩
theorem rd_int_drop (l : List Int) (k : Nat) (h : k < l.length) : l.drop k = rdOf (0 : Int) l (k : Int) :: l.drop (k + 1) := by
  rw [List.drop_eq_getElem_cons h]
  simp [rdOf, List.getD_eq_getElem?_getD, List.getElem?_eq_getElem h]
set_option maxHeartbeats 4000000 in
set_option maxRecDepth 100000 in
theorem slices_CompareFunc (g : Nat) (lb : Array Value) (eg : ∀ args w, (callFunc g args).run Tryd.prog w = .ok (.enter g args) w) (cf : Int → Int → Int) (A1 A2 : Option Addr) (c1 c2 : Nat) (xs ys : List Int) (w : World)
    (h1 : Kd.C (Kd.int .i32) w A1 xs.length xs) (h2 : Kd.C (Kd.int .i32) w A2 ys.length ys) (hx : xs.length ≤ 4611686018427387904)
    (hg : ∀ W, Gr w W → ∀ x ∈ xs, ∀ y ∈ ys, Calls Tryd.prog g (#[.int .i32 x, .int .i32 y] ++ lb) W fun e W' => e = .returned (.int .i64 (cf x y)) ∧ Gr W W') :
    Calls Tryd.prog 120 #[.slice A1 xs.length c1, .slice A2 ys.length c2, .func (.func g) #[] lb] w fun e w' => e = .returned (.int .i64 (cmpL cf xs ys)) ∧ Gr w w' := by
  have H1 := Aside0.mk h1
  have H2 := Aside0.mk h2
  have HG := Aside0.mk hg
  clear h1 h2 hg
  go_enter Tryd.func120, Tryd.ntmps120
  go_wp2
  go_loopg [13] xs.length (fun kq v13 w' => ∃ (k : Nat), v13 = .int .i64 (k : Int) ∧ k + kq = xs.length ∧ k ≤ ys.length ∧ Aside0 (cmpL cf (xs.drop k) (ys.drop k) = cmpL cf xs ys) ∧ Aside0 (Gr w w'))
  case atStart => exact ⟨0, rfl, by omega, by omega, ⟨rfl⟩, ⟨Gr.refl _⟩⟩
  case round =>
    obtain ⟨k, rfl, hk, hky, HE, HW⟩ := hrel
    by_cases hlt : k < xs.length
    · have b4 : decide ((k : Int) < (xs.length : Int)) = true := decide_eq_true (by omega)
      obtain ⟨ad, e0, hx1⟩ := (Kd.reads_of_C (enc := Value.int .i32) (d := (0 : Int)) (h1 := fun _ => rfl) H1.out).at_ (k : Int) (by omega) (by omega)
      obtain rfl := e0
      replace hx1 := pw_cell_below HW.out.below hx1
      have hd1 := rd_int_drop xs k hlt
      have hm1 : rdOf (0 : Int) xs (k : Int) ∈ xs := by simp [rdOf, List.getD_eq_getElem?_getD, List.getElem?_eq_getElem hlt]
      generalize rdOf (0 : Int) xs (k : Int) = f1 at hx1 hd1 hm1
      simp only [Int.toNat_natCast] at hx1
      by_cases hlt2 : k < ys.length
      · have b5 : decide ((ys.length : Int) ≤ (k : Int)) = false := decide_eq_false (by omega)
        obtain ⟨ad2, e0, hx2⟩ := (Kd.reads_of_C (enc := Value.int .i32) (d := (0 : Int)) (h1 := fun _ => rfl) H2.out).at_ (k : Int) (by omega) (by omega)
        obtain rfl := e0
        replace hx2 := pw_cell_below HW.out.below hx2
        have hd2 := rd_int_drop ys k hlt2
        have hm2 : rdOf (0 : Int) ys (k : Int) ∈ ys := by simp [rdOf, List.getD_eq_getElem?_getD, List.getElem?_eq_getElem hlt2]
        generalize rdOf (0 : Int) ys (k : Int) = f2 at hx2 hd2 hm2
        simp only [Int.toNat_natCast] at hx2
        have HC := Aside0.mk (HG.out wr HW.out f1 hm1 f2 hm2)
        have HEE : Aside0 (cmpL cf xs ys = if cf f1 f2 ≠ 0 then cf f1 f2 else cmpL cf (xs.drop (k + 1)) (ys.drop (k + 1))) := ⟨by rw [← HE.out, hd1, hd2]; rfl⟩
        clear hd1 hd2 hm1 hm2 HE
        go_wp2
        refine HC.out.mono ?_
        rintro e w7 ⟨rfl, hg7⟩
        have HW7 := Aside0.mk (HW.out.trans hg7)
        clear hg7
        by_cases hz : cf f1 f2 = 0
        · have b6 : decide (cf f1 f2 = 0) = true := decide_eq_true hz
          rw [hz] at HEE ⊢
          go_wp2
          go_roundg (xs.length - (k + 1))
          case measure => omega
          case rel => exact ⟨k + 1, by first | rfl | rw [show wrap64 ((k : Int) + 1) = ((k + 1 : Nat) : Int) from by unfold wrap64; omega], by omega, by omega, ⟨by rw [HEE.out]; simp⟩, HW7⟩
        · have b6 : decide (cf f1 f2 = 0) = false := decide_eq_false hz
          have HEE2 : Aside0 (cmpL cf xs ys = cf f1 f2) := ⟨by rw [HEE.out, if_pos hz]⟩
          generalize cf f1 f2 = z at *
          go_wp2
          go_ret
          exact ⟨by rw [HEE2.out]; rfl, HW7.out⟩
      · have b5 : decide ((ys.length : Int) ≤ (k : Int)) = true := decide_eq_true (by omega)
        have HEE : Aside0 (cmpL cf xs ys = 1) := ⟨by rw [← HE.out, hd1, List.drop_of_length_le (show ys.length ≤ k by omega)]; rfl⟩
        clear hd1 hm1 HE
        go_wp2
        go_ret
        exact ⟨by rw [HEE.out]; rfl, HW.out⟩
    · have b4 : decide ((k : Int) < (xs.length : Int)) = false := decide_eq_false (by omega)
      have hE : cmpL cf xs ys = if (xs.length : Int) < ys.length then -1 else 0 := by
        rw [← HE.out, List.drop_of_length_le (show xs.length ≤ k by omega)]
        by_cases h : k < ys.length
        · rw [rd_int_drop ys k h, if_pos (by omega)]; rfl
        · rw [List.drop_of_length_le (show ys.length ≤ k by omega), if_neg (by omega)]; rfl
      have HEE := Aside0.mk hE
      clear hE HE
      by_cases h : (xs.length : Int) < ys.length
      · have b5 : decide ((xs.length : Int) < (ys.length : Int)) = true := decide_eq_true h
        have HEF : Aside0 (cmpL cf xs ys = -1) := ⟨by rw [HEE.out, if_pos h]⟩
        go_wp2
        go_ret
        exact ⟨by rw [HEF.out]; rfl, HW.out⟩
      · have b5 : decide ((xs.length : Int) < (ys.length : Int)) = false := decide_eq_false h
        have HEF : Aside0 (cmpL cf xs ys = 0) := ⟨by rw [HEE.out, if_neg h]⟩
        go_wp2
        go_ret
        exact ⟨by rw [HEF.out]; rfl, HW.out⟩
/-- How two letters are compared. -/
def cmpR (ls : List S118) (x y : Int) : Int := if (rankOf ls x).getD 0 < (rankOf ls y).getD 0 then -1 else if (rankOf ls y).getD 0 < (rankOf ls x).getD 0 then 1 else 0
theorem rank_get {m : Int → Option Int} {ls : List S118} (hk : Ranked m ls) (x : Int) : (m x).getD 0 = (((rankOf ls x).getD 0 : Nat) : Int) := by
  rw [hk x]; cases rankOf ls x <;> rfl
theorem compareInt_rank (ls : List S118) (x y : Int) : Lib.compareInt (((rankOf ls x).getD 0 : Nat) : Int) (((rankOf ls y).getD 0 : Nat) : Int) = cmpR ls x y := by
  unfold Lib.compareInt cmpR
  repeat' split
  all_goals first | rfl | omega
set_option maxHeartbeats 4000000 in
set_option maxRecDepth 100000 in
theorem word_compared.one (bm c n : Nat) (m : Int → Option Int) (ls : List S118) (x y : Int) (w : World) (hM : YtfpfdmenhgageaaDoorMp.MapI (YtfpfdmenhgageaaDoorMp.intKey Tryd.underlying21) (YtfpfdmenhgageaaDoorMp.intElem Tryd.underlying3) w bm n m) (hk : Ranked m ls)
    (hc : w.cell? ⟨c, 0, none⟩ = some (.map (some bm))) (hx : (Lit.int .i32 x).wf = true) (hy : (Lit.int .i32 y).wf = true) :
    Calls Tryd.prog 121 #[.int .i32 x, .int .i32 y, .pointer (some ⟨c, 0, none⟩)] w fun e w' => e = .returned (.int .i64 (cmpR ls x y)) ∧ Gr w w' := by
  have HM := Aside0.mk hM
  have HX := Aside0.mk hx
  have HY := Aside0.mk hy
  have HKX := Aside0.mk (rank_get hk x)
  have HKY := Aside0.mk (rank_get hk y)
  have HR := Aside0.mk (compareInt_rank ls x y)
  clear hM hk hx hy
  go_enter Tryd.func121, Tryd.ntmps121
  go_wp2_with (first | (at_lookup; refine YtfpfdmenhgageaaDoorMp.wp_look _ rfl _ _ _ rfl (YtfpfdmenhgageaaDoorMp.intKey Tryd.underlying21) (YtfpfdmenhgageaaDoorMp.intElem Tryd.underlying3) Tryd.underlying100 0 (by kernel_rfl) rfl bm n m rfl HM.out x rfl HX.out ?_; rw [HKX.out]) | (at_lookup; refine YtfpfdmenhgageaaDoorMp.wp_look _ rfl _ _ _ rfl (YtfpfdmenhgageaaDoorMp.intKey Tryd.underlying21) (YtfpfdmenhgageaaDoorMp.intElem Tryd.underlying3) Tryd.underlying100 0 (by kernel_rfl) rfl bm n m rfl HM.out y rfl HY.out ?_; rw [HKY.out]) | (go_at_call 100; refine (Tryd.cmp_Compare_int _ _ _).mono ?_; rintro e w2 ⟨rfl, rfl⟩))
  go_ret
  exact ⟨by rw [HR.out]; rfl, Gr.refl _⟩
set_option maxHeartbeats 4000000 in
set_option maxRecDepth 100000 in
theorem word_compared (bm n : Nat) (m : Int → Option Int) (ls : List S118) (A1 A2 : Option Addr) (c1 c2 : Nat) (xs ys : List Int) (w : World) (hM : YtfpfdmenhgageaaDoorMp.MapI (YtfpfdmenhgageaaDoorMp.intKey Tryd.underlying21) (YtfpfdmenhgageaaDoorMp.intElem Tryd.underlying3) w bm n m) (hk : Ranked m ls)
    (h1 : Kd.C (Kd.int .i32) w A1 xs.length xs) (h2 : Kd.C (Kd.int .i32) w A2 ys.length ys) (hlx : xs.length ≤ 4611686018427387904) (hx : ∀ x ∈ xs, (Lit.int .i32 x).wf = true) (hy : ∀ y ∈ ys, (Lit.int .i32 y).wf = true) :
    Calls Tryd.prog 84 #[.map (some bm), .slice A1 xs.length c1, .slice A2 ys.length c2] w fun e w' => e = .returned (.int .i64 (cmpL (cmpR ls) xs ys)) ∧ Gr w w' := by
  have hb := below_alloc (Below.refl _ w) (.cells #[.map (some bm)] 100)
  have hcell : (w.alloc (.cells #[.map (some bm)] 100)).cell? ⟨w.heap.size, 0, none⟩ = some (.map (some bm)) := (blk_cell (blk_new w _) 0).trans rfl
  have HCF := Aside0.mk (slices_CompareFunc 121 #[.pointer (some ⟨w.heap.size, 0, none⟩)] (enters_of Tryd.func121 (by kernel_rfl) rfl) (cmpR ls) A1 A2 c1 c2 xs ys (w.alloc (.cells #[.map (some bm)] 100)) (Kd.C_below h1 hb) (Kd.C_below h2 hb) hlx
    (fun W hW x hx' y hy' => word_compared.one bm w.heap.size n m ls x y W ((hM.alloc _).below hW.below) hk (pw_cell_below hW.below hcell) (hx x hx') (hy y hy')))
  have hmf : ∀ (W : World) (a : Nat), (Instr.makeFunc (.func 121) #[] #[.pointer (some ⟨a, 0, none⟩)]).run Tryd.prog W = .ok (.func (.func 121) #[] #[.pointer (some ⟨a, 0, none⟩)]) W := by intro W a; simp [go_sem, Instr.makeFunc]
  have HGA : Aside0 (Gr w (w.alloc (.cells #[.map (some bm)] 100))) := ⟨(Gr.refl w).alloc _⟩
  clear hM hk h1 h2 hx hy hb hcell
  go_enter Tryd.func84, Tryd.ntmps84
  go_wp2_with (go_at_call 120; refine HCF.out.mono ?_; rintro e w2 ⟨rfl, hg⟩; have HG2 := Aside0.mk (HGA.out.trans hg); clear hg)
  go_ret
  exact ⟨rfl, HG2.out⟩

/-! ### word_Cmp: function 41 (by hand) -/
def cmpB (fs : List ByteArray) (ls : List S118) (x y : ByteArray) : Int × Int := if (bothB fs ls x y).2.2 ≠ 0 then (0, (bothB fs ls x y).2.2) else (cmpL (cmpR ls) (bothB fs ls x y).1 (bothB fs ls x y).2.1, 0)
def word_Cmp.f (l0_0 : List ByteArray) (l0_1 : List (S118)) (a1 : ByteArray) (a2 : ByteArray) : Option (Int × Int) := if fitsS l0_0 = true then some (cmpB l0_0 l0_1 a1 a2) else none
set_option maxHeartbeats 4000000 in
set_option maxRecDepth 100000 in
theorem word_Cmp.calls (A0_0 : Option Addr) (c0_0 : Nat) (l0_0 : List ByteArray) (A0_1 : Option Addr) (c0_1 : Nat) (l0_1 : List (S118)) (a1 : ByteArray) (a2 : ByteArray) (r1 : Int) (r2 : Int) (w : World) (hr0_0 : Kd.C Kd.string w A0_0 l0_0.length l0_0) (hc0_0 : l0_0.length ≤ c0_0) (hr0_1 : Kd.C k118 w A0_1 l0_1.length l0_1) (hc0_1 : l0_1.length ≤ c0_1) (hG : GLaid w) (h : word_Cmp.f l0_0 l0_1 a1 a2 = some (r1, r2)) :
    Calls Tryd.prog 41 #[.agg #[.slice A0_0 l0_0.length c0_0, .slice A0_1 l0_1.length c0_1], .string a1, .string a2] w fun e w' => e = .returned (.tuple #[.int .i64 r1, .int .i64 r2]) ∧ Below w.heap.size w w' := by
  unfold word_Cmp.f at h
  split at h
  case isFalse => cases h
  rename_i hfit
  replace h := Option.some.inj h
  have HFIT := Aside0.mk hfit
  have HG := Aside0.mk hG
  have HR0 := Aside0.mk hr0_0
  have HR1 := Aside0.mk hr0_1
  have HC0 := Aside0.mk hc0_0
  have HC1 := Aside0.mk hc0_1
  clear hfit hG hr0_0 hr0_1 hc0_0 hc0_1
  have hu := Tryd.underlying38
  unfold cmpB at h
  by_cases e : (bothB l0_0 l0_1 a1 a2).2.2 = 0
  · obtain ⟨hx, hy⟩ := both_yes e
    rw [if_neg (by simpa using e)] at h
    obtain ⟨rfl, rfl⟩ := Prod.mk.inj h
    have wx := letters_wf l0_0 l0_1 a1
    have wy := letters_wf l0_0 l0_1 a2
    rw [hx] at wx
    rw [hy] at wy
    have HX := Aside0.mk hx
    have HY := Aside0.mk hy
    have HWX := Aside0.mk wx
    have HWY := Aside0.mk wy
    clear h e hx hy wx wy
    generalize (bothB l0_0 l0_1 a1 a2).1 = lx at *
    generalize (bothB l0_0 l0_1 a1 a2).2.1 = ly at *
    go_enter Tryd.func41, Tryd.ntmps41
    go_wp2_with (first | ((with_reducible refine gate_dst (N := 3) rfl ?_); refine box_event ?hg (N := 3) ?hd (cs := #[.slice A0_0 l0_0.length c0_0, .slice A0_1 l0_1.length c0_1]) (t := 38) ?hr ?_; (case hd => rfl); (case hg => rfl); (case hr => first | (go_simp; done) | (go_simp; rfl)); intro gb hg w3 hbox hb; have HB := Aside0.mk hb; clear hb; have hcz0 : w3.cell? ⟨gb, 0, none⟩ = some (.slice A0_0 l0_0.length c0_0) := (blk_cell hbox 0).trans rfl; have hcz1 : w3.cell? ⟨gb, 1, none⟩ = some (.slice A0_1 l0_1.length c0_1) := (blk_cell hbox 1).trans rfl; clear hbox hg) | (go_at_call 79; refine (word_both.yes A0_0 c0_0 l0_0 A0_1 c0_1 l0_1 a1 a2 _ (Kd.C_below HR0.out HB.out) HC0.out (Kd.C_below HR1.out HB.out) HC1.out (GLaid.below_ HG.out HB.out) HFIT.out lx ly HX.out HY.out).mono ?_; rintro e w4 ⟨bm, m, A5, c5, A6, c6, rfl, hbm, hM, hK, hC5, hL5, hC6, hL6, hB4⟩; have HB4 := Aside0.mk (below_step HB.out hB4); have HCM := Aside0.mk (word_compared bm _ m l0_1 A5 A6 c5 c6 lx ly w4 hM hK hC5 hC6 (by have := HWX.out.2; omega) HWX.out.1 HWY.out.1); clear hbm hM hK hC5 hL5 hC6 hL6 hB4) | (go_at_call 84; refine HCM.out.mono ?_; rintro e w5 ⟨rfl, hg5⟩; have HB5 := Aside0.mk (below_step HB4.out hg5.below); clear hg5))
    go_ret2
    exact ⟨rfl, HB5.out⟩
  · rw [if_pos e] at h
    obtain ⟨rfl, rfl⟩ := Prod.mk.inj h
    have b1 : decide ((bothB l0_0 l0_1 a1 a2).2.2 = 0) = false := decide_eq_false e
    have HNO : Aside0 (∃ r, (bothB l0_0 l0_1 a1 a2).2.2 = r) := ⟨_, rfl⟩
    have HE := Aside0.mk e
    clear h HNO
    have HNN := Aside0.mk (fun W ha hb hc => word_both.no A0_0 c0_0 l0_0 A0_1 c0_1 l0_1 a1 a2 W ha HC0.out hb HC1.out hc HFIT.out _ rfl HE.out)
    generalize (bothB l0_0 l0_1 a1 a2).2.2 = z at *
    clear HE
    go_enter Tryd.func41, Tryd.ntmps41
    go_wp2_with (first | ((with_reducible refine gate_dst (N := 3) rfl ?_); refine box_event ?hg (N := 3) ?hd (cs := #[.slice A0_0 l0_0.length c0_0, .slice A0_1 l0_1.length c0_1]) (t := 38) ?hr ?_; (case hd => rfl); (case hg => rfl); (case hr => first | (go_simp; done) | (go_simp; rfl)); intro gb hg w3 hbox hb; have HB := Aside0.mk hb; clear hb; have hcz0 : w3.cell? ⟨gb, 0, none⟩ = some (.slice A0_0 l0_0.length c0_0) := (blk_cell hbox 0).trans rfl; have hcz1 : w3.cell? ⟨gb, 1, none⟩ = some (.slice A0_1 l0_1.length c0_1) := (blk_cell hbox 1).trans rfl; clear hbox hg) | (go_at_call 79; refine (HNN.out _ (Kd.C_below HR0.out HB.out) (Kd.C_below HR1.out HB.out) (GLaid.below_ HG.out HB.out)).mono ?_; rintro e w4 ⟨rfl, hB4⟩; have HB4 := Aside0.mk (below_step HB.out hB4); clear hB4))
    go_ret2
    exact ⟨rfl, HB4.out⟩

end Go.Proofs.YtfpfdmenhgageaaDoor.S
