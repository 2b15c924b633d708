-- Written by this session's program (wip/ext) with the kit's printer. Not trusted: Lean checks it.
import Derived.Test.YtfpfdmenhgageaaDoorCx0
import Derived.Test.YtfpfdmenhgageaaDoorCx1
import Derived.Test.YtfpfdmenhgageaaDoorCx2
import Derived.Test.YtfpfdmenhgageaaDoorCx3
namespace Go.Proofs.YtfpfdmenhgageaaDoor.C
open Go.RowKit Go.Proofs.YtfpfdmenhgageaaDoorW.PrintWords Go.Proofs.YtfpfdmenhgageaaDoorW.PrintLast Go.Proofs.YtfpfdmenhgageaaDoorW.PrintMore
attribute [local go_sem] max2_int min2_int max_two min_two max_three min_three max_four min_four   -- for this text's walks alone
set_option linter.unusedVariables false
set_option linter.unusedSimpArgs false

/-! ### corpus_Lines: function 18 -/
def corpus_Lines.l0 : Nat → ByteArray → List Int → Int → Int → Option (List Int × Int)
  | 0, _, _, _, _ => none
  | k + 1, x0, x5, x14, x15 => if x15 < x14 then (if 0 ≤ x15 then (if x15 < (x0.size : Int) then (if (bt x0 x15) = 10 then (if x5.length < 17592186044416 then (corpus_Lines.l0 k x0 (x5 ++ [wrap64 (x15 + 1)]) x14 (wrap64 (x15 + 1))) else (none)) else (corpus_Lines.l0 k x0 x5 x14 (wrap64 (x15 + 1)))) else (none)) else (none)) else (some (x5, 0))
def corpus_Lines.f (k : Nat) (a0 : ByteArray) : Option (List Int × Int) := (corpus_text.f a0).bind fun t129 => (if t129 = 0 then (corpus_Lines.l0 k a0 (([0] : List Int)) (a0.size : Int) 0) else (some (([] : List Int), t129)))
theorem corpus_Lines.mono_l : ∀ k, (∀ y0 y1 y2 y3, LeO (corpus_Lines.l0 k y0 y1 y2 y3) (corpus_Lines.l0 (k + 1) y0 y1 y2 y3))
  | 0 => fun _ _ _ _ r h => by simp [corpus_Lines.l0] at h
  | k + 1 => by
    have ih0 := corpus_Lines.mono_l k
    · intro y0 y1 y2 y3
      unfold corpus_Lines.l0
      repeat' first
      | (with_reducible exact ih0 _ _ _ _)
      | (with_reducible exact LeO.refl _)
      | (with_reducible exact LeO.none _)
      | (with_reducible refine LeO.ite ?_ ?_)
      | (with_reducible refine LeO.bind ?_ (fun _ => ?_))
      | exact ih0 _ _ _ _
      | exact LeO.none _
      | refine LeO.ite ?_ ?_
      | refine LeO.bind ?_ (fun _ => ?_)
theorem corpus_Lines.mono : ∀ a0 k, LeO (corpus_Lines.f k a0) (corpus_Lines.f (k + 1) a0) := by
  intro a0 k
  have ih0 := corpus_Lines.mono_l k
  unfold corpus_Lines.f
  repeat' first
      | (with_reducible exact ih0 _ _ _ _)
      | (with_reducible exact LeO.refl _)
      | (with_reducible exact LeO.none _)
      | (with_reducible refine LeO.ite ?_ ?_)
      | (with_reducible refine LeO.bind ?_ (fun _ => ?_))
      | exact ih0 _ _ _ _
      | exact LeO.none _
      | refine LeO.ite ?_ ?_
      | refine LeO.bind ?_ (fun _ => ?_)
set_option maxHeartbeats 8000000 in
set_option maxRecDepth 100000 in
theorem corpus_Lines.calls (k : Nat) (a0 : ByteArray) (r1 : List Int) (r2 : Int) (w : World) (h : corpus_Lines.f k a0 = some (r1, r2)) :
    Calls Tryd.prog 18 #[.string a0] w fun e w' => ∃ v0_ : Value, e = .returned (.tuple #[v0_, .int .i64 r2]) ∧ Kd.R (Kd.int .i64) 3 w' w.heap.size (fun _ => True) v0_ r1 ∧ Below w.heap.size w w' := by
  have HB := Aside0.mk (Below.refl w.heap.size w)
  have H : ((corpus_text.f a0).bind fun t129 => (if t129 = 0 then (corpus_Lines.l0 k a0 (([0] : List Int)) (a0.size : Int) 0) else (some (([] : List Int), t129)))) = some (r1, r2) := h
  clear h
  replace H := Option.bind_eq_some_iff.mp H
  obtain ⟨t129, A20, H⟩ := H
  replace H : (if t129 = 0 then (corpus_Lines.l0 k a0 (([0] : List Int)) (a0.size : Int) 0) else (some (([] : List Int), t129))) = some (r1, r2) := H
  have A2 := Aside0.mk A20
  clear A20
  by_cases c3 : t129 = 0
  · rw [if_pos c3] at H
    have c3b0 : (t129 == 0) = true := beq_iff_eq.mpr c3
    have c3b1 : (t129 != 0) = false := bne_eq_false_iff_eq.mpr c3
    clear c3
    obtain ⟨y130, hy130⟩ : ∃ y_ : List Int, y_ = (([0] : List Int)) := ⟨_, rfl⟩
    replace H : (corpus_Lines.l0 k a0 y130 (a0.size : Int) 0) = some (r1, r2) := by first | (rw [hy130]; with_reducible exact H) | (have H2_ := (Option.bind_some _ _).symm.trans H; rw [hy130]; with_reducible exact H2_) | (have H2_ := (Option.bind_some _ _).symm.trans H; with_reducible exact H2_) | with_reducible exact H | (rw [hy130]; exact H) | exact H
    have Ny130 := Aside0.mk hy130
    clear hy130
    have H' := Aside0.mk H
    clear H
    go_enter Tryd.func18, Tryd.ntmps18
    go_wp2_with (first | ((with_reducible refine gate_callee (f := 55) rfl ?_); refine goesL_ (some 8) rfl rfl Tryd.func55 (by kernel_rfl) rfl #[.string a0] rfl (by (try simp only [List.map_toArray, List.map_cons, List.map_nil]); first | done | rfl | (simp only [List.length_drop, List.length_take]; rfl)) ?_; (with_reducible refine (corpus_text.calls a0 t129 _ A2.out).mono ?_); rintro e w' ⟨rfl, ⟨nd, rfl⟩⟩; refine ⟨_, rfl, ?_⟩) | ((with_reducible refine gate_dst (N := 12) rfl ?_); refine Kd.R_lit (Kd.int .i64) _ 3 ?hg (N := 12) ?hd (xs := ([0] : List Int)) (inner := [.int .i64 0]) (ok := fun _ => True) (okp := fun _ => True) ?hr ?hp (fun _ hk => hk) trivial (Below.refl _ _) (Nat.le_refl _) (by simp) ?_; (case hd => rfl); (case hg => rfl); (case hr => first | (go_simp; done) | (go_simp; rfl)); (case hp => exact (Reps.one (show Kd.M (Kd.int .i64) _ _ _ 0 [.int .i64 0] from rfl) (Reps.none _ _))); intro v131 w4 ho5 hb hg_ hnew_; clear hg_ hnew_; (first | rw [← Ny130.out] at ho5 | (simp only [Int.reduceToNat] at ho5; rw [← Ny130.out] at ho5)); have n0_ := Aside0.mk (Kd.R_lower ho5 (below_size (by repeat (first | (with_reducible first | exact HB.out | apply below_alloc | apply pw_below_drewN | apply below_drew1) | exact HB.out)))); have n1_ := Aside0.mk (below_step (by repeat (first | (with_reducible first | exact HB.out | apply below_alloc | apply pw_below_drewN | apply below_drew1) | exact HB.out)) hb); clear HB; have HO132 := n0_; have HB := n1_; clear n0_ n1_; clear hb ho5))
    go_loopg [5, 15] k (fun kq v5 v15 w' => ∃ (x5_1 : List Int) (x15_1 : Int), v15 = .int .i64 x15_1 ∧ Aside0 (corpus_Lines.l0 kq a0 x5_1 (a0.size : Int) x15_1 = some (r1, r2)) ∧ Aside0 (kq ≤ k) ∧ Aside0 (Kd.R (Kd.int .i64) 3 w' w.heap.size (fun _ => True) v5 x5_1) ∧ Aside0 (Below w.heap.size w w'))
    case atStart => exact ⟨(y130), (0), (by first | rfl | (simp; done) | (simp [*]; done)), H', ⟨Nat.le_refl _⟩, ⟨by (with_reducible repeat (first | apply Kd.R_alloc | apply Kd.R_drewN | apply Kd.R_drew)); exact HO132.out⟩, ⟨by repeat (first | (with_reducible first | exact HB.out | apply below_alloc | apply pw_below_drewN | apply below_drew1) | exact HB.out)⟩⟩
    case round =>
      clear H'
      try clear c1
      try clear p2
      try clear c3
      try clear c3b0
      try clear c3b1
      try clear c5
      obtain ⟨x5_1, x15_1, rfl, HA, HK1, HO_5, HB⟩ := hrel
      cases gk with
      | zero => exact absurd HA.out (by simp [corpus_Lines.l0])
      | succ k1 =>
        have H := HA.out
        clear HA
        simp only [corpus_Lines.l0] at H
        by_cases c6 : x15_1 < (a0.size : Int)
        · rw [if_pos c6] at H
          have c6b0 : decide (x15_1 < (a0.size : Int)) = true := decide_eq_true c6
          clear c6
          by_cases c7 : 0 ≤ x15_1
          · rw [if_pos c7] at H
            have c7b0 : decide (0 ≤ x15_1) = true := decide_eq_true c7
            clear c7
            by_cases c8 : x15_1 < (a0.size : Int)
            · rw [if_pos c8] at H
              have c8b0 : decide (x15_1 < (a0.size : Int)) = true := decide_eq_true c8
              clear c8
              by_cases c10 : (bt a0 x15_1) = 10
              · rw [if_pos c10] at H
                have c10b0 : ((bt a0 x15_1) == 10) = true := beq_iff_eq.mpr c10
                have c10b1 : ((bt a0 x15_1) != 10) = false := bne_eq_false_iff_eq.mpr c10
                clear c10
                by_cases c11 : x5_1.length < 17592186044416
                · rw [if_pos c11] at H
                  have LMc11 := Aside0.mk c11
                  clear c11
                  obtain ⟨y133, hy133⟩ : ∃ y_ : List Int, y_ = (x5_1 ++ [wrap64 (x15_1 + 1)]) := ⟨_, rfl⟩
                  replace H : (corpus_Lines.l0 k1 a0 y133 (a0.size : Int) (wrap64 (x15_1 + 1))) = some (r1, r2) := by first | (rw [hy133]; with_reducible exact H) | (have H2_ := (Option.bind_some _ _).symm.trans H; rw [hy133]; with_reducible exact H2_) | (have H2_ := (Option.bind_some _ _).symm.trans H; with_reducible exact H2_) | with_reducible exact H | (rw [hy133]; exact H) | exact H
                  have Ny133 := Aside0.mk hy133
                  clear hy133
                  have H' := Aside0.mk H
                  clear H
                  have p9 : 0 ≤ (x15_1 : Int) := of_decide_eq_true (by first | (with_reducible assumption) | assumption)
                  have q9 : x15_1 < (a0.size : Int) := of_decide_eq_true (by first | (with_reducible assumption) | assumption)
                  have hx9 := bt_at a0 x15_1
                  replace p9 := eq_true p9
                  replace q9 := eq_true q9
                  go_wp2_with (first | ((with_reducible refine gate_builtin (b := .append) (xs := #[.tmp 22, .tmp 25]) rfl ?_); at_builtin; refine Kd.R_append (Kd.int .i64) (w0 := w) w.heap.size rfl (.tmp 22) (.tmp 25) 30 3 (.int .i64 0) 8 rfl Tryd.underlying30 info3 rfl (by decide) (by omega) u5 x5_1 (wrap64 (x15_1 + 1)) [.int .i64 (wrap64 (x15_1 + 1))] (fun _ => True) (fun _ => False) rfl rfl ?aP (fun _ hk => hk.elim) ?aF ?aO ?aB ?aS ?aL ?_; (case aP => exact rfl); (case aB => exact (by repeat (first | (with_reducible first | exact HB.out | apply below_alloc | apply pw_below_drewN | apply below_drew1) | exact HB.out))); (case aF => exact (fun _ _ => trivial)); (case aO => exact (by (with_reducible repeat (first | apply Kd.R_alloc | apply Kd.R_drewN | apply Kd.R_drew)); exact HO_5.out)); (case aS => exact (below_size (by repeat (first | (with_reducible first | exact HB.out | apply below_alloc | apply pw_below_drewN | apply below_drew1) | exact HB.out)))); (case aL => have := LMc11.out; omega); intro v134 w12 ho hb hg hat; rw [← Ny133.out] at ho; have n0_ := Aside0.mk (hb); have n1_ := Aside0.mk (ho); clear HB; clear HO_5; have HB := n0_; have HO135 := n1_; clear n0_ n1_; clear ho hb hg hat))
                  go_roundg k1
                  case measure => have := HK1.out; omega
                  case rel => exact ⟨(y133), (wrap64 (x15_1 + 1)), (by first | rfl | (simp; done) | (simp [*]; done)), H', ⟨by have := HK1.out; omega⟩, ⟨by (with_reducible repeat (first | apply Kd.R_alloc | apply Kd.R_drewN | apply Kd.R_drew)); exact HO135.out⟩, ⟨by repeat (first | (with_reducible first | exact HB.out | apply below_alloc | apply pw_below_drewN | apply below_drew1) | exact HB.out)⟩⟩
                · rw [if_neg c11] at H
                  exact absurd H (by simp)
              · rw [if_neg c10] at H
                have c10b0 : ((bt a0 x15_1) == 10) = false := beq_eq_false_iff_ne.mpr c10
                have c10b1 : ((bt a0 x15_1) != 10) = true := bne_iff_ne.mpr c10
                have H' := Aside0.mk H
                clear H
                have p9 : 0 ≤ (x15_1 : Int) := of_decide_eq_true (by first | (with_reducible assumption) | assumption)
                have q9 : x15_1 < (a0.size : Int) := of_decide_eq_true (by first | (with_reducible assumption) | assumption)
                have hx9 := bt_at a0 x15_1
                replace p9 := eq_true p9
                replace q9 := eq_true q9
                go_wp2
                go_roundg k1
                case measure => have := HK1.out; omega
                case rel => exact ⟨(x5_1), (wrap64 (x15_1 + 1)), (by first | rfl | (simp; done) | (simp [*]; done)), H', ⟨by have := HK1.out; omega⟩, ⟨by (with_reducible repeat (first | apply Kd.R_alloc | apply Kd.R_drewN | apply Kd.R_drew)); exact HO_5.out⟩, ⟨by repeat (first | (with_reducible first | exact HB.out | apply below_alloc | apply pw_below_drewN | apply below_drew1) | exact HB.out)⟩⟩
            · rw [if_neg c8] at H
              exact absurd H (by simp)
          · rw [if_neg c7] at H
            exact absurd H (by simp)
        · rw [if_neg c6] at H
          have c6b0 : decide (x15_1 < (a0.size : Int)) = false := decide_eq_false c6
          clear c6
          simp only [Option.some.injEq, Prod.mk.injEq] at H
          obtain ⟨rfl, rfl⟩ := H
          go_wp2
          go_ret2
          exact ⟨_, by first | rfl | (simp [errW_none, errW_some] <;> rfl) | (simp [*, errW_none, errW_some] <;> rfl), by (with_reducible repeat (first | apply Kd.R_alloc | apply Kd.R_drewN | apply Kd.R_drew)); exact HO_5.out, by repeat (first | (with_reducible first | exact HB.out | apply below_alloc | apply pw_below_drewN | apply below_drew1) | exact HB.out)⟩
  · rw [if_neg c3] at H
    have c3b0 : (t129 == 0) = false := beq_eq_false_iff_ne.mpr c3
    have c3b1 : (t129 != 0) = true := bne_iff_ne.mpr c3
    simp only [Option.some.injEq, Prod.mk.injEq] at H
    obtain ⟨rfl, rfl⟩ := H
    go_enter Tryd.func18, Tryd.ntmps18
    go_wp2_with (first | ((with_reducible refine gate_callee (f := 55) rfl ?_); refine goesL_ (some 8) rfl rfl Tryd.func55 (by kernel_rfl) rfl #[.string a0] rfl (by (try simp only [List.map_toArray, List.map_cons, List.map_nil]); first | done | rfl | (simp only [List.length_drop, List.length_take]; rfl)) ?_; (with_reducible refine (corpus_text.calls a0 t129 _ A2.out).mono ?_); rintro e w' ⟨rfl, ⟨nd, rfl⟩⟩; refine ⟨_, rfl, ?_⟩))
    go_ret2
    exact ⟨_, by first | rfl | (simp [errW_none, errW_some] <;> rfl) | (simp [*, errW_none, errW_some] <;> rfl), by first | exact Kd.R_nil _ _ _ _ _ | exact Kd.N_nil _ _ _ _ _ | exact Kd.V_nil _ _ _ _ _ | exact Kd.Q_nil _ _ _ _ _ | exact Kd.S_nil _ _ _ _ _, by repeat (first | (with_reducible first | exact HB.out | apply below_alloc | apply pw_below_drewN | apply below_drew1) | exact HB.out)⟩

/-! ### runes_Broken: function 19 (by hand) -/
def brokenAt : List S97 → Int
  | [] => -1
  | p :: ps => if p.f3 = true then p.f1 else brokenAt ps
theorem brokenAt_cons (p : S97) (ps : List S97) : brokenAt (p :: ps) = if p.f3 = true then p.f1 else brokenAt ps := rfl
def runes_Broken.f (a0 : ByteArray) : Option (Int × Int) := if a0.size > 65536 then some (0, 3) else some (brokenAt (pieces a0), 0)
set_option maxHeartbeats 4000000 in
set_option maxRecDepth 100000 in
theorem runes_Broken.one (p : S97) (c : Nat) (v : Int) (B0 : Nat) (W0 W : World) (hc : W.heap[c]? = some (.cells #[.int .i64 v] 3 (0, 0))) (hB : Below B0 W0 W) (hb0 : B0 ≤ c) :
    Calls Tryd.prog 67 #[.agg #[.int .i32 p.f0, .int .i64 p.f1, .int .i64 p.f2, .bool p.f3], .pointer (some ⟨c, 0, none⟩)] W fun e W' =>
      e = .returned (.bool (decide ((if p.f3 = true then p.f1 else v) < 0))) ∧ W'.heap[c]? = some (.cells #[.int .i64 (if p.f3 = true then p.f1 else v)] 3 (0, 0)) ∧ Below B0 W0 W' ∧ ∀ b, b < W.heap.size → b ≠ c → W'.heap[b]? = W.heap[b]? := by
  obtain ⟨p0, p1, p2, p3⟩ := p
  have hcl : c < W.heap.size := blk_lt hc
  have hb := blk_alloc hc (.cells #[.int .i32 p0, .int .i64 p1, .int .i64 p2, .bool p3] 97)
  have hc0 : (W.alloc (.cells #[.int .i32 p0, .int .i64 p1, .int .i64 p2, .bool p3] 97)).cell? ⟨c, 0, none⟩ = some (.int .i64 v) := (blk_cell hb 0).trans rfl
  have hf0 : (W.alloc (.cells #[.int .i32 p0, .int .i64 p1, .int .i64 p2, .bool p3] 97)).frozen? ⟨c, 0, none⟩ = false := blk_frozen hb 0
  have hn := blk_new W (.cells #[.int .i32 p0, .int .i64 p1, .int .i64 p2, .bool p3] 97)
  have hn1 : (W.alloc (.cells #[.int .i32 p0, .int .i64 p1, .int .i64 p2, .bool p3] 97)).cell? ⟨W.heap.size, 1, none⟩ = some (.int .i64 p1) := (blk_cell hn 1).trans rfl
  have hn3 : (W.alloc (.cells #[.int .i32 p0, .int .i64 p1, .int .i64 p2, .bool p3] 97)).cell? ⟨W.heap.size, 3, none⟩ = some (.bool p3) := (blk_cell hn 3).trans rfl
  have hbq := blk_put (cs' := #[.int .i64 p1]) hc 0 (.int .i64 p1) rfl
  have hcp : (W.setCell ⟨c, 0, none⟩ (.int .i64 p1)).cell? ⟨c, 0, none⟩ = some (.int .i64 p1) := (blk_cell hbq 0).trans rfl
  have HN := Aside0.mk hb
  have HBP := Aside0.mk (blk_alloc hbq (.cells #[.int .i32 p0, .int .i64 p1, .int .i64 p2, .bool p3] 97))
  have HBL := Aside0.mk (hB.alloc (show B0 ≤ W.heap.size by omega) (.cells #[.int .i32 p0, .int .i64 p1, .int .i64 p2, .bool p3] 97))
  have HBM := Aside0.mk ((hB.setCell (p := ⟨c, 0, none⟩) hb0 (.int .i64 p1)).alloc (show B0 ≤ (W.setCell ⟨c, 0, none⟩ (.int .i64 p1)).heap.size by simp; omega) (.cells #[.int .i32 p0, .int .i64 p1, .int .i64 p2, .bool p3] 97))
  clear hn hb hbq hB hc
  cases p3 with
  | true =>
    go_enter Tryd.func67, Tryd.ntmps67
    go_wp2
    go_ret
    refine ⟨rfl, HBP.out, HBM.out, fun b hb hbc => ?_⟩
    exact (Below.heap_alloc _ _ b (by simpa using hb)).trans (Below.heap_setCell W ⟨c, 0, none⟩ _ b hbc)
  | false =>
    go_enter Tryd.func67, Tryd.ntmps67
    go_wp2
    go_ret
    exact ⟨rfl, HN.out, HBL.out, fun b hb hbc => Below.heap_alloc W _ b hb⟩
set_option maxHeartbeats 4000000 in
set_option maxRecDepth 100000 in
theorem runes_Broken.calls (a0 : ByteArray) (r1 : Int) (r2 : Int) (w : World) (hG : GLaid w) (h : runes_Broken.f a0 = some (r1, r2)) :
    Calls Tryd.prog 19 #[.string a0] w fun e w' => e = .returned (.tuple #[.int .i64 r1, .int .i64 r2]) ∧ Below w.heap.size w w' := by
  unfold runes_Broken.f at h
  by_cases hs : a0.size > 65536
  · rw [if_pos hs] at h
    obtain ⟨rfl, rfl⟩ := Prod.mk.inj (Option.some.inj h)
    have hl : runes_long.f a0 = some 3 := by unfold runes_long.f; rw [if_pos (by omega)]
    clear h hs hG
    go_enter Tryd.func19, Tryd.ntmps19
    go_wp2_with (go_at_call 65; refine (runes_long.calls a0 3 _ hl).mono ?_; rintro e w1 ⟨rfl, m1, rfl⟩)
    go_ret2
    exact ⟨rfl, pw_below_drewN (Below.refl _ _) _⟩
  · rw [if_neg hs] at h
    obtain ⟨rfl, rfl⟩ := Prod.mk.inj (Option.some.inj h)
    have hl : runes_long.f a0 = some 0 := by unfold runes_long.f; rw [if_neg (by omega)]
    clear h
    have HG := Aside0.mk hG
    clear hG
    have hmf : ∀ (W : World) (a : Nat), (Instr.makeFunc (.func 67) #[] #[.pointer (some ⟨a, 0, none⟩)]).run Tryd.prog W = .ok (.func (.func 67) #[] #[.pointer (some ⟨a, 0, none⟩)]) W := by intro W a; simp [go_sem, Instr.makeFunc]
    go_enter Tryd.func19, Tryd.ntmps19
    go_wp2_with (go_at_call 65; refine (runes_long.calls a0 0 _ hl).mono ?_; rintro e w1 ⟨rfl, m1, hw1⟩; have HB1 : Aside0 (Below w.heap.size w w1) := ⟨by rw [hw1]; exact pw_below_drewN (Below.refl _ _) _⟩; have HSZ : Aside0 (w1.heap.size = w.heap.size) := ⟨by rw [hw1]; rfl⟩; clear hw1; have hcA : (w1.alloc (.cells #[.int .i64 0] 3)).cell? ⟨w1.heap.size, 0, none⟩ = some (.int .i64 0) := (blk_cell (blk_new w1 _) 0).trans rfl; have hfA : (w1.alloc (.cells #[.int .i64 0] 3)).frozen? ⟨w1.heap.size, 0, none⟩ = false := blk_frozen (blk_new w1 _) 0)
    have hc0 := blk_new w1 (.cells #[.int .i64 (-1)] 3)
    have hB0 := below_alloc HB1.out (.cells #[.int .i64 (-1)] 3)
    have hsz0 : (w1.alloc (.cells #[.int .i64 (-1)] 3)).heap.size = w.heap.size + 1 := by rw [← HSZ.out]; simp
    generalize w1.alloc (.cells #[.int .i64 (-1)] 3) = W0 at hB0 hc0 hsz0 ⊢
    have hsz := HSZ.out
    rw [hsz] at hc0 ⊢
    refine (runes_each 67 #[.pointer (some ⟨w.heap.size, 0, none⟩)] (enters_of Tryd.func67 (by kernel_rfl) rfl) a0 W0 (by omega)
      (fun pos W => ∃ f, W.heap[w.heap.size]? = some (.cells #[.int .i64 (-1)] 3 (0, 0)) ∧ Below w.heap.size w W ∧ brokenAt (pcs a0 f pos) = brokenAt (pieces a0) ∧ a0.size ≤ pos + f)
      (fun W => W.heap[w.heap.size]? = some (.cells #[.int .i64 (brokenAt (pieces a0))] 3 (0, 0)) ∧ Below w.heap.size w W) ?hI ?hst ?hG ?step).mono ?_
    case hI => exact ⟨a0.size, hc0, hB0, rfl, by omega⟩
    case hst =>
      rintro pos W W' ⟨f, h1, h3, h4⟩ hg
      exact ⟨f, blk_grown h1 hg (by simp; omega), pw_below_grown h3 _ h3.size hg (fun k hk => by injection hk with hk; omega), h4⟩
    case hG =>
      rintro pos W ⟨f, h1, h3, h4⟩
      exact GLaid.below_ HG.out h3
    case step =>
      rintro pos W hps ⟨f, h1, h3, h4, h5⟩ hlt ⟨q, hq⟩
      refine (runes_Broken.one (pcAt a0 pos) w.heap.size (-1) w.heap.size w W h1 h3 (Nat.le_refl _)).mono ?_
      rintro e W' ⟨rfl, g1, g2, g3⟩
      have hw := Lib.decode_width_pos a0 pos hps
      obtain ⟨f', rfl⟩ : ∃ f', f = f' + 1 := ⟨f - 1, by omega⟩
      have hun : pcs a0 (f' + 1) pos = pcAt a0 pos :: pcs a0 f' (pos + (Utf8.decode a0 pos).2) := by simp [pcs, hps]
      rw [hun, brokenAt_cons] at h4
      refine ⟨_, rfl, g3 _ hlt (by omega), fun hb => ?_, fun hb => ?_⟩
      · have hp3 : (pcAt a0 pos).f3 = false := by
          cases hh : (pcAt a0 pos).f3 with
          | false => rfl
          | true =>
            rw [hh, if_pos rfl] at hb
            have hb1 := of_decide_eq_true hb
            have hb2 : (pcAt a0 pos).f1 = (pos : Int) := rfl
            rw [hb2] at hb1
            exact absurd hb1 (by omega)
        rw [hp3] at g1
        rw [hp3] at h4
        exact ⟨f', by simpa using g1, g2, by simpa using h4, by omega⟩
      · have hp3 : (pcAt a0 pos).f3 = true := by
          cases hh : (pcAt a0 pos).f3 with
          | true => rfl
          | false =>
            rw [hh] at hb
            simp at hb
        rw [hp3, if_pos rfl] at g1
        rw [hp3, if_pos rfl] at h4
        exact ⟨by rw [← h4]; exact g1, g2⟩
    rintro e W' ⟨rfl, hor⟩
    have hf : W'.heap[w.heap.size]? = some (.cells #[.int .i64 (brokenAt (pieces a0))] 3 (0, 0)) ∧ Below w.heap.size w W' := by
      rcases hor with ⟨pos, hp, f, h1, h3, h4, h5⟩ | h
      · rw [pcs_end a0 f pos (by omega)] at h4
        rw [← h4]
        exact ⟨h1, h3⟩
      · exact h
    have hcc : W'.cell? ⟨w.heap.size, 0, none⟩ = some (.int .i64 (brokenAt (pieces a0))) := (blk_cell hf.1 0).trans rfl
    have HB3 := Aside0.mk hf.2
    clear hf hor hmf hl
    go_wp2
    go_ret2
    exact ⟨rfl, HB3.out⟩


end Go.Proofs.YtfpfdmenhgageaaDoor.C
