-- Written by this session's program (wip/ext) with the kit's printer. Not trusted: Lean checks it.
import Derived.Test.YtfpfdmenhgageaaDoorCx0
import Derived.Test.YtfpfdmenhgageaaDoorCx2
import Derived.Test.YtfpfdmenhgageaaDoorCx3
namespace Go.Proofs.YtfpfdmenhgageaaDoor.C
open Go.RowKit Go.Proofs.YtfpfdmenhgageaaDoorW.PrintWords Go.Proofs.YtfpfdmenhgageaaDoorW.PrintLast Go.Proofs.YtfpfdmenhgageaaDoorW.PrintMore
attribute [local go_sem] max2_int min2_int max_two min_two max_three min_three max_four min_four   -- for this text's walks alone
set_option linter.unusedVariables false
set_option linter.unusedSimpArgs false

/-! ### cognateref01_All: function 60 -/
def cognateref01_All.l0 : Nat → ByteArray → List (S97) → Int → Option ((List (S97)))
  | 0, _, _, _ => none
  | k + 1, x0, x3, x4 => if x4 < (x0.size : Int) then ((cognateref01_At.f k x0 x4).bind fun bt116 => (if x3.length < 4398046511104 then (cognateref01_All.l0 k x0 (x3 ++ [(⟨bt116.1, bt116.2.1, bt116.2.2.1, bt116.2.2.2⟩ : S97)]) (wrap64 (x4 + bt116.2.2.1))) else (none))) else (some x3)
def cognateref01_All.f (k : Nat) (a0 : ByteArray) : Option ((List (S97))) := cognateref01_All.l0 k a0 ([] : List (S97)) 0
theorem cognateref01_All.mono_l : ∀ k, (∀ y0 y1 y2, LeO (cognateref01_All.l0 k y0 y1 y2) (cognateref01_All.l0 (k + 1) y0 y1 y2))
  | 0 => fun _ _ _ r h => by simp [cognateref01_All.l0] at h
  | k + 1 => by
    have ih0 := cognateref01_All.mono_l k
    · intro y0 y1 y2
      unfold cognateref01_All.l0
      repeat' first
      | (with_reducible exact ih0 _ _ _)
      | (with_reducible exact cognateref01_At.mono _ _ _)
      | (with_reducible exact LeO.refl _)
      | (with_reducible exact LeO.none _)
      | (with_reducible refine LeO.ite ?_ ?_)
      | (with_reducible refine LeO.bind ?_ (fun _ => ?_))
      | exact ih0 _ _ _
      | exact cognateref01_At.mono _ _ _
      | exact LeO.none _
      | refine LeO.ite ?_ ?_
      | refine LeO.bind ?_ (fun _ => ?_)
theorem cognateref01_All.mono : ∀ a0 k, LeO (cognateref01_All.f k a0) (cognateref01_All.f (k + 1) a0) := by
  intro a0 k
  have ih0 := cognateref01_All.mono_l k
  unfold cognateref01_All.f
  repeat' first
      | (with_reducible exact ih0 _ _ _)
      | (with_reducible exact cognateref01_At.mono _ _ _)
      | (with_reducible exact LeO.refl _)
      | (with_reducible exact LeO.none _)
      | (with_reducible refine LeO.ite ?_ ?_)
      | (with_reducible refine LeO.bind ?_ (fun _ => ?_))
      | exact ih0 _ _ _
      | exact cognateref01_At.mono _ _ _
      | exact LeO.none _
      | refine LeO.ite ?_ ?_
      | refine LeO.bind ?_ (fun _ => ?_)
set_option maxHeartbeats 8000000 in
set_option maxRecDepth 100000 in
theorem cognateref01_All.calls (k : Nat) (a0 : ByteArray) (r : List (S97)) (w : World) (h : cognateref01_All.f k a0 = some r) :
    Calls Tryd.prog 60 #[.string a0] w fun e w' => ∃ v0_ : Value, e = .returned (v0_) ∧ Kd.R k97 97 w' w.heap.size (fun _ => True) v0_ r ∧ Below w.heap.size w w' := by
  have hu97 := Tryd.underlying97
  have HB := Aside0.mk (Below.refl w.heap.size w)
  have H : (cognateref01_All.l0 k a0 ([] : List (S97)) 0) = some r := h
  clear h
  have H' := Aside0.mk H
  clear H
  go_enter Tryd.func60, Tryd.ntmps60
  go_wp2
  go_loopg [3, 4] k (fun kq v3 v4 w' => ∃ (x3_1 : List (S97)) (x4_1 : Int), v4 = .int .i64 x4_1 ∧ Aside0 (cognateref01_All.l0 kq a0 x3_1 x4_1 = some r) ∧ Aside0 (kq ≤ k) ∧ Aside0 (Kd.R k97 97 w' w.heap.size (fun _ => True) v3 x3_1) ∧ Aside0 (Below w.heap.size w w'))
  case atStart => exact ⟨(([] : List (S97))), (0), (by first | rfl | (simp; done) | (simp [*]; done)), H', ⟨Nat.le_refl _⟩, ⟨by first | exact Kd.R_nil _ _ _ _ _ | exact Kd.N_nil _ _ _ _ _ | exact Kd.V_nil _ _ _ _ _ | exact Kd.Q_nil _ _ _ _ _ | exact Kd.S_nil _ _ _ _ _⟩, ⟨by repeat (first | (with_reducible first | exact HB.out | apply below_alloc | apply pw_below_drewN | apply below_drew1) | exact HB.out)⟩⟩
  case round =>
    clear H'
    obtain ⟨x3_1, x4_1, rfl, HA, HK1, HO_3, HB⟩ := hrel
    cases gk with
    | zero => exact absurd HA.out (by simp [cognateref01_All.l0])
    | succ k1 =>
      have H := HA.out
      clear HA
      simp only [cognateref01_All.l0] at H
      by_cases c2 : x4_1 < (a0.size : Int)
      · rw [if_pos c2] at H
        have c2b0 : decide (x4_1 < (a0.size : Int)) = true := decide_eq_true c2
        clear c2
        replace H := Option.bind_eq_some_iff.mp H
        obtain ⟨⟨t116, t117, t118, t119⟩, A30, H⟩ := H
        replace H : (if x3_1.length < 4398046511104 then (cognateref01_All.l0 k1 a0 (x3_1 ++ [(⟨t116, t117, t118, t119⟩ : S97)]) (wrap64 (x4_1 + t118))) else (none)) = some r := H
        have A3 := Aside0.mk A30
        clear A30
        by_cases c4 : x3_1.length < 4398046511104
        · rw [if_pos c4] at H
          have LMc4 := Aside0.mk c4
          clear c4
          obtain ⟨y121, hy121⟩ : ∃ y_ : List (S97), y_ = (x3_1 ++ [(⟨t116, t117, t118, t119⟩ : S97)]) := ⟨_, rfl⟩
          replace H : (cognateref01_All.l0 k1 a0 y121 (wrap64 (x4_1 + t118))) = some r := by first | (rw [hy121]; with_reducible exact H) | (have H2_ := (Option.bind_some _ _).symm.trans H; rw [hy121]; with_reducible exact H2_) | (have H2_ := (Option.bind_some _ _).symm.trans H; with_reducible exact H2_) | with_reducible exact H | (rw [hy121]; exact H) | exact H
          have Ny121 := Aside0.mk hy121
          clear hy121
          have H' := Aside0.mk H
          clear H
          go_wp2_with (first | ((with_reducible refine gate_callee (f := 105) rfl ?_); refine goesL_ (some 12) rfl rfl Tryd.func105 (by kernel_rfl) rfl #[.string a0, .int .i64 x4_1] rfl (by (try simp only [List.map_toArray, List.map_cons, List.map_nil]); first | done | rfl | (simp only [List.length_drop, List.length_take]; rfl)) ?_; (with_reducible refine (cognateref01_At.calls k1 a0 x4_1 t116 t117 t118 t119 _ A3.out).mono ?_); rintro e w5 ⟨rfl, hb⟩; refine ⟨_, rfl, ?_⟩; have n0_ := Aside0.mk (Kd.R_below (by (with_reducible repeat (first | apply Kd.R_alloc | apply Kd.R_drewN | apply Kd.R_drew)); exact HO_3.out) hb); have n1_ := Aside0.mk (below_step (by repeat (first | (with_reducible first | exact HB.out | apply below_alloc | apply pw_below_drewN | apply below_drew1) | exact HB.out)) hb); clear HO_3; clear HB; have HO_3 := n0_; have HB := n1_; clear n0_ n1_; (try clear hb); (try clear hb2); (try clear hk); (try clear hi)) | ((with_reducible refine gate_dst (N := 5) rfl ?_); refine box_event ?hg (N := 5) ?hd (cs := #[.int .i32 0, .int .i64 0, .int .i64 0, .bool false]) (t := 97) ?hr ?_; (case hd => rfl); (case hg => rfl); (case hr => first | (go_simp; done) | (go_simp; rfl)); intro gb120 hg w6 hbox hb; have n0_ := Aside0.mk (Kd.R_below (Kd.R_elderB (by (with_reducible repeat (first | apply Kd.R_alloc | apply Kd.R_drewN | apply Kd.R_drew)); exact HO_3.out) gb120 (Nat.le_of_eq hg.symm)) hb); have n1_ := Aside0.mk (below_step (by repeat (first | (with_reducible first | exact HB.out | apply below_alloc | apply pw_below_drewN | apply below_drew1) | exact HB.out)) hb); have n2_ := Aside0.mk (hbox); have n3_ := Aside0.mk ((by rw [hg]; exact (below_size (by repeat (first | (with_reducible first | exact HB.out | apply below_alloc | apply pw_below_drewN | apply below_drew1) | exact HB.out))) : w.heap.size ≤ gb120)); have n4_ := Aside0.mk ((by rw [hg]; exact (below_size (by repeat (first | (with_reducible first | exact HB.out | apply below_alloc | apply pw_below_drewN | apply below_drew1) | exact HB.out))) : w.heap.size ≤ gb120)); clear HO_3; clear HB; have HO_3 := n0_; have HB := n1_; have BK120 := n2_; have GW120 := n3_; have GE120 := n4_; clear n0_ n1_ n2_ n3_ n4_; clear hb hbox hg; have hcz7_0 : w6.cell? ⟨gb120, 0, none⟩ = some (.int .i32 0) := (blk_cell BK120.out 0).trans rfl; have hcz7_1 : w6.cell? ⟨gb120, 1, none⟩ = some (.int .i64 0) := (blk_cell BK120.out 1).trans rfl; have hcz7_2 : w6.cell? ⟨gb120, 2, none⟩ = some (.int .i64 0) := (blk_cell BK120.out 2).trans rfl; have hcz7_3 : w6.cell? ⟨gb120, 3, none⟩ = some (.bool false) := (blk_cell BK120.out 3).trans rfl; have hfz7_0 := blk_frozen BK120.out 0; have hfz7_1 := blk_frozen BK120.out 1; have hfz7_2 := blk_frozen BK120.out 2; have hfz7_3 := blk_frozen BK120.out 3) | ((with_reducible refine gate_builtin (b := .append) (xs := #[.tmp 13, .tmp 15]) rfl ?_); at_builtin; refine Kd.R_append k97 (w0 := w) w.heap.size rfl (.tmp 13) (.tmp 15) 88 97 (.agg #[(.int .i32 0), (.int .i64 0), (.int .i64 0), (.bool false)]) 32 rfl Tryd.underlying88 info97 rfl (by decide) (by omega) u3 x3_1 (⟨t116, t117, t118, t119⟩ : S97) [.int .i32 t116, .int .i64 t117, .int .i64 t118, .bool t119] (fun k_ => k_ ≠ gb120) (fun _ => False) rfl (by first | (go_simp; done) | (go_simp; rfl)) ?aP (fun _ hk => hk.elim) ?aF ?aO ?aB ?aS ?aL ?_; (case aP => exact k97_mkM _ _ _ (⟨t116, t117, t118, t119⟩ : S97)); (case aB => exact (by repeat (first | (with_reducible first | exact HB.out | apply below_alloc | apply pw_below_drewN | apply below_drew1 | refine below_set ?_ GE120.out) | exact HB.out))); (case aF => exact (fun k_ hk => Kd.freshB (g := gb120) (o := .cells #[.int .i32 t116, .int .i64 t117, .int .i64 t118, .bool t119] 97 (0, 0)) (by (with_reducible repeat (first | refine blk_drewN ?_ _ | refine blk_drew ?_ | refine blk_alloc ?_ _)); refine blk_put (cs := #[.int .i32 t116, .int .i64 t117, .int .i64 t118, .bool false]) ?_ 3 _ rfl; (with_reducible repeat (first | refine blk_drewN ?_ _ | refine blk_drew ?_ | refine blk_alloc ?_ _)); refine blk_put (cs := #[.int .i32 t116, .int .i64 t117, .int .i64 0, .bool false]) ?_ 2 _ rfl; (with_reducible repeat (first | refine blk_drewN ?_ _ | refine blk_drew ?_ | refine blk_alloc ?_ _)); refine blk_put (cs := #[.int .i32 t116, .int .i64 0, .int .i64 0, .bool false]) ?_ 1 _ rfl; (with_reducible repeat (first | refine blk_drewN ?_ _ | refine blk_drew ?_ | refine blk_alloc ?_ _)); refine blk_put (cs := #[.int .i32 0, .int .i64 0, .int .i64 0, .bool false]) ?_ 0 _ rfl; (with_reducible repeat (first | refine blk_drewN ?_ _ | refine blk_drew ?_ | refine blk_alloc ?_ _)); exact BK120.out) k_ hk)); (case aO => exact (by (with_reducible repeat (first | apply Kd.R_alloc | apply Kd.R_drewN | apply Kd.R_drew)); exact Kd.R_mono (Kd.R_far (p := ⟨gb120, 3, none⟩) (Kd.R_far (p := ⟨gb120, 2, none⟩) (Kd.R_far (p := ⟨gb120, 1, none⟩) (Kd.R_far (p := ⟨gb120, 0, none⟩) (Kd.R_mono HO_3.out (fun k_ hk => (⟨hk, hk.2⟩ : _ ∧ k_ ≠ gb120))) (fun _ hk => hk.2) (.int .i32 t116)) (fun _ hk => hk.2) (.int .i64 t117)) (fun _ hk => hk.2) (.int .i64 t118)) (fun _ hk => hk.2) (.bool t119)) (fun _ hk => hk.1.2))); (case aS => exact (below_size (by repeat (first | (with_reducible first | exact HB.out | apply below_alloc | apply pw_below_drewN | apply below_drew1 | refine below_set ?_ GE120.out) | exact HB.out)))); (case aL => have := LMc4.out; omega); intro v122 w8 ho hb hg hat; rw [← Ny121.out] at ho; have n0_ := Aside0.mk (blk_grown (g := gb120) (o := .cells #[.int .i32 t116, .int .i64 t117, .int .i64 t118, .bool t119] 97 (0, 0)) (by (with_reducible repeat (first | refine blk_drewN ?_ _ | refine blk_drew ?_ | refine blk_alloc ?_ _)); refine blk_put (cs := #[.int .i32 t116, .int .i64 t117, .int .i64 t118, .bool false]) ?_ 3 _ rfl; (with_reducible repeat (first | refine blk_drewN ?_ _ | refine blk_drew ?_ | refine blk_alloc ?_ _)); refine blk_put (cs := #[.int .i32 t116, .int .i64 t117, .int .i64 0, .bool false]) ?_ 2 _ rfl; (with_reducible repeat (first | refine blk_drewN ?_ _ | refine blk_drew ?_ | refine blk_alloc ?_ _)); refine blk_put (cs := #[.int .i32 t116, .int .i64 0, .int .i64 0, .bool false]) ?_ 1 _ rfl; (with_reducible repeat (first | refine blk_drewN ?_ _ | refine blk_drew ?_ | refine blk_alloc ?_ _)); refine blk_put (cs := #[.int .i32 0, .int .i64 0, .int .i64 0, .bool false]) ?_ 0 _ rfl; (with_reducible repeat (first | refine blk_drewN ?_ _ | refine blk_drew ?_ | refine blk_alloc ?_ _)); exact BK120.out) hg (Kd.R_away HO_3.out (fun _ hk => hk.2))); have n1_ := Aside0.mk (hb); have n2_ := Aside0.mk (ho); clear BK120; clear HB; clear HO_3; have BK120 := n0_; have HB := n1_; have HO123 := n2_; clear n0_ n1_ n2_; clear ho hb hg hat; have hcz9_0 : w8.cell? ⟨gb120, 0, none⟩ = some (.int .i32 t116) := (blk_cell BK120.out 0).trans rfl; have hcz9_1 : w8.cell? ⟨gb120, 1, none⟩ = some (.int .i64 t117) := (blk_cell BK120.out 1).trans rfl; have hcz9_2 : w8.cell? ⟨gb120, 2, none⟩ = some (.int .i64 t118) := (blk_cell BK120.out 2).trans rfl; have hcz9_3 : w8.cell? ⟨gb120, 3, none⟩ = some (.bool t119) := (blk_cell BK120.out 3).trans rfl; have hfz9_0 := blk_frozen BK120.out 0; have hfz9_1 := blk_frozen BK120.out 1; have hfz9_2 := blk_frozen BK120.out 2; have hfz9_3 := blk_frozen BK120.out 3))
          go_roundg k1
          case measure => have := HK1.out; omega
          case rel => exact ⟨(y121), (wrap64 (x4_1 + t118)), (by first | rfl | (simp; done) | (simp [*]; done)), H', ⟨by have := HK1.out; omega⟩, ⟨by (with_reducible repeat (first | apply Kd.R_alloc | apply Kd.R_drewN | apply Kd.R_drew)); exact Kd.R_mono HO123.out (fun _ hk => trivial)⟩, ⟨by repeat (first | (with_reducible first | exact HB.out | apply below_alloc | apply pw_below_drewN | apply below_drew1 | refine below_set ?_ GE120.out) | exact HB.out)⟩⟩
        · rw [if_neg c4] at H
          exact absurd H (by simp)
      · rw [if_neg c2] at H
        have c2b0 : decide (x4_1 < (a0.size : Int)) = false := decide_eq_false c2
        clear c2
        obtain rfl := Option.some.inj H
        go_wp2
        go_ret
        exact ⟨_, by first | rfl | (simp [errW_none, errW_some] <;> rfl) | (simp [*, errW_none, errW_some] <;> rfl), by (with_reducible repeat (first | apply Kd.R_alloc | apply Kd.R_drewN | apply Kd.R_drew)); exact HO_3.out, by repeat (first | (with_reducible first | exact HB.out | apply below_alloc | apply pw_below_drewN | apply below_drew1) | exact HB.out)⟩

/-! ### cognateref24_Line: function 15 -/
def cognateref24_Line.j0 : Nat → ByteArray → Int → Bool → Option (Int × Int × Int)
  | 0, _, _, _ => none
  | k + 1, x0, x1, x20 => if x20 = true then (some (0, 0, 2)) else ((cognateref24_begin.f k x0 x1).bind fun bt124 => (if 0 ≤ bt124.1 then (if bt124.1 ≤ x1 then (if x1 ≤ (x0.size : Int) then ((cognateref01_All.f k (x0.extract (bt124.1 : Int).toNat (x1 : Int).toNat)).bind fun t126 => (some (wrap64 (bt124.2 + 1), wrap64 ((t126.length : Int) + 1), 0))) else (none)) else (none)) else (none)))
def cognateref24_Line.f (k : Nat) (a0 : ByteArray) (a1 : Int) : Option (Int × Int × Int) := if (a0.size : Int) > 65536 then (some (0, 0, 3)) else (if a1 < 0 then (cognateref24_Line.j0 k a0 a1 true) else (cognateref24_Line.j0 k a0 a1 (decide (a1 > (a0.size : Int)))))
theorem cognateref24_Line.mono_l : ∀ k, (∀ y0 y1 y2, LeO (cognateref24_Line.j0 k y0 y1 y2) (cognateref24_Line.j0 (k + 1) y0 y1 y2))
  | 0 => fun _ _ _ r h => by simp [cognateref24_Line.j0] at h
  | k + 1 => by
    have ih0 := cognateref24_Line.mono_l k
    · intro y0 y1 y2
      unfold cognateref24_Line.j0
      repeat' first
      | (with_reducible exact ih0 _ _ _)
      | (with_reducible exact cognateref01_All.mono _ _)
      | (with_reducible exact cognateref24_begin.mono _ _ _)
      | (with_reducible exact LeO.refl _)
      | (with_reducible exact LeO.none _)
      | (with_reducible refine LeO.ite ?_ ?_)
      | (with_reducible refine LeO.bind ?_ (fun _ => ?_))
      | exact ih0 _ _ _
      | exact cognateref01_All.mono _ _
      | exact cognateref24_begin.mono _ _ _
      | exact LeO.none _
      | refine LeO.ite ?_ ?_
      | refine LeO.bind ?_ (fun _ => ?_)
theorem cognateref24_Line.mono : ∀ a0 a1 k, LeO (cognateref24_Line.f k a0 a1) (cognateref24_Line.f (k + 1) a0 a1) := by
  intro a0 a1 k
  have ih0 := cognateref24_Line.mono_l k
  unfold cognateref24_Line.f
  repeat' first
      | (with_reducible exact ih0 _ _ _)
      | (with_reducible exact cognateref01_All.mono _ _)
      | (with_reducible exact cognateref24_begin.mono _ _ _)
      | (with_reducible exact LeO.refl _)
      | (with_reducible exact LeO.none _)
      | (with_reducible refine LeO.ite ?_ ?_)
      | (with_reducible refine LeO.bind ?_ (fun _ => ?_))
      | exact ih0 _ _ _
      | exact cognateref01_All.mono _ _
      | exact cognateref24_begin.mono _ _ _
      | exact LeO.none _
      | refine LeO.ite ?_ ?_
      | refine LeO.bind ?_ (fun _ => ?_)
set_option maxHeartbeats 8000000 in
set_option maxRecDepth 100000 in
theorem cognateref24_Line.calls (k : Nat) (a0 : ByteArray) (a1 : Int) (r1 : Int) (r2 : Int) (r3 : Int) (w : World) (h : cognateref24_Line.f k a0 a1 = some (r1, r2, r3)) :
    Calls Tryd.prog 15 #[.string a0, .int .i64 a1] w fun e w' => e = .returned (.tuple #[.int .i64 r1, .int .i64 r2, .int .i64 r3]) ∧ Below w.heap.size w w' := by
  have HB := Aside0.mk (Below.refl w.heap.size w)
  have H : (if (a0.size : Int) > 65536 then (some (0, 0, 3)) else (if a1 < 0 then (cognateref24_Line.j0 k a0 a1 true) else (cognateref24_Line.j0 k a0 a1 (decide (a1 > (a0.size : Int)))))) = some (r1, r2, r3) := h
  clear h
  by_cases c3 : (a0.size : Int) > 65536
  · rw [if_pos c3] at H
    have c3b0 : decide (65536 < (a0.size : Int)) = true := decide_eq_true c3
    have c3b1 : decide (65536 < a0.size) = true := decide_eq_true (by omega)
    clear c3
    simp only [Option.some.injEq, Prod.mk.injEq] at H
    obtain ⟨rfl, rfl, rfl⟩ := H
    go_enter Tryd.func15, Tryd.ntmps15
    go_wp2
    go_ret3
    exact ⟨by first | rfl | (simp [errW_none, errW_some] <;> rfl) | (simp [*, errW_none, errW_some] <;> rfl), by repeat (first | (with_reducible first | exact HB.out | apply below_alloc | apply pw_below_drewN | apply below_drew1) | exact HB.out)⟩
  · rw [if_neg c3] at H
    have c3b0 : decide (65536 < (a0.size : Int)) = false := decide_eq_false c3
    have c3b1 : decide (65536 < a0.size) = false := decide_eq_false (by omega)
    clear c3
    have HC4 := Aside0.mk H
    clear H
    go_enter Tryd.func15, Tryd.ntmps15
    go_upto_region 3 with (fail)
    go_cut [20] (fun v20 wc => ∃ (kq : Nat) (x20_3 : Bool), v20 = .bool x20_3 ∧ Aside0 (cognateref24_Line.j0 kq a0 a1 x20_3 = some (r1, r2, r3)) ∧ Aside0 (kq ≤ k) ∧ Aside0 (Below w.heap.size w wc))
    case first =>
      have H := HC4.out
      clear HC4
      by_cases c5 : a1 < 0
      · rw [if_pos c5] at H
        have c5b0 : decide (a1 < 0) = true := decide_eq_true c5
        clear c5
        (first | rw [c5b0] | (simp only [i64_w, i32_w]; rw [c5b0]) | skip)
        have H' := Aside0.mk H
        clear H
        go_wp2
        go_meet
        case rel => exact ⟨_, (true), (by first | rfl | (simp; done) | (simp [*]; done)), H', ⟨by first | omega | exact Nat.le_refl _⟩, ⟨by repeat (first | (with_reducible first | exact HB.out | apply below_alloc | apply pw_below_drewN | apply below_drew1) | exact HB.out)⟩⟩
      · rw [if_neg c5] at H
        have c5b0 : decide (a1 < 0) = false := decide_eq_false c5
        clear c5
        (first | rw [c5b0] | (simp only [i64_w, i32_w]; rw [c5b0]) | skip)
        have H' := Aside0.mk H
        clear H
        go_wp2
        go_meet
        case rel => exact ⟨_, (decide (a1 > (a0.size : Int))), (by first | rfl | (simp; done) | (simp [*]; done)), H', ⟨by first | omega | exact Nat.le_refl _⟩, ⟨by repeat (first | (with_reducible first | exact HB.out | apply below_alloc | apply pw_below_drewN | apply below_drew1) | exact HB.out)⟩⟩
    case rest =>
      clear HC4
      try clear c1
      try clear p2
      try clear c3
      try clear c3b0
      try clear c3b1
      try clear c5
      try clear c5b0
      obtain ⟨kq, x20_3, rfl, HA, HJ3, HB⟩ := hcut
      cases kq with
      | zero => exact absurd HA.out (by simp [cognateref24_Line.j0])
      | succ kj3 =>
        have H := HA.out
        clear HA
        simp only [cognateref24_Line.j0] at H
        by_cases c6 : x20_3 = true
        · subst c6
          have H1 : (some (0, 0, 2)) = some (r1, r2, r3) := by rw [if_pos rfl] at H; exact H
          clear H
          have H := H1
          clear H1
          simp only [Option.some.injEq, Prod.mk.injEq] at H
          obtain ⟨rfl, rfl, rfl⟩ := H
          go_wp2
          go_ret3
          exact ⟨by first | rfl | (simp [errW_none, errW_some] <;> rfl) | (simp [*, errW_none, errW_some] <;> rfl), by repeat (first | (with_reducible first | exact HB.out | apply below_alloc | apply pw_below_drewN | apply below_drew1) | exact HB.out)⟩
        · replace c6 := Bool.eq_false_iff.mpr c6
          subst c6
          have H1 : ((cognateref24_begin.f kj3 a0 a1).bind fun bt124 => (if 0 ≤ bt124.1 then (if bt124.1 ≤ a1 then (if a1 ≤ (a0.size : Int) then ((cognateref01_All.f kj3 (a0.extract (bt124.1 : Int).toNat (a1 : Int).toNat)).bind fun t126 => (some (wrap64 (bt124.2 + 1), wrap64 ((t126.length : Int) + 1), 0))) else (none)) else (none)) else (none))) = some (r1, r2, r3) := by rw [if_neg (show ¬ (false = true) by decide)] at H; exact H
          clear H
          have H := H1
          clear H1
          replace H := Option.bind_eq_some_iff.mp H
          obtain ⟨⟨t124, t125⟩, A70, H⟩ := H
          replace H : (if 0 ≤ t124 then (if t124 ≤ a1 then (if a1 ≤ (a0.size : Int) then ((cognateref01_All.f kj3 (a0.extract (t124 : Int).toNat (a1 : Int).toNat)).bind fun t126 => (some (wrap64 (t125 + 1), wrap64 ((t126.length : Int) + 1), 0))) else (none)) else (none)) else (none)) = some (r1, r2, r3) := H
          have A7 := Aside0.mk A70
          clear A70
          by_cases c8 : 0 ≤ t124
          · rw [if_pos c8] at H
            have c8b0 := eq_true c8
            have c8b1 : decide (0 ≤ t124) = true := decide_eq_true c8
            clear c8
            by_cases c9 : t124 ≤ a1
            · rw [if_pos c9] at H
              have c9b0 := eq_true c9
              have c9b1 : decide (t124 ≤ a1) = true := decide_eq_true c9
              clear c9
              by_cases c10 : a1 ≤ (a0.size : Int)
              · rw [if_pos c10] at H
                have c10b0 := eq_true c10
                have c10b1 : decide (a1 ≤ (a0.size : Int)) = true := decide_eq_true c10
                clear c10
                replace H := Option.bind_eq_some_iff.mp H
                obtain ⟨t126, A110, H⟩ := H
                replace H : (some (wrap64 (t125 + 1), wrap64 ((t126.length : Int) + 1), 0)) = some (r1, r2, r3) := H
                have A11 := Aside0.mk A110
                clear A110
                simp only [Option.some.injEq, Prod.mk.injEq] at H
                obtain ⟨rfl, rfl, rfl⟩ := H
                go_wp2_with (first | ((with_reducible refine gate_callee (f := 59) rfl ?_); refine goesL_ (some 24) rfl rfl Tryd.func59 (by kernel_rfl) rfl #[.string a0, .int .i64 a1] rfl (by (try simp only [List.map_toArray, List.map_cons, List.map_nil]); first | done | rfl | (simp only [List.length_drop, List.length_take]; rfl)) ?_; (with_reducible refine (cognateref24_begin.calls kj3 a0 a1 t124 t125 _ A7.out).mono ?_); rintro e w' ⟨rfl, ⟨nd, rfl⟩⟩; refine ⟨_, rfl, ?_⟩) | ((with_reducible refine gate_callee (f := 60) rfl ?_); refine goesL_ (some 31) rfl rfl Tryd.func60 (by kernel_rfl) rfl #[.string (a0.extract (t124 : Int).toNat (a1 : Int).toNat)] rfl (by (try simp only [List.map_toArray, List.map_cons, List.map_nil]); first | done | rfl | (simp only [List.length_drop, List.length_take]; rfl)) ?_; (with_reducible refine (cognateref01_All.calls kj3 (a0.extract (t124 : Int).toNat (a1 : Int).toNat) t126 _ A11.out).mono ?_); rintro e w12 ⟨v127, rfl, ho0, hb⟩; refine ⟨_, rfl, ?_⟩; have n0_ := Aside0.mk (Kd.R_lower ho0 (below_size (by repeat (first | (with_reducible first | exact HB.out | apply below_alloc | apply pw_below_drewN | apply below_drew1) | exact HB.out)))); have n1_ := Aside0.mk (below_step (by repeat (first | (with_reducible first | exact HB.out | apply below_alloc | apply pw_below_drewN | apply below_drew1) | exact HB.out)) hb); clear HB; have HO128 := n0_; have HB := n1_; clear n0_ n1_; (try clear hb); (try clear hb2); (try clear hk); (try clear hi); (try clear ho0); obtain ⟨Ao13, co13, eo13⟩ := Kd.R_slice HO128.out; subst eo13))
                go_ret3
                exact ⟨by first | rfl | (simp [errW_none, errW_some] <;> rfl) | (simp [*, errW_none, errW_some] <;> rfl), by repeat (first | (with_reducible first | exact HB.out | apply below_alloc | apply pw_below_drewN | apply below_drew1) | exact HB.out)⟩
              · rw [if_neg c10] at H
                exact absurd H (by simp)
            · rw [if_neg c9] at H
              exact absurd H (by simp)
          · rw [if_neg c8] at H
            exact absurd H (by simp)

/-! ### strings_Cut: function 61 (by hand) -/
def cutAt (s : ByteArray) (c : UInt8) : ByteArray × ByteArray × Bool := if 0 ≤ Lib.indexByte s.data.toList c then (s.extract 0 (Lib.indexByte s.data.toList c).toNat, s.extract ((Lib.indexByte s.data.toList c).toNat + 1) s.size, true) else (s, ⟨#[]⟩, false)
theorem cutAt_lt (s : ByteArray) (c : UInt8) (h : 0 ≤ Lib.indexByte s.data.toList c) : (Lib.indexByte s.data.toList c).toNat < s.size := by
  have h1 : Lib.indexByte s.data.toList c = (((Lib.indexByte s.data.toList c).toNat : Nat) : Int) := by omega
  have h2 := (Lib.indexByte_some h1).1
  have := (List.getElem?_eq_some_iff.1 h2).1
  rwa [Array.length_toList] at this
def strings_Cut.f (a0 : ByteArray) (a1 : ByteArray) : Option (ByteArray × ByteArray × Bool) := if a0.size < 4294967281 ∧ a1.size = 1 then some (cutAt a0 (a1.get! 0)) else none
set_option maxHeartbeats 4000000 in
set_option maxRecDepth 100000 in
theorem strings_Cut.inner (a0 : ByteArray) (c : UInt8) (w : World) (hs : a0.size < 4294967281) :
    Calls Tryd.prog 106 #[.string a0, .string ⟨#[c]⟩] w fun e w' => e = .returned (.tuple #[.string (cutAt a0 c).1, .string (cutAt a0 c).2.1, .bool (cutAt a0 c).2.2]) ∧ Drawn0 w w' := by
  have HI := Aside0.mk (fun W => Tryd.stringslite_Index_one a0 c W)
  have hlt := cutAt_lt a0 c
  have hd : cutAt a0 c = if 0 ≤ Lib.indexByte a0.data.toList c then (a0.extract 0 (Lib.indexByte a0.data.toList c).toNat, a0.extract ((Lib.indexByte a0.data.toList c).toNat + 1) a0.size, true) else (a0, ⟨#[]⟩, false) := rfl
  generalize cutAt a0 c = r at hd
  generalize Lib.indexByte a0.data.toList c = i at *
  by_cases hi : 0 ≤ i
  · have hi2 := hlt hi
    rw [if_pos hi] at hd
    subst hd
    have b1 : decide ((0 : Int) ≤ i) = true := decide_eq_true hi
    obtain ⟨k, rfl⟩ := Int.eq_ofNat_of_zero_le hi
    have h1 : (k : Int) ≤ (a0.size : Int) := by omega
    have h2 : (k : Int) + 1 ≤ (a0.size : Int) := by omega
    have h3 : (0 : Int) ≤ (k : Int) + 1 := by omega
    clear hlt
    go_enter Tryd.func106, Tryd.ntmps106
    go_wp2_with (go_at_call 130; refine (HI.out _).mono ?_; rintro e w1 ⟨rfl, rfl⟩)
    repeat (go_quiet (fail); try go_wp2)
    go_ret3
    refine ⟨?_, ⟨⟨_, rfl⟩⟩⟩
    have e1 : ((k : Int) + 1).toNat = k + 1 := by omega
    simp [e1]
  · rw [if_neg hi] at hd
    subst hd
    have b1 : decide ((0 : Int) ≤ i) = false := decide_eq_false hi
    clear hlt
    go_enter Tryd.func106, Tryd.ntmps106
    go_wp2_with (go_at_call 130; refine (HI.out _).mono ?_; rintro e w1 ⟨rfl, rfl⟩)
    repeat (go_quiet (fail); try go_wp2)
    go_ret3
    exact ⟨rfl, Drawn0.refl _⟩
set_option maxHeartbeats 4000000 in
set_option maxRecDepth 100000 in
theorem strings_Cut.calls (a0 : ByteArray) (a1 : ByteArray) (r1 : ByteArray) (r2 : ByteArray) (r3 : Bool) (w : World) (h : strings_Cut.f a0 a1 = some (r1, r2, r3)) :
    Calls Tryd.prog 61 #[.string a0, .string a1] w fun e w' => e = .returned (.tuple #[.string r1, .string r2, .bool r3]) ∧ Drawn0 w w' := by
  unfold strings_Cut.f at h
  split at h
  case isFalse => cases h
  rename_i hs
  obtain ⟨c, rfl⟩ : ∃ c, a1 = ⟨#[c]⟩ := by
    obtain ⟨⟨l⟩⟩ := a1
    match l, hs.2 with
    | [c], _ => exact ⟨c, rfl⟩
  replace h := Option.some.inj h
  have h0 : cutAt a0 c = (r1, r2, r3) := h
  have HI := Aside0.mk (strings_Cut.inner a0 c w hs.1)
  rw [h0] at HI
  clear h h0
  go_enter Tryd.func61, Tryd.ntmps61
  go_wp2_with (go_at_call 106; refine HI.out.mono ?_; rintro e w1 ⟨rfl, hd⟩; have HD := Aside0.mk hd; clear hd)
  go_ret3
  exact ⟨rfl, HD.out⟩

/-! ### runes_long: function 65 -/
def runes_long.f (a0 : ByteArray) : Option (Int) := if (a0.size : Int) > 65536 then (some 3) else (some 0)
set_option maxHeartbeats 8000000 in
set_option maxRecDepth 100000 in
theorem runes_long.calls (a0 : ByteArray) (r : Int) (w : World) (h : runes_long.f a0 = some r) :
    Calls Tryd.prog 65 #[.string a0] w fun e w' => e = .returned (.int .i64 r) ∧ Drawn0 w w' := by
  have H : (if (a0.size : Int) > 65536 then (some 3) else (some 0)) = some r := h
  clear h
  by_cases c2 : (a0.size : Int) > 65536
  · rw [if_pos c2] at H
    have c2b0 : decide (65536 < (a0.size : Int)) = true := decide_eq_true c2
    have c2b1 : decide (65536 < a0.size) = true := decide_eq_true (by omega)
    clear c2
    obtain rfl := Option.some.inj H
    go_enter Tryd.func65, Tryd.ntmps65
    go_wp2
    go_ret
    exact ⟨by first | rfl | (simp; done) | (simp [*]; done), by repeat (first | exact Drawn0.refl _ | apply Drawn0.step)⟩
  · rw [if_neg c2] at H
    have c2b0 : decide (65536 < (a0.size : Int)) = false := decide_eq_false c2
    have c2b1 : decide (65536 < a0.size) = false := decide_eq_false (by omega)
    clear c2
    obtain rfl := Option.some.inj H
    go_enter Tryd.func65, Tryd.ntmps65
    go_wp2
    go_ret
    exact ⟨by first | rfl | (simp; done) | (simp [*]; done), by repeat (first | exact Drawn0.refl _ | apply Drawn0.step)⟩

def pcAt (s : ByteArray) (i : Nat) : S97 := ⟨((Utf8.decode s i).1 : Int), i, ((Utf8.decode s i).2 : Int), decide ((Utf8.decode s i).1 = 65533 ∧ (Utf8.decode s i).2 = 1)⟩
def pcs (s : ByteArray) : Nat → Nat → List S97
  | 0, _ => []
  | f + 1, i => if i < s.size then pcAt s i :: pcs s f (i + (Utf8.decode s i).2) else []
def pieces (s : ByteArray) : List S97 := pcs s s.size 0
theorem pcs_end (s : ByteArray) (f i : Nat) (h : ¬ i < s.size) : pcs s f i = [] := by cases f <;> simp [pcs, h]
theorem pcs_length (s : ByteArray) : ∀ f i, (pcs s f i).length ≤ f
  | 0, _ => by simp [pcs]
  | f + 1, i => by
    unfold pcs
    split
    · simp only [List.length_cons]; have := pcs_length s f (i + (Utf8.decode s i).2); omega
    · simp
theorem get_tail (s : ByteArray) (pos k : Nat) : (s.extract pos s.size).get! k = s.get! (pos + k) := by
  have hs : s.size = s.data.size := rfl
  show (s.extract pos s.size).data[k]! = s.data[pos + k]!
  simp only [ByteArray.data_extract, getElem!_def]
  rw [Array.getElem?_extract]
  by_cases h : k < min s.size s.data.size - pos
  · rw [if_pos h]
  · rw [if_neg h]
    have : s.data[pos + k]? = none := by
      apply Array.getElem?_eq_none
      rw [hs, Nat.min_self] at h
      omega
    rw [this]
theorem decode_tail (s : ByteArray) (pos : Nat) : Utf8.decode (s.extract pos s.size) 0 = Utf8.decode s pos := by
  rw [Lib.decode_at, Lib.decode_at s pos]
  have : (s.extract pos s.size).size = s.size - pos := by simp [ByteArray.size_extract]
  simp only [get_tail, this, Nat.sub_zero, Nat.add_zero, Nat.zero_add]
theorem decode_le65 (s : ByteArray) (pos : Nat) (h : pos < s.size) : (Utf8.decode s pos).1 ≤ 1114111 ∧ pos + (Utf8.decode s pos).2 ≤ s.size := by
  unfold Utf8.decode Utf8.runeError
  simp only
  repeat' split
  all_goals simp_all [Utf8.valid]
  all_goals omega
def runeLenN (r : Nat) : Nat := if r ≤ 127 then 1 else if r ≤ 2047 then 2 else if r ≤ 65535 then 3 else 4
theorem decode_valid (s : ByteArray) (i : Nat) : ((Utf8.decode s i).1 = 65533 ∧ (Utf8.decode s i).2 = 1) ∨ ((Utf8.decode s i).2 = runeLenN (Utf8.decode s i).1 ∧ Utf8.valid (Utf8.decode s i).1 = true) := by
  unfold Utf8.decode Utf8.runeError runeLenN
  simp only
  repeat' split
  all_goals first | exact .inl ⟨rfl, rfl⟩ | skip
  all_goals refine .inr ?_
  all_goals simp_all [Utf8.valid]
  all_goals omega

end Go.Proofs.YtfpfdmenhgageaaDoor.C
