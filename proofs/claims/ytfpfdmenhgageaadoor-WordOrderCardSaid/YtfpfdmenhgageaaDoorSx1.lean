-- Written by this session's program (wip/ext) with the kit's printer. Not trusted: Lean checks it.
import Derived.Test.YtfpfdmenhgageaaDoorSx0
namespace Go.Proofs.YtfpfdmenhgageaaDoor.S
open Go.RowKit Go.Proofs.YtfpfdmenhgageaaDoorW.PrintWords Go.Proofs.YtfpfdmenhgageaaDoorW.PrintLast Go.Proofs.YtfpfdmenhgageaaDoorW.PrintMore
attribute [local go_sem] max2_int min2_int max_two min_two max_three min_three max_four min_four   -- for this text's walks alone
set_option linter.unusedVariables false
set_option linter.unusedSimpArgs false

/-! ### feature_within: function 82 -/
def feature_within.f (l0_0 : List ByteArray) (l0_1 : List (S118)) (a1 : Int) (a2 : Int) : Option (Bool) := if (shr .u32 (Go.bits .or .u32 a1 a2) (l0_0.length : Int)) = 0 then (some ((Go.bits .and .u32 a1 a2) == 0)) else (some false)
set_option maxHeartbeats 8000000 in
set_option maxRecDepth 100000 in
theorem feature_within.calls (A0_0 : Option Addr) (c0_0 : Nat) (l0_0 : List ByteArray) (A0_1 : Option Addr) (c0_1 : Nat) (l0_1 : List (S118)) (a1 : Int) (a2 : Int) (r : Bool) (w : World) (hr0_0 : Kd.C Kd.string w A0_0 l0_0.length l0_0) (hc0_0 : l0_0.length ≤ c0_0) (hr0_1 : Kd.C k118 w A0_1 l0_1.length l0_1) (hc0_1 : l0_1.length ≤ c0_1) (h : feature_within.f l0_0 l0_1 a1 a2 = some r) :
    Calls Tryd.prog 82 #[.agg #[.slice A0_0 l0_0.length c0_0, .slice A0_1 l0_1.length c0_1], .int .u32 a1, .int .u32 a2] w fun e w' => e = .returned (.bool r) ∧ Below w.heap.size w w' := by
  have hu38 := Tryd.underlying38
  have HR0_0 := Aside0.mk hr0_0
  have HC0_0 := Aside0.mk hc0_0
  clear hr0_0 hc0_0
  have HR0_1 := Aside0.mk hr0_1
  have HC0_1 := Aside0.mk hc0_1
  clear hr0_1 hc0_1
  have HB := Aside0.mk (Below.refl w.heap.size w)
  have H : (if (shr .u32 (Go.bits .or .u32 a1 a2) (l0_0.length : Int)) = 0 then (some ((Go.bits .and .u32 a1 a2) == 0)) else (some false)) = some r := h
  clear h
  obtain ⟨ji4, hji4⟩ : ∃ j_ : Int, (shr .u32 (Go.bits .or .u32 a1 a2) (l0_0.length : Int)) = j_ := ⟨_, rfl⟩
  replace H : (if (ji4) = 0 then (some ((Go.bits .and .u32 a1 a2) == 0)) else (some false)) = some r := by first | (rw [hji4] at H; exact H) | (simp only [hji4] at H ⊢; exact H)
  have hji4_ : ((Go.bits .or .u32 a1 a2) / 2 ^ min (l0_0.length : Int).toNat 32) = ji4 := hji4
  have hji4z : (l0_0.length : Int) ≤ 32 → ((Go.bits .or .u32 a1 a2) / 2 ^ (l0_0.length : Int).toNat) = ji4 := shr_small hji4
  have hji4p : ((Go.bits .or .u32 a1 a2) / 2 ^ min l0_0.length 32) = ji4 := hji4_
  have hji4q : (l0_0.length : Int) ≤ 32 → ((Go.bits .or .u32 a1 a2) / 2 ^ l0_0.length) = ji4 := hji4z
  by_cases c5 : (ji4) = 0
  · rw [if_pos c5] at H
    have c5b0 : ((ji4) == 0) = true := beq_iff_eq.mpr c5
    have c5b1 : ((ji4) != 0) = false := bne_eq_false_iff_eq.mpr c5
    clear c5
    obtain rfl := Option.some.inj H
    go_enter Tryd.func82, Tryd.ntmps82
    go_wp2_with (first | ((with_reducible refine gate_dst (N := 3) rfl ?_); refine box_event ?hg (N := 3) ?hd (cs := #[.slice A0_0 l0_0.length c0_0, .slice A0_1 l0_1.length c0_1]) (t := 38) ?hr ?_; (case hd => rfl); (case hg => rfl); (case hr => first | (go_simp; done) | (go_simp; rfl)); intro gb101 hg w6 hbox hb; have n0_ := Aside0.mk (below_step (by repeat (first | (with_reducible first | exact HB.out | apply below_alloc | apply pw_below_drewN | apply below_drew1) | exact HB.out)) hb); have n1_ := Aside0.mk (hbox); have n2_ := Aside0.mk ((by rw [hg]; exact (below_size (by repeat (first | (with_reducible first | exact HB.out | apply below_alloc | apply pw_below_drewN | apply below_drew1) | exact HB.out))) : w.heap.size ≤ gb101)); have n3_ := Aside0.mk ((by rw [hg]; exact (below_size (by repeat (first | (with_reducible first | exact HB.out | apply below_alloc | apply pw_below_drewN | apply below_drew1) | exact HB.out))) : w.heap.size ≤ gb101)); clear HB; have HB := n0_; have BK101 := n1_; have GW101 := n2_; have GE101 := n3_; clear n0_ n1_ n2_ n3_; clear hb hbox hg; have hcz7_0 : w6.cell? ⟨gb101, 0, none⟩ = some (.slice A0_0 l0_0.length c0_0) := (blk_cell BK101.out 0).trans rfl; have hcz7_1 : w6.cell? ⟨gb101, 1, none⟩ = some (.slice A0_1 l0_1.length c0_1) := (blk_cell BK101.out 1).trans rfl; have hfz7_0 := blk_frozen BK101.out 0; have hfz7_1 := blk_frozen BK101.out 1))
    go_ret
    exact ⟨by first | rfl | (simp [errW_none, errW_some] <;> rfl) | (simp only [← hji4]; first | rfl | (simp [errW_none, errW_some] <;> rfl)) | (simp [*, errW_none, errW_some] <;> rfl), by repeat (first | (with_reducible first | exact HB.out | apply below_alloc | apply pw_below_drewN | apply below_drew1 | refine below_set ?_ GE101.out) | exact HB.out)⟩
  · rw [if_neg c5] at H
    have c5b0 : ((ji4) == 0) = false := beq_eq_false_iff_ne.mpr c5
    have c5b1 : ((ji4) != 0) = true := bne_iff_ne.mpr c5
    obtain rfl := Option.some.inj H
    go_enter Tryd.func82, Tryd.ntmps82
    go_wp2_with (first | ((with_reducible refine gate_dst (N := 3) rfl ?_); refine box_event ?hg (N := 3) ?hd (cs := #[.slice A0_0 l0_0.length c0_0, .slice A0_1 l0_1.length c0_1]) (t := 38) ?hr ?_; (case hd => rfl); (case hg => rfl); (case hr => first | (go_simp; done) | (go_simp; rfl)); intro gb101 hg w8 hbox hb; have n0_ := Aside0.mk (below_step (by repeat (first | (with_reducible first | exact HB.out | apply below_alloc | apply pw_below_drewN | apply below_drew1) | exact HB.out)) hb); have n1_ := Aside0.mk (hbox); have n2_ := Aside0.mk ((by rw [hg]; exact (below_size (by repeat (first | (with_reducible first | exact HB.out | apply below_alloc | apply pw_below_drewN | apply below_drew1) | exact HB.out))) : w.heap.size ≤ gb101)); have n3_ := Aside0.mk ((by rw [hg]; exact (below_size (by repeat (first | (with_reducible first | exact HB.out | apply below_alloc | apply pw_below_drewN | apply below_drew1) | exact HB.out))) : w.heap.size ≤ gb101)); clear HB; have HB := n0_; have BK101 := n1_; have GW101 := n2_; have GE101 := n3_; clear n0_ n1_ n2_ n3_; clear hb hbox hg; have hcz9_0 : w8.cell? ⟨gb101, 0, none⟩ = some (.slice A0_0 l0_0.length c0_0) := (blk_cell BK101.out 0).trans rfl; have hcz9_1 : w8.cell? ⟨gb101, 1, none⟩ = some (.slice A0_1 l0_1.length c0_1) := (blk_cell BK101.out 1).trans rfl; have hfz9_0 := blk_frozen BK101.out 0; have hfz9_1 := blk_frozen BK101.out 1))
    go_ret
    exact ⟨by first | rfl | (simp [errW_none, errW_some] <;> rfl) | (simp only [← hji4]; first | rfl | (simp [errW_none, errW_some] <;> rfl)) | (simp [*, errW_none, errW_some] <;> rfl), by repeat (first | (with_reducible first | exact HB.out | apply below_alloc | apply pw_below_drewN | apply below_drew1 | refine below_set ?_ GE101.out) | exact HB.out)⟩

def namedB (s : ByteArray) : Bool := decide (s.size ≠ 0) && (decide (s.size ≤ 32) && s.data.toList.all (fun b => decide (97 ≤ b.toNat ∧ b.toNat ≤ 122)))
theorem namedB_key {s : ByteArray} (h : namedB s = true) : s.size ≤ maxLen := by
  unfold namedB at h
  simp only [Bool.and_eq_true, decide_eq_true_eq] at h
  have := h.2.1
  unfold maxLen
  omega
def az : List UInt8 := [97, 98, 99, 100, 101, 102, 103, 104, 105, 106, 107, 108, 109, 110, 111, 112, 113, 114, 115, 116, 117, 118, 119, 120, 121, 122]
theorem az_has (b : UInt8) : az.contains b = decide (97 ≤ b.toNat ∧ b.toNat ≤ 122) := by
  have : ∀ n : Fin 256, az.contains (UInt8.ofNat n.1) = decide (97 ≤ n.1 ∧ n.1 ≤ 122) := by decide +kernel
  have h := this ⟨b.toNat, b.toNat_lt⟩
  simpa using h
theorem dropWhile_nil {α : Type} (p : α → Bool) : ∀ l : List α, l.dropWhile p = [] ↔ l.all p = true
  | [] => by simp
  | x :: l => by
    rw [List.dropWhile_cons]
    split
    · rename_i h; simp [h, dropWhile_nil p l]
    · rename_i h; simp [h]
theorem trimS_nil (l cs : List UInt8) : Lib.trimS l cs = [] ↔ l.all (cs.contains ·) = true := by
  unfold Lib.trimS Lib.trimLeftS Lib.trimRightS
  rw [dropWhile_nil, List.all_reverse]
  constructor
  · intro h
    rcases hd : l.reverse.dropWhile (cs.contains ·) with _ | ⟨x, t⟩
    · have := (dropWhile_nil _ _).1 hd
      rwa [List.all_reverse] at this
    · rw [hd] at h
      have hx : cs.contains x = true := by simp only [List.all_cons, Bool.and_eq_true] at h; exact h.1
      have := List.head?_dropWhile_not (cs.contains ·) l.reverse
      rw [hd] at this
      simp only [List.head?_cons] at this
      rw [hx] at this
      exact absurd this (by simp)
  · intro h
    have : l.reverse.dropWhile (cs.contains ·) = [] := (dropWhile_nil _ _).2 (by rw [List.all_reverse]; exact h)
    rw [this]; rfl
theorem trim_az (s : ByteArray) : Lib.trimS s.data.toList az = [] ↔ s.data.toList.all (fun b => decide (97 ≤ b.toNat ∧ b.toNat ≤ 122)) = true := by
  rw [trimS_nil]
  rw [show (fun x => az.contains x) = (fun b : UInt8 => decide (97 ≤ b.toNat ∧ b.toNat ≤ 122)) from funext az_has]

/-! ### feature_named: function 124 (by hand) -/
def feature_named.f (a0 : ByteArray) : Option (Bool) := if a0.size ≤ 9223372036854775807 then some (namedB a0) else none
set_option maxHeartbeats 4000000 in
set_option maxRecDepth 100000 in
theorem feature_named.calls (a0 : ByteArray) (r : Bool) (w : World) (h : feature_named.f a0 = some r) :
    Calls Tryd.prog 124 #[.string a0] w fun e w' => e = .returned (.bool r) ∧ Below w.heap.size w w' := by
  unfold feature_named.f at h
  split at h
  case isFalse => cases h
  rename_i hsz
  obtain rfl := Option.some.inj h
  have hT : Calls Tryd.prog 149 #[.string a0, .string ⟨az.toArray⟩] w _ := Any.strings_Trim_laid Tryd.lays160 (by kernel_rfl) a0 ⟨az.toArray⟩ w hsz (by decide) (ascii_of_all (by decide))
  have HT := Aside0.mk hT
  clear hT h
  have hE : a0.toList = a0.data.toList := ByteArray.toList_eq a0
  go_enter Tryd.func124, Tryd.ntmps124
  go_wp2_with (go_at_call 149; refine HT.out.mono ?_; rintro e w1 ⟨rfl, hb⟩)
  all_goals (try go_ret)
  · rename_i h0
    have hz : a0.size = a0.data.size := rfl
    refine ⟨?_, Below.refl _ _⟩
    have : namedB a0 = false := by unfold namedB; rw [show a0.size = 0 by rw [hz, h0]; rfl]; rfl
    rw [this]; rfl
  · rename_i h0 h1
    have hz : a0.size = a0.data.size := rfl
    refine ⟨?_, by assumption⟩
    have h0' : a0.data.isEmpty = false := by
      cases h : a0.data.isEmpty
      · rfl
      · exact absurd (Array.isEmpty_iff.1 h) h0
    have : namedB a0 = (!a0.data.isEmpty && (Lib.trimS a0.data.toList az).isEmpty) := by
      unfold namedB
      rw [h0', decide_eq_true (show a0.size ≠ 0 by intro h; rw [hz] at h; exact h0 (Array.eq_empty_of_size_eq_zero h)), decide_eq_true (show a0.size ≤ 32 by omega)]
      simp only [Bool.true_and, Bool.not_false]
      rw [Bool.eq_iff_iff, ← trim_az, List.isEmpty_iff]
    rw [this]; rfl
  · rename_i h0 h1
    refine ⟨?_, Below.refl _ _⟩
    have : namedB a0 = false := by unfold namedB; rw [decide_eq_false (show ¬ a0.size ≤ 32 by omega)]; simp
    rw [this]; rfl

/-! ### feature_lettered: function 125 -/
mutual
def feature_lettered.j0 : Nat → Int → Bool → Option (Bool)
  | 0, _, _ => none
  | k + 1, x0, x3 => if x3 = true then (feature_lettered.j1 k x0 x3) else (if 65 ≤ x0 then (feature_lettered.j1 k x0 (decide (x0 ≤ 90))) else (feature_lettered.j1 k x0 false))
def feature_lettered.j1 : Nat → Int → Bool → Option (Bool)
  | 0, _, _ => none
  | k + 1, x0, x3 => if x3 = true then (some true) else (if x0 < 161 then (some false) else (if x0 > 1114111 then (some false) else (if x0 = 65533 then (some false) else (if (x0 / 2048) = 27 then (some false) else (some true)))))
end
def feature_lettered.f (k : Nat) (a0 : Int) : Option (Bool) := if 97 ≤ a0 then (feature_lettered.j0 k a0 (decide (a0 ≤ 122))) else (feature_lettered.j0 k a0 false)
theorem feature_lettered.mono_l : ∀ k, (∀ y0 y1, LeO (feature_lettered.j0 k y0 y1) (feature_lettered.j0 (k + 1) y0 y1)) ∧ (∀ y0 y1, LeO (feature_lettered.j1 k y0 y1) (feature_lettered.j1 (k + 1) y0 y1))
  | 0 => ⟨fun _ _ r h => by simp [feature_lettered.j0] at h, fun _ _ r h => by simp [feature_lettered.j1] at h⟩
  | k + 1 => by
    obtain ⟨ih0, ih1⟩ := feature_lettered.mono_l k
    refine ⟨?_, ?_⟩
    · intro y0 y1
      unfold feature_lettered.j0
      repeat' first
      | (with_reducible exact ih0 _ _)
      | (with_reducible exact ih1 _ _)
      | (with_reducible exact LeO.refl _)
      | (with_reducible exact LeO.none _)
      | (with_reducible refine LeO.ite ?_ ?_)
      | (with_reducible refine LeO.bind ?_ (fun _ => ?_))
      | exact ih0 _ _
      | exact ih1 _ _
      | exact LeO.none _
      | refine LeO.ite ?_ ?_
      | refine LeO.bind ?_ (fun _ => ?_)
    · intro y0 y1
      unfold feature_lettered.j1
      repeat' first
      | (with_reducible exact ih0 _ _)
      | (with_reducible exact ih1 _ _)
      | (with_reducible exact LeO.refl _)
      | (with_reducible exact LeO.none _)
      | (with_reducible refine LeO.ite ?_ ?_)
      | (with_reducible refine LeO.bind ?_ (fun _ => ?_))
      | exact ih0 _ _
      | exact ih1 _ _
      | exact LeO.none _
      | refine LeO.ite ?_ ?_
      | refine LeO.bind ?_ (fun _ => ?_)
theorem feature_lettered.mono : ∀ a0 k, LeO (feature_lettered.f k a0) (feature_lettered.f (k + 1) a0) := by
  intro a0 k
  obtain ⟨ih0, ih1⟩ := feature_lettered.mono_l k
  unfold feature_lettered.f
  repeat' first
      | (with_reducible exact ih0 _ _)
      | (with_reducible exact ih1 _ _)
      | (with_reducible exact LeO.refl _)
      | (with_reducible exact LeO.none _)
      | (with_reducible refine LeO.ite ?_ ?_)
      | (with_reducible refine LeO.bind ?_ (fun _ => ?_))
      | exact ih0 _ _
      | exact ih1 _ _
      | exact LeO.none _
      | refine LeO.ite ?_ ?_
      | refine LeO.bind ?_ (fun _ => ?_)
set_option maxHeartbeats 8000000 in
set_option maxRecDepth 100000 in
theorem feature_lettered.calls (k : Nat) (a0 : Int) (r : Bool) (w : World) (h : feature_lettered.f k a0 = some r) :
    Calls Tryd.prog 125 #[.int .i32 a0] w fun e w' => e = .returned (.bool r) ∧ Drawn0 w w' := by
  have H : (if 97 ≤ a0 then (feature_lettered.j0 k a0 (decide (a0 ≤ 122))) else (feature_lettered.j0 k a0 false)) = some r := h
  clear h
  have HC2 := Aside0.mk H
  clear H
  go_enter Tryd.func125, Tryd.ntmps125
  go_upto_region 1 with (fail)
  go_cut [3] (fun v3 wc => ∃ (kq : Nat) (x3_1 : Bool), v3 = .bool x3_1 ∧ Aside0 (feature_lettered.j0 kq a0 x3_1 = some r) ∧ Aside0 (kq ≤ k) ∧ Drawn0 w wc)
  case first =>
    have H := HC2.out
    clear HC2
    by_cases c3 : 97 ≤ a0
    · rw [if_pos c3] at H
      have c3b0 : decide (97 ≤ a0) = true := decide_eq_true c3
      clear c3
      (first | rw [c3b0] | (simp only [i64_w, i32_w]; rw [c3b0]) | skip)
      have H' := Aside0.mk H
      clear H
      go_wp2
      go_meet
      case rel => exact ⟨_, (decide (a0 ≤ 122)), (by first | rfl | (simp; done) | (simp [*]; done)), H', ⟨by first | omega | exact Nat.le_refl _⟩, by repeat (first | exact Drawn0.refl _ | apply Drawn0.step)⟩
    · rw [if_neg c3] at H
      have c3b0 : decide (97 ≤ a0) = false := decide_eq_false c3
      clear c3
      (first | rw [c3b0] | (simp only [i64_w, i32_w]; rw [c3b0]) | skip)
      have H' := Aside0.mk H
      clear H
      go_wp2
      go_meet
      case rel => exact ⟨_, (false), (by first | rfl | (simp; done) | (simp [*]; done)), H', ⟨by first | omega | exact Nat.le_refl _⟩, by repeat (first | exact Drawn0.refl _ | apply Drawn0.step)⟩
  case rest =>
    clear HC2
    try clear c1
    try clear p2
    try clear c3
    try clear c3b0
    obtain ⟨kq, x3_1, rfl, HA, HJ1, ⟨mc1, rfl⟩⟩ := hcut
    cases kq with
    | zero => exact absurd HA.out (by simp [feature_lettered.j0])
    | succ kj1 =>
      have H := HA.out
      clear HA
      simp only [feature_lettered.j0] at H
      have HC4 := Aside0.mk H
      clear H
      go_upto_if 3 with (fail)
      go_cut [3] (fun v3 wc => ∃ (kq : Nat) (x3_3 : Bool), v3 = .bool x3_3 ∧ Aside0 (feature_lettered.j1 kq a0 x3_3 = some r) ∧ Aside0 (kq ≤ kj1) ∧ Drawn0 w wc)
      case first =>
        have H := HC4.out
        clear HC4
        by_cases c5 : x3_1 = true
        · subst c5
          have H1 : (feature_lettered.j1 kj1 a0 true) = some r := by rw [if_pos rfl] at H; exact H
          clear H
          have H := H1
          clear H1
          have H' := Aside0.mk H
          clear H
          go_wp2
          go_meet
          case rel => exact ⟨_, (true), (by first | rfl | (simp; done) | (simp [*]; done)), H', ⟨by have := HJ1.out; first | omega | exact Nat.le_refl _⟩, by repeat (first | exact Drawn0.refl _ | apply Drawn0.step)⟩
        · replace c5 := Bool.eq_false_iff.mpr c5
          subst c5
          have H1 : (if 65 ≤ a0 then (feature_lettered.j1 kj1 a0 (decide (a0 ≤ 90))) else (feature_lettered.j1 kj1 a0 false)) = some r := by rw [if_neg (show ¬ (false = true) by decide)] at H; exact H
          clear H
          have H := H1
          clear H1
          by_cases c6 : 65 ≤ a0
          · rw [if_pos c6] at H
            have c6b0 : decide (65 ≤ a0) = true := decide_eq_true c6
            clear c6
            (first | rw [c6b0] | (simp only [i64_w, i32_w]; rw [c6b0]) | skip)
            have H' := Aside0.mk H
            clear H
            go_wp2
            go_meet
            case rel => exact ⟨_, (decide (a0 ≤ 90)), (by first | rfl | (simp; done) | (simp [*]; done)), H', ⟨by have := HJ1.out; first | omega | exact Nat.le_refl _⟩, by repeat (first | exact Drawn0.refl _ | apply Drawn0.step)⟩
          · rw [if_neg c6] at H
            have c6b0 : decide (65 ≤ a0) = false := decide_eq_false c6
            clear c6
            (first | rw [c6b0] | (simp only [i64_w, i32_w]; rw [c6b0]) | skip)
            have H' := Aside0.mk H
            clear H
            go_wp2
            go_meet
            case rel => exact ⟨_, (false), (by first | rfl | (simp; done) | (simp [*]; done)), H', ⟨by have := HJ1.out; first | omega | exact Nat.le_refl _⟩, by repeat (first | exact Drawn0.refl _ | apply Drawn0.step)⟩
      case rest =>
        clear HC4
        try clear c1
        try clear p2
        try clear c3
        try clear c3b0
        try clear c5
        try clear c6
        try clear c6b0
        try clear p2
        obtain ⟨kq, x3_3, rfl, HA, HJ3, ⟨mc3, rfl⟩⟩ := hcut
        cases kq with
        | zero => exact absurd HA.out (by simp [feature_lettered.j1])
        | succ kj3 =>
          have H := HA.out
          clear HA
          simp only [feature_lettered.j1] at H
          by_cases c7 : x3_3 = true
          · subst c7
            have H1 : (some true) = some r := by rw [if_pos rfl] at H; exact H
            clear H
            have H := H1
            clear H1
            obtain rfl := Option.some.inj H
            go_wp2
            go_ret
            exact ⟨by first | rfl | (simp; done) | (simp [*]; done), by repeat (first | exact Drawn0.refl _ | apply Drawn0.step)⟩
          · replace c7 := Bool.eq_false_iff.mpr c7
            subst c7
            have H1 : (if a0 < 161 then (some false) else (if a0 > 1114111 then (some false) else (if a0 = 65533 then (some false) else (if (a0 / 2048) = 27 then (some false) else (some true))))) = some r := by rw [if_neg (show ¬ (false = true) by decide)] at H; exact H
            clear H
            have H := H1
            clear H1
            by_cases c8 : a0 < 161
            · rw [if_pos c8] at H
              have c8b0 : decide (a0 < 161) = true := decide_eq_true c8
              clear c8
              obtain rfl := Option.some.inj H
              go_wp2
              go_ret
              exact ⟨by first | rfl | (simp; done) | (simp [*]; done), by repeat (first | exact Drawn0.refl _ | apply Drawn0.step)⟩
            · rw [if_neg c8] at H
              have c8b0 : decide (a0 < 161) = false := decide_eq_false c8
              clear c8
              by_cases c9 : a0 > 1114111
              · rw [if_pos c9] at H
                have c9b0 : decide (1114111 < a0) = true := decide_eq_true c9
                clear c9
                obtain rfl := Option.some.inj H
                go_wp2
                go_ret
                exact ⟨by first | rfl | (simp; done) | (simp [*]; done), by repeat (first | exact Drawn0.refl _ | apply Drawn0.step)⟩
              · rw [if_neg c9] at H
                have c9b0 : decide (1114111 < a0) = false := decide_eq_false c9
                clear c9
                by_cases c10 : a0 = 65533
                · rw [if_pos c10] at H
                  have c10b0 : (a0 == 65533) = true := beq_iff_eq.mpr c10
                  have c10b1 : (a0 != 65533) = false := bne_eq_false_iff_eq.mpr c10
                  clear c10
                  obtain rfl := Option.some.inj H
                  go_wp2
                  go_ret
                  exact ⟨by first | rfl | (simp; done) | (simp [*]; done), by repeat (first | exact Drawn0.refl _ | apply Drawn0.step)⟩
                · rw [if_neg c10] at H
                  have c10b0 : (a0 == 65533) = false := beq_eq_false_iff_ne.mpr c10
                  have c10b1 : (a0 != 65533) = true := bne_iff_ne.mpr c10
                  by_cases c11 : (a0 / 2048) = 27
                  · rw [if_pos c11] at H
                    have c11b0 : ((a0 / 2048) == 27) = true := beq_iff_eq.mpr c11
                    have c11b1 : ((a0 / 2048) != 27) = false := bne_eq_false_iff_eq.mpr c11
                    clear c11
                    obtain rfl := Option.some.inj H
                    go_wp2
                    go_ret
                    exact ⟨by first | rfl | (simp; done) | (simp [*]; done), by repeat (first | exact Drawn0.refl _ | apply Drawn0.step)⟩
                  · rw [if_neg c11] at H
                    have c11b0 : ((a0 / 2048) == 27) = false := beq_eq_false_iff_ne.mpr c11
                    have c11b1 : ((a0 / 2048) != 27) = true := bne_iff_ne.mpr c11
                    obtain rfl := Option.some.inj H
                    go_wp2
                    go_ret
                    exact ⟨by first | rfl | (simp; done) | (simp [*]; done), by repeat (first | exact Drawn0.refl _ | apply Drawn0.step)⟩

def letteredB (r : Int) : Bool := (decide (97 ≤ r) && decide (r ≤ 122)) || ((decide (65 ≤ r) && decide (r ≤ 90)) || (decide (161 ≤ r) && (decide (r ≤ 1114111) && (decide (r ≠ 65533) && decide (r / 2048 ≠ 27)))))
theorem lettered_wf {r : Int} (h : letteredB r = true) : (Lit.int .i32 r).wf = true := by
  unfold letteredB at h
  simp only [Bool.or_eq_true, Bool.and_eq_true, decide_eq_true_eq] at h
  simp only [Lit.wf, IntKind.min, IntKind.max, IntKind.signed, IntKind.bits, Bool.and_eq_true, decide_eq_true_eq, if_true]
  omega
def withinB (n : Int) (p m : Int) : Bool := (shr .u32 (Go.bits .or .u32 p m) n == 0) && (Go.bits .and .u32 p m == 0)
instance : DecidableEq ByteArray := fun a b => if h : a.data.toList = b.data.toList then isTrue (ByteArray.ext (Array.ext' h)) else isFalse (fun e => h (by rw [e]))
def featsB (seen : List ByteArray) : List ByteArray → Bool
  | [] => true
  | f :: fs => namedB f && (!(seen.any fun g => decide (g = f)) && featsB (seen ++ [f]) fs)
def letsB (n : Int) (seen : List Int) : List S118 → Bool
  | [] => true
  | l :: ls => letteredB l.f0 && (!(seen.any fun g => decide (g = l.f0)) && (withinB n l.f1 l.f2 && letsB n (seen ++ [l.f0]) ls))
def alphaB (fs : List ByteArray) (ls : List S118) : Bool := decide (fs.length ≤ 24) && (decide (1 ≤ ls.length) && (decide (ls.length ≤ 128) && (featsB [] fs && letsB fs.length [] ls)))
def fitsS (fs : List ByteArray) : Bool := fs.all fun s => decide (s.size ≤ 9223372036854775807)
/-- A map that holds 'true' at just these keys. -/
def Seen {κ : Type} (m : κ → Option Bool) (seen : List κ) : Prop := ∀ x, (x ∈ seen ∧ m x = some true) ∨ (x ∉ seen ∧ m x = none)
theorem Seen.nil {κ : Type} : Seen (fun _ : κ => none) [] := fun x => .inr ⟨by simp, rfl⟩
theorem Seen.get {κ : Type} [DecidableEq κ] {m : κ → Option Bool} {seen : List κ} (h : Seen m seen) (x : κ) : (m x).getD false = seen.any fun g => decide (g = x) := by
  rcases h x with ⟨a, b⟩ | ⟨a, b⟩
  · rw [b]; exact (List.any_eq_true.2 ⟨x, a, by simp⟩).symm
  · rw [b]; refine (Bool.eq_false_iff.2 fun e => ?_).symm
    obtain ⟨g, hg, e⟩ := List.any_eq_true.1 e
    obtain rfl := of_decide_eq_true e
    exact a hg
theorem Seen.snoc {κ : Type} {m m' : κ → Option Bool} {seen : List κ} (h : Seen m seen) (x : κ) (h1 : m' x = some true) (h2 : ∀ y, y ≠ x → m' y = m y) : Seen m' (seen ++ [x]) := fun y => by
  by_cases e : y = x
  · subst e; exact .inl ⟨by simp, h1⟩
  · rw [h2 y e]
    rcases h y with ⟨a, b⟩ | ⟨a, b⟩
    · exact .inl ⟨by simp [a], b⟩
    · exact .inr ⟨by simp [a, e], b⟩
theorem take_snoc {α : Type} (l : List α) (k : Nat) (x : α) (h : l.drop k = x :: l.drop (k + 1)) : l.take (k + 1) = l.take k ++ [x] := by
  rw [List.take_add_one]
  have : l[k]? = some x := by rw [← List.head?_drop, h]; rfl
  rw [this]; rfl
theorem drop_str (l : List ByteArray) (k : Nat) (h : k < l.length) : l.drop k = rdOf ByteArray.empty l k :: l.drop (k + 1) := by
  rw [List.drop_eq_getElem_cons h]
  simp [rdOf, List.getD_eq_getElem?_getD, List.getElem?_eq_getElem h]
theorem drop_let (l : List S118) (k : Nat) (h : k < l.length) : l.drop k = rd_T118 l k :: l.drop (k + 1) := by
  rw [List.drop_eq_getElem_cons h]
  simp [rd_T118, List.getD_eq_getElem?_getD, List.getElem?_eq_getElem h]

end Go.Proofs.YtfpfdmenhgageaaDoor.S
