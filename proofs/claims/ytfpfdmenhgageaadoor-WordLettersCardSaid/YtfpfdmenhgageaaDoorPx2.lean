-- Written by this session's program (wip/ext) with the kit's printer. Not trusted: Lean checks it.
import Derived.Test.YtfpfdmenhgageaaDoorPx0
import Derived.Test.YtfpfdmenhgageaaDoorPx1
namespace Go.Proofs.YtfpfdmenhgageaaDoor.P
open Go.RowKit Go.Proofs.YtfpfdmenhgageaaDoorW.PrintWords Go.Proofs.YtfpfdmenhgageaaDoorW.PrintLast Go.Proofs.YtfpfdmenhgageaaDoorW.PrintMore
attribute [local go_sem] max2_int min2_int max_two min_two max_three min_three max_four min_four   -- for this text's walks alone
set_option linter.unusedVariables false
set_option linter.unusedSimpArgs false

/-! ### feature_lettered: function 125 -/
mutual
def feature_lettered.j0 : Nat → Int → Bool → Option (Bool)
  | 0, _, _ => none
  | k + 1, x0, x3 => if x3 = true then (feature_lettered.j1 k x0 x3) else (if 65 ≤ x0 then (feature_lettered.j1 k x0 (decide (x0 ≤ 90))) else (feature_lettered.j1 k x0 false))
def feature_lettered.j1 : Nat → Int → Bool → Option (Bool)
  | 0, _, _ => none
  | k + 1, x0, x3 => if x3 = true then (some true) else (if x0 < 161 then (some false) else (if x0 > 1114111 then (some false) else (if x0 = 65533 then (some false) else (if (x0 / 2048) = 27 then (some false) else (some true)))))
end
def feature_lettered.f (k : Nat) (a0 : Int) : Option (Bool) := if 97 ≤ a0 then (feature_lettered.j0 k a0 (decide (a0 ≤ 122))) else (feature_lettered.j0 k a0 false)
theorem feature_lettered.mono_l : ∀ k, (∀ y0 y1, LeO (feature_lettered.j0 k y0 y1) (feature_lettered.j0 (k + 1) y0 y1)) ∧ (∀ y0 y1, LeO (feature_lettered.j1 k y0 y1) (feature_lettered.j1 (k + 1) y0 y1))
  | 0 => ⟨fun _ _ r h => by simp [feature_lettered.j0] at h, fun _ _ r h => by simp [feature_lettered.j1] at h⟩
  | k + 1 => by
    obtain ⟨ih0, ih1⟩ := feature_lettered.mono_l k
    refine ⟨?_, ?_⟩
    · intro y0 y1
      unfold feature_lettered.j0
      repeat' first
      | (with_reducible exact ih0 _ _)
      | (with_reducible exact ih1 _ _)
      | (with_reducible exact LeO.refl _)
      | (with_reducible exact LeO.none _)
      | (with_reducible refine LeO.ite ?_ ?_)
      | (with_reducible refine LeO.bind ?_ (fun _ => ?_))
      | exact ih0 _ _
      | exact ih1 _ _
      | exact LeO.none _
      | refine LeO.ite ?_ ?_
      | refine LeO.bind ?_ (fun _ => ?_)
    · intro y0 y1
      unfold feature_lettered.j1
      repeat' first
      | (with_reducible exact ih0 _ _)
      | (with_reducible exact ih1 _ _)
      | (with_reducible exact LeO.refl _)
      | (with_reducible exact LeO.none _)
      | (with_reducible refine LeO.ite ?_ ?_)
      | (with_reducible refine LeO.bind ?_ (fun _ => ?_))
      | exact ih0 _ _
      | exact ih1 _ _
      | exact LeO.none _
      | refine LeO.ite ?_ ?_
      | refine LeO.bind ?_ (fun _ => ?_)
theorem feature_lettered.mono : ∀ a0 k, LeO (feature_lettered.f k a0) (feature_lettered.f (k + 1) a0) := by
  intro a0 k
  obtain ⟨ih0, ih1⟩ := feature_lettered.mono_l k
  unfold feature_lettered.f
  repeat' first
      | (with_reducible exact ih0 _ _)
      | (with_reducible exact ih1 _ _)
      | (with_reducible exact LeO.refl _)
      | (with_reducible exact LeO.none _)
      | (with_reducible refine LeO.ite ?_ ?_)
      | (with_reducible refine LeO.bind ?_ (fun _ => ?_))
      | exact ih0 _ _
      | exact ih1 _ _
      | exact LeO.none _
      | refine LeO.ite ?_ ?_
      | refine LeO.bind ?_ (fun _ => ?_)
set_option maxHeartbeats 8000000 in
set_option maxRecDepth 100000 in
theorem feature_lettered.calls (k : Nat) (a0 : Int) (r : Bool) (w : World) (h : feature_lettered.f k a0 = some r) :
    Calls Tryd.prog 125 #[.int .i32 a0] w fun e w' => e = .returned (.bool r) ∧ Drawn0 w w' := by
  have H : (if 97 ≤ a0 then (feature_lettered.j0 k a0 (decide (a0 ≤ 122))) else (feature_lettered.j0 k a0 false)) = some r := h
  clear h
  have HC2 := Aside0.mk H
  clear H
  go_enter Tryd.func125, Tryd.ntmps125
  go_upto_region 1 with (fail)
  go_cut [3] (fun v3 wc => ∃ (kq : Nat) (x3_1 : Bool), v3 = .bool x3_1 ∧ Aside0 (feature_lettered.j0 kq a0 x3_1 = some r) ∧ Aside0 (kq ≤ k) ∧ Drawn0 w wc)
  case first =>
    have H := HC2.out
    clear HC2
    by_cases c3 : 97 ≤ a0
    · rw [if_pos c3] at H
      have c3b0 : decide (97 ≤ a0) = true := decide_eq_true c3
      clear c3
      (first | rw [c3b0] | (simp only [i64_w, i32_w]; rw [c3b0]) | skip)
      have H' := Aside0.mk H
      clear H
      go_wp2
      go_meet
      case rel => exact ⟨_, (decide (a0 ≤ 122)), (by first | rfl | (simp; done) | (simp [*]; done)), H', ⟨by first | omega | exact Nat.le_refl _⟩, by repeat (first | exact Drawn0.refl _ | apply Drawn0.step)⟩
    · rw [if_neg c3] at H
      have c3b0 : decide (97 ≤ a0) = false := decide_eq_false c3
      clear c3
      (first | rw [c3b0] | (simp only [i64_w, i32_w]; rw [c3b0]) | skip)
      have H' := Aside0.mk H
      clear H
      go_wp2
      go_meet
      case rel => exact ⟨_, (false), (by first | rfl | (simp; done) | (simp [*]; done)), H', ⟨by first | omega | exact Nat.le_refl _⟩, by repeat (first | exact Drawn0.refl _ | apply Drawn0.step)⟩
  case rest =>
    clear HC2
    try clear c1
    try clear p2
    try clear c3
    try clear c3b0
    obtain ⟨kq, x3_1, rfl, HA, HJ1, ⟨mc1, rfl⟩⟩ := hcut
    cases kq with
    | zero => exact absurd HA.out (by simp [feature_lettered.j0])
    | succ kj1 =>
      have H := HA.out
      clear HA
      simp only [feature_lettered.j0] at H
      have HC4 := Aside0.mk H
      clear H
      go_upto_if 3 with (fail)
      go_cut [3] (fun v3 wc => ∃ (kq : Nat) (x3_3 : Bool), v3 = .bool x3_3 ∧ Aside0 (feature_lettered.j1 kq a0 x3_3 = some r) ∧ Aside0 (kq ≤ kj1) ∧ Drawn0 w wc)
      case first =>
        have H := HC4.out
        clear HC4
        by_cases c5 : x3_1 = true
        · subst c5
          have H1 : (feature_lettered.j1 kj1 a0 true) = some r := by rw [if_pos rfl] at H; exact H
          clear H
          have H := H1
          clear H1
          have H' := Aside0.mk H
          clear H
          go_wp2
          go_meet
          case rel => exact ⟨_, (true), (by first | rfl | (simp; done) | (simp [*]; done)), H', ⟨by have := HJ1.out; first | omega | exact Nat.le_refl _⟩, by repeat (first | exact Drawn0.refl _ | apply Drawn0.step)⟩
        · replace c5 := Bool.eq_false_iff.mpr c5
          subst c5
          have H1 : (if 65 ≤ a0 then (feature_lettered.j1 kj1 a0 (decide (a0 ≤ 90))) else (feature_lettered.j1 kj1 a0 false)) = some r := by rw [if_neg (show ¬ (false = true) by decide)] at H; exact H
          clear H
          have H := H1
          clear H1
          by_cases c6 : 65 ≤ a0
          · rw [if_pos c6] at H
            have c6b0 : decide (65 ≤ a0) = true := decide_eq_true c6
            clear c6
            (first | rw [c6b0] | (simp only [i64_w, i32_w]; rw [c6b0]) | skip)
            have H' := Aside0.mk H
            clear H
            go_wp2
            go_meet
            case rel => exact ⟨_, (decide (a0 ≤ 90)), (by first | rfl | (simp; done) | (simp [*]; done)), H', ⟨by have := HJ1.out; first | omega | exact Nat.le_refl _⟩, by repeat (first | exact Drawn0.refl _ | apply Drawn0.step)⟩
          · rw [if_neg c6] at H
            have c6b0 : decide (65 ≤ a0) = false := decide_eq_false c6
            clear c6
            (first | rw [c6b0] | (simp only [i64_w, i32_w]; rw [c6b0]) | skip)
            have H' := Aside0.mk H
            clear H
            go_wp2
            go_meet
            case rel => exact ⟨_, (false), (by first | rfl | (simp; done) | (simp [*]; done)), H', ⟨by have := HJ1.out; first | omega | exact Nat.le_refl _⟩, by repeat (first | exact Drawn0.refl _ | apply Drawn0.step)⟩
      case rest =>
        clear HC4
        try clear c1
        try clear p2
        try clear c3
        try clear c3b0
        try clear c5
        try clear c6
        try clear c6b0
        try clear p2
        obtain ⟨kq, x3_3, rfl, HA, HJ3, ⟨mc3, rfl⟩⟩ := hcut
        cases kq with
        | zero => exact absurd HA.out (by simp [feature_lettered.j1])
        | succ kj3 =>
          have H := HA.out
          clear HA
          simp only [feature_lettered.j1] at H
          by_cases c7 : x3_3 = true
          · subst c7
            have H1 : (some true) = some r := by rw [if_pos rfl] at H; exact H
            clear H
            have H := H1
            clear H1
            obtain rfl := Option.some.inj H
            go_wp2
            go_ret
            exact ⟨by first | rfl | (simp; done) | (simp [*]; done), by repeat (first | exact Drawn0.refl _ | apply Drawn0.step)⟩
          · replace c7 := Bool.eq_false_iff.mpr c7
            subst c7
            have H1 : (if a0 < 161 then (some false) else (if a0 > 1114111 then (some false) else (if a0 = 65533 then (some false) else (if (a0 / 2048) = 27 then (some false) else (some true))))) = some r := by rw [if_neg (show ¬ (false = true) by decide)] at H; exact H
            clear H
            have H := H1
            clear H1
            by_cases c8 : a0 < 161
            · rw [if_pos c8] at H
              have c8b0 : decide (a0 < 161) = true := decide_eq_true c8
              clear c8
              obtain rfl := Option.some.inj H
              go_wp2
              go_ret
              exact ⟨by first | rfl | (simp; done) | (simp [*]; done), by repeat (first | exact Drawn0.refl _ | apply Drawn0.step)⟩
            · rw [if_neg c8] at H
              have c8b0 : decide (a0 < 161) = false := decide_eq_false c8
              clear c8
              by_cases c9 : a0 > 1114111
              · rw [if_pos c9] at H
                have c9b0 : decide (1114111 < a0) = true := decide_eq_true c9
                clear c9
                obtain rfl := Option.some.inj H
                go_wp2
                go_ret
                exact ⟨by first | rfl | (simp; done) | (simp [*]; done), by repeat (first | exact Drawn0.refl _ | apply Drawn0.step)⟩
              · rw [if_neg c9] at H
                have c9b0 : decide (1114111 < a0) = false := decide_eq_false c9
                clear c9
                by_cases c10 : a0 = 65533
                · rw [if_pos c10] at H
                  have c10b0 : (a0 == 65533) = true := beq_iff_eq.mpr c10
                  have c10b1 : (a0 != 65533) = false := bne_eq_false_iff_eq.mpr c10
                  clear c10
                  obtain rfl := Option.some.inj H
                  go_wp2
                  go_ret
                  exact ⟨by first | rfl | (simp; done) | (simp [*]; done), by repeat (first | exact Drawn0.refl _ | apply Drawn0.step)⟩
                · rw [if_neg c10] at H
                  have c10b0 : (a0 == 65533) = false := beq_eq_false_iff_ne.mpr c10
                  have c10b1 : (a0 != 65533) = true := bne_iff_ne.mpr c10
                  by_cases c11 : (a0 / 2048) = 27
                  · rw [if_pos c11] at H
                    have c11b0 : ((a0 / 2048) == 27) = true := beq_iff_eq.mpr c11
                    have c11b1 : ((a0 / 2048) != 27) = false := bne_eq_false_iff_eq.mpr c11
                    clear c11
                    obtain rfl := Option.some.inj H
                    go_wp2
                    go_ret
                    exact ⟨by first | rfl | (simp; done) | (simp [*]; done), by repeat (first | exact Drawn0.refl _ | apply Drawn0.step)⟩
                  · rw [if_neg c11] at H
                    have c11b0 : ((a0 / 2048) == 27) = false := beq_eq_false_iff_ne.mpr c11
                    have c11b1 : ((a0 / 2048) != 27) = true := bne_iff_ne.mpr c11
                    obtain rfl := Option.some.inj H
                    go_wp2
                    go_ret
                    exact ⟨by first | rfl | (simp; done) | (simp [*]; done), by repeat (first | exact Drawn0.refl _ | apply Drawn0.step)⟩

def letteredB (r : Int) : Bool := (decide (97 ≤ r) && decide (r ≤ 122)) || ((decide (65 ≤ r) && decide (r ≤ 90)) || (decide (161 ≤ r) && (decide (r ≤ 1114111) && (decide (r ≠ 65533) && decide (r / 2048 ≠ 27)))))
theorem lettered_wf {r : Int} (h : letteredB r = true) : (Lit.int .i32 r).wf = true := by
  unfold letteredB at h
  simp only [Bool.or_eq_true, Bool.and_eq_true, decide_eq_true_eq] at h
  simp only [Lit.wf, IntKind.min, IntKind.max, IntKind.signed, IntKind.bits, Bool.and_eq_true, decide_eq_true_eq, if_true]
  omega
def withinB (n : Int) (p m : Int) : Bool := (shr .u32 (Go.bits .or .u32 p m) n == 0) && (Go.bits .and .u32 p m == 0)
instance : DecidableEq ByteArray := fun a b => if h : a.data.toList = b.data.toList then isTrue (ByteArray.ext (Array.ext' h)) else isFalse (fun e => h (by rw [e]))
def featsB (seen : List ByteArray) : List ByteArray → Bool
  | [] => true
  | f :: fs => namedB f && (!(seen.any fun g => decide (g = f)) && featsB (seen ++ [f]) fs)
def letsB (n : Int) (seen : List Int) : List S118 → Bool
  | [] => true
  | l :: ls => letteredB l.f0 && (!(seen.any fun g => decide (g = l.f0)) && (withinB n l.f1 l.f2 && letsB n (seen ++ [l.f0]) ls))
def alphaB (fs : List ByteArray) (ls : List S118) : Bool := decide (fs.length ≤ 24) && (decide (1 ≤ ls.length) && (decide (ls.length ≤ 128) && (featsB [] fs && letsB fs.length [] ls)))
def fitsS (fs : List ByteArray) : Bool := fs.all fun s => decide (s.size ≤ 9223372036854775807)
/-- A map that holds 'true' at just these keys. -/
def Seen {κ : Type} (m : κ → Option Bool) (seen : List κ) : Prop := ∀ x, (x ∈ seen ∧ m x = some true) ∨ (x ∉ seen ∧ m x = none)
theorem Seen.nil {κ : Type} : Seen (fun _ : κ => none) [] := fun x => .inr ⟨by simp, rfl⟩
theorem Seen.get {κ : Type} [DecidableEq κ] {m : κ → Option Bool} {seen : List κ} (h : Seen m seen) (x : κ) : (m x).getD false = seen.any fun g => decide (g = x) := by
  rcases h x with ⟨a, b⟩ | ⟨a, b⟩
  · rw [b]; exact (List.any_eq_true.2 ⟨x, a, by simp⟩).symm
  · rw [b]; refine (Bool.eq_false_iff.2 fun e => ?_).symm
    obtain ⟨g, hg, e⟩ := List.any_eq_true.1 e
    obtain rfl := of_decide_eq_true e
    exact a hg
theorem Seen.snoc {κ : Type} {m m' : κ → Option Bool} {seen : List κ} (h : Seen m seen) (x : κ) (h1 : m' x = some true) (h2 : ∀ y, y ≠ x → m' y = m y) : Seen m' (seen ++ [x]) := fun y => by
  by_cases e : y = x
  · subst e; exact .inl ⟨by simp, h1⟩
  · rw [h2 y e]
    rcases h y with ⟨a, b⟩ | ⟨a, b⟩
    · exact .inl ⟨by simp [a], b⟩
    · exact .inr ⟨by simp [a, e], b⟩
theorem take_snoc {α : Type} (l : List α) (k : Nat) (x : α) (h : l.drop k = x :: l.drop (k + 1)) : l.take (k + 1) = l.take k ++ [x] := by
  rw [List.take_add_one]
  have : l[k]? = some x := by rw [← List.head?_drop, h]; rfl
  rw [this]; rfl
theorem drop_str (l : List ByteArray) (k : Nat) (h : k < l.length) : l.drop k = rdOf ByteArray.empty l k :: l.drop (k + 1) := by
  rw [List.drop_eq_getElem_cons h]
  simp [rdOf, List.getD_eq_getElem?_getD, List.getElem?_eq_getElem h]
theorem drop_let (l : List S118) (k : Nat) (h : k < l.length) : l.drop k = rd_T118 l k :: l.drop (k + 1) := by
  rw [List.drop_eq_getElem_cons h]
  simp [rd_T118, List.getD_eq_getElem?_getD, List.getElem?_eq_getElem h]

end Go.Proofs.YtfpfdmenhgageaaDoor.P
