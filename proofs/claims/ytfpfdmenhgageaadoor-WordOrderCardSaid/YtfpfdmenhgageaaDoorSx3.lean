-- Written by this session's program (wip/ext) with the kit's printer. Not trusted: Lean checks it.
import Derived.Test.YtfpfdmenhgageaaDoorSx0
namespace Go.Proofs.YtfpfdmenhgageaaDoor.S
open Go.RowKit Go.Proofs.YtfpfdmenhgageaaDoorW.PrintWords Go.Proofs.YtfpfdmenhgageaaDoorW.PrintLast Go.Proofs.YtfpfdmenhgageaaDoorW.PrintMore
attribute [local go_sem] max2_int min2_int max_two min_two max_three min_three max_four min_four   -- for this text's walks alone
set_option linter.unusedVariables false
set_option linter.unusedSimpArgs false

/-! ### utf8_RuneLen: function 110 -/
def utf8_RuneLen.j0 : Nat → Int → Bool → Option (Int)
  | 0, _, _ => none
  | k + 1, x0, x12 => if x12 = true then (some (-1)) else (if x0 ≤ 65535 then (some 3) else (if x0 ≤ 1114111 then (some 4) else (some (-1))))
def utf8_RuneLen.f (k : Nat) (a0 : Int) : Option (Int) := if a0 < 0 then (some (-1)) else (if a0 ≤ 127 then (some 1) else (if a0 ≤ 2047 then (some 2) else (if 55296 ≤ a0 then (utf8_RuneLen.j0 k a0 (decide (a0 ≤ 57343))) else (utf8_RuneLen.j0 k a0 false))))
theorem utf8_RuneLen.mono_l : ∀ k, (∀ y0 y1, LeO (utf8_RuneLen.j0 k y0 y1) (utf8_RuneLen.j0 (k + 1) y0 y1))
  | 0 => fun _ _ r h => by simp [utf8_RuneLen.j0] at h
  | k + 1 => by
    have ih0 := utf8_RuneLen.mono_l k
    · intro y0 y1
      unfold utf8_RuneLen.j0
      repeat' first
      | (with_reducible exact ih0 _ _)
      | (with_reducible exact LeO.refl _)
      | (with_reducible exact LeO.none _)
      | (with_reducible refine LeO.ite ?_ ?_)
      | (with_reducible refine LeO.bind ?_ (fun _ => ?_))
      | exact ih0 _ _
      | exact LeO.none _
      | refine LeO.ite ?_ ?_
      | refine LeO.bind ?_ (fun _ => ?_)
theorem utf8_RuneLen.mono : ∀ a0 k, LeO (utf8_RuneLen.f k a0) (utf8_RuneLen.f (k + 1) a0) := by
  intro a0 k
  have ih0 := utf8_RuneLen.mono_l k
  unfold utf8_RuneLen.f
  repeat' first
      | (with_reducible exact ih0 _ _)
      | (with_reducible exact LeO.refl _)
      | (with_reducible exact LeO.none _)
      | (with_reducible refine LeO.ite ?_ ?_)
      | (with_reducible refine LeO.bind ?_ (fun _ => ?_))
      | exact ih0 _ _
      | exact LeO.none _
      | refine LeO.ite ?_ ?_
      | refine LeO.bind ?_ (fun _ => ?_)
set_option maxHeartbeats 8000000 in
set_option maxRecDepth 100000 in
theorem utf8_RuneLen.calls (k : Nat) (a0 : Int) (r : Int) (w : World) (h : utf8_RuneLen.f k a0 = some r) :
    Calls Tryd.prog 110 #[.int .i32 a0] w fun e w' => e = .returned (.int .i64 r) ∧ Drawn0 w w' := by
  have H : (if a0 < 0 then (some (-1)) else (if a0 ≤ 127 then (some 1) else (if a0 ≤ 2047 then (some 2) else (if 55296 ≤ a0 then (utf8_RuneLen.j0 k a0 (decide (a0 ≤ 57343))) else (utf8_RuneLen.j0 k a0 false))))) = some r := h
  clear h
  by_cases c2 : a0 < 0
  · rw [if_pos c2] at H
    have c2b0 : decide (a0 < 0) = true := decide_eq_true c2
    clear c2
    obtain rfl := Option.some.inj H
    go_enter Tryd.func110, Tryd.ntmps110
    go_wp2
    go_ret
    exact ⟨by first | rfl | (simp; done) | (simp [*]; done), by repeat (first | exact Drawn0.refl _ | apply Drawn0.step)⟩
  · rw [if_neg c2] at H
    have c2b0 : decide (a0 < 0) = false := decide_eq_false c2
    clear c2
    by_cases c3 : a0 ≤ 127
    · rw [if_pos c3] at H
      have c3b0 : decide (a0 ≤ 127) = true := decide_eq_true c3
      clear c3
      obtain rfl := Option.some.inj H
      go_enter Tryd.func110, Tryd.ntmps110
      go_wp2
      go_ret
      exact ⟨by first | rfl | (simp; done) | (simp [*]; done), by repeat (first | exact Drawn0.refl _ | apply Drawn0.step)⟩
    · rw [if_neg c3] at H
      have c3b0 : decide (a0 ≤ 127) = false := decide_eq_false c3
      clear c3
      by_cases c4 : a0 ≤ 2047
      · rw [if_pos c4] at H
        have c4b0 : decide (a0 ≤ 2047) = true := decide_eq_true c4
        clear c4
        obtain rfl := Option.some.inj H
        go_enter Tryd.func110, Tryd.ntmps110
        go_wp2
        go_ret
        exact ⟨by first | rfl | (simp; done) | (simp [*]; done), by repeat (first | exact Drawn0.refl _ | apply Drawn0.step)⟩
      · rw [if_neg c4] at H
        have c4b0 : decide (a0 ≤ 2047) = false := decide_eq_false c4
        clear c4
        have HC5 := Aside0.mk H
        clear H
        go_enter Tryd.func110, Tryd.ntmps110
        go_upto_region 7 with (fail)
        go_cut [12] (fun v12 wc => ∃ (kq : Nat) (x12_4 : Bool), v12 = .bool x12_4 ∧ Aside0 (utf8_RuneLen.j0 kq a0 x12_4 = some r) ∧ Aside0 (kq ≤ k) ∧ Drawn0 w wc)
        case first =>
          have H := HC5.out
          clear HC5
          by_cases c6 : 55296 ≤ a0
          · rw [if_pos c6] at H
            have c6b0 : decide (55296 ≤ a0) = true := decide_eq_true c6
            clear c6
            (first | rw [c6b0] | (simp only [i64_w, i32_w]; rw [c6b0]) | skip)
            have H' := Aside0.mk H
            clear H
            go_wp2
            go_meet
            case rel => exact ⟨_, (decide (a0 ≤ 57343)), (by first | rfl | (simp; done) | (simp [*]; done)), H', ⟨by first | omega | exact Nat.le_refl _⟩, by repeat (first | exact Drawn0.refl _ | apply Drawn0.step)⟩
          · rw [if_neg c6] at H
            have c6b0 : decide (55296 ≤ a0) = false := decide_eq_false c6
            clear c6
            (first | rw [c6b0] | (simp only [i64_w, i32_w]; rw [c6b0]) | skip)
            have H' := Aside0.mk H
            clear H
            go_wp2
            go_meet
            case rel => exact ⟨_, (false), (by first | rfl | (simp; done) | (simp [*]; done)), H', ⟨by first | omega | exact Nat.le_refl _⟩, by repeat (first | exact Drawn0.refl _ | apply Drawn0.step)⟩
        case rest =>
          clear HC5
          try clear c1
          try clear c2
          try clear c2b0
          try clear p2
          try clear c3
          try clear c3b0
          try clear c4
          try clear c4b0
          try clear c6
          try clear c6b0
          obtain ⟨kq, x12_4, rfl, HA, HJ4, ⟨mc4, rfl⟩⟩ := hcut
          cases kq with
          | zero => exact absurd HA.out (by simp [utf8_RuneLen.j0])
          | succ kj4 =>
            have H := HA.out
            clear HA
            simp only [utf8_RuneLen.j0] at H
            by_cases c7 : x12_4 = true
            · subst c7
              have H1 : (some (-1)) = some r := by rw [if_pos rfl] at H; exact H
              clear H
              have H := H1
              clear H1
              obtain rfl := Option.some.inj H
              go_wp2
              go_ret
              exact ⟨by first | rfl | (simp; done) | (simp [*]; done), by repeat (first | exact Drawn0.refl _ | apply Drawn0.step)⟩
            · replace c7 := Bool.eq_false_iff.mpr c7
              subst c7
              have H1 : (if a0 ≤ 65535 then (some 3) else (if a0 ≤ 1114111 then (some 4) else (some (-1)))) = some r := by rw [if_neg (show ¬ (false = true) by decide)] at H; exact H
              clear H
              have H := H1
              clear H1
              by_cases c8 : a0 ≤ 65535
              · rw [if_pos c8] at H
                have c8b0 : decide (a0 ≤ 65535) = true := decide_eq_true c8
                clear c8
                obtain rfl := Option.some.inj H
                go_wp2
                go_ret
                exact ⟨by first | rfl | (simp; done) | (simp [*]; done), by repeat (first | exact Drawn0.refl _ | apply Drawn0.step)⟩
              · rw [if_neg c8] at H
                have c8b0 : decide (a0 ≤ 65535) = false := decide_eq_false c8
                clear c8
                by_cases c9 : a0 ≤ 1114111
                · rw [if_pos c9] at H
                  have c9b0 : decide (a0 ≤ 1114111) = true := decide_eq_true c9
                  clear c9
                  obtain rfl := Option.some.inj H
                  go_wp2
                  go_ret
                  exact ⟨by first | rfl | (simp; done) | (simp [*]; done), by repeat (first | exact Drawn0.refl _ | apply Drawn0.step)⟩
                · rw [if_neg c9] at H
                  have c9b0 : decide (a0 ≤ 1114111) = false := decide_eq_false c9
                  clear c9
                  obtain rfl := Option.some.inj H
                  go_wp2
                  go_ret
                  exact ⟨by first | rfl | (simp; done) | (simp [*]; done), by repeat (first | exact Drawn0.refl _ | apply Drawn0.step)⟩

/-! ### utf8_DecodeRuneInString: function 111 (by hand) -/
def utf8_DecodeRuneInString.f (a0 : ByteArray) : Option (Int × Int) := some (((Lib.decodeGo a0).1 : Int), ((Lib.decodeGo a0).2 : Int))
theorem utf8_DecodeRuneInString.calls (a0 : ByteArray) (r1 : Int) (r2 : Int) (w : World) (hG : GLaid w) (h : utf8_DecodeRuneInString.f a0 = some (r1, r2)) :
    Calls Tryd.prog 111 #[.string a0] w fun e w' => e = .returned (.tuple #[.int .i32 r1, .int .i64 r2]) ∧ Below w.heap.size w w' := by
  unfold utf8_DecodeRuneInString.f at h
  obtain ⟨rfl, rfl⟩ := Prod.mk.inj (Option.some.inj h)
  exact Tryd.utf8_DecodeRuneInString a0 w hG

def pcAt (s : ByteArray) (i : Nat) : S97 := ⟨((Utf8.decode s i).1 : Int), i, ((Utf8.decode s i).2 : Int), decide ((Utf8.decode s i).1 = 65533 ∧ (Utf8.decode s i).2 = 1)⟩
def pcs (s : ByteArray) : Nat → Nat → List S97
  | 0, _ => []
  | f + 1, i => if i < s.size then pcAt s i :: pcs s f (i + (Utf8.decode s i).2) else []
def pieces (s : ByteArray) : List S97 := pcs s s.size 0
theorem pcs_end (s : ByteArray) (f i : Nat) (h : ¬ i < s.size) : pcs s f i = [] := by cases f <;> simp [pcs, h]
theorem pcs_length (s : ByteArray) : ∀ f i, (pcs s f i).length ≤ f
  | 0, _ => by simp [pcs]
  | f + 1, i => by
    unfold pcs
    split
    · simp only [List.length_cons]; have := pcs_length s f (i + (Utf8.decode s i).2); omega
    · simp
theorem get_tail (s : ByteArray) (pos k : Nat) : (s.extract pos s.size).get! k = s.get! (pos + k) := by
  have hs : s.size = s.data.size := rfl
  show (s.extract pos s.size).data[k]! = s.data[pos + k]!
  simp only [ByteArray.data_extract, getElem!_def]
  rw [Array.getElem?_extract]
  by_cases h : k < min s.size s.data.size - pos
  · rw [if_pos h]
  · rw [if_neg h]
    have : s.data[pos + k]? = none := by
      apply Array.getElem?_eq_none
      rw [hs, Nat.min_self] at h
      omega
    rw [this]
theorem decode_tail (s : ByteArray) (pos : Nat) : Utf8.decode (s.extract pos s.size) 0 = Utf8.decode s pos := by
  rw [Lib.decode_at, Lib.decode_at s pos]
  have : (s.extract pos s.size).size = s.size - pos := by simp [ByteArray.size_extract]
  simp only [get_tail, this, Nat.sub_zero, Nat.add_zero, Nat.zero_add]
theorem decode_le65 (s : ByteArray) (pos : Nat) (h : pos < s.size) : (Utf8.decode s pos).1 ≤ 1114111 ∧ pos + (Utf8.decode s pos).2 ≤ s.size := by
  unfold Utf8.decode Utf8.runeError
  simp only
  repeat' split
  all_goals simp_all [Utf8.valid]
  all_goals omega
def runeLenN (r : Nat) : Nat := if r ≤ 127 then 1 else if r ≤ 2047 then 2 else if r ≤ 65535 then 3 else 4
theorem decode_valid (s : ByteArray) (i : Nat) : ((Utf8.decode s i).1 = 65533 ∧ (Utf8.decode s i).2 = 1) ∨ ((Utf8.decode s i).2 = runeLenN (Utf8.decode s i).1 ∧ Utf8.valid (Utf8.decode s i).1 = true) := by
  unfold Utf8.decode Utf8.runeError runeLenN
  simp only
  repeat' split
  all_goals first | exact .inl ⟨rfl, rfl⟩ | skip
  all_goals refine .inr ?_
  all_goals simp_all [Utf8.valid]
  all_goals omega

theorem runeLen_eq (r : Nat) (h : Utf8.valid r = true) : utf8_RuneLen.f 2 (r : Int) = some ((runeLenN r : Nat) : Int) := by
  unfold utf8_RuneLen.f runeLenN
  simp only [utf8_RuneLen.j0]
  simp only [Utf8.valid, Bool.or_eq_true, Bool.and_eq_true, decide_eq_true_eq] at h
  repeat' split
  all_goals (simp_all; try omega)
set_option maxHeartbeats 4000000 in
set_option maxRecDepth 100000 in
theorem runes_each (g : Nat) (lb : Array Value) (eg : ∀ args w, (callFunc g args).run Tryd.prog w = .ok (.enter g args) w) (s : ByteArray) (w : World) (hs : s.size ≤ 65536)
    (Inv : Nat → World → Prop) (Stop : World → Prop) (hI : Inv 0 w) (hst : ∀ pos W W', Inv pos W → W.grownBy W' (some w.heap.size) → Inv pos W') (hG : ∀ pos W, Inv pos W → GLaid W)
    (step : ∀ pos W, pos < s.size → Inv pos W → w.heap.size < W.heap.size → (∃ q, W.heap[w.heap.size]? = some (.stringIter s q)) →
      Calls Tryd.prog g (#[.agg #[.int .i32 (pcAt s pos).f0, .int .i64 (pcAt s pos).f1, .int .i64 (pcAt s pos).f2, .bool (pcAt s pos).f3]] ++ lb) W fun e W' =>
        ∃ b, e = .returned (.bool b) ∧ W'.heap[w.heap.size]? = W.heap[w.heap.size]? ∧ (b = true → Inv (pos + (Utf8.decode s pos).2) W') ∧ (b = false → Stop W')) :
    Calls Tryd.prog 66 #[.string s, .func (.func g) #[] lb] w fun e W' => e = .returned (.tuple #[]) ∧ ((∃ pos, s.size ≤ pos ∧ Inv pos W') ∨ Stop W') := by
  have HG := Aside0.mk hG
  have HST := Aside0.mk step
  clear step hG
  go_enter Tryd.func66, Tryd.ntmps66
  go_wp2
  go_loopg [] (s.size + 1) (fun gf wx => ∃ pos : Nat, wx.heap[w.heap.size]? = some (.stringIter s pos) ∧ Aside0 (Inv pos wx) ∧ s.size + 1 ≤ pos + gf)
  case atStart => exact ⟨0, World.iter_heap w s 0, ⟨hst _ _ _ hI (World.grownBy_alloc w _ _)⟩, by omega⟩
  case round =>
    clear hI
    obtain ⟨pos, hit, HI, hfu⟩ := hrel
    by_cases hps : pos < s.size
    · obtain ⟨g', rfl⟩ : ∃ g', gk = g' + 1 := ⟨gk - 1, by omega⟩
      have hnx : ∀ ty, (Instr.next (.pointer (some ⟨w.heap.size, 0, none⟩)) true ty).run Tryd.prog wr = _ := fun ty => Lib.run_next_any_at wr w.heap.size s pos ty hit hps
      have hwd := Lib.decode_width_pos s pos hps
      have hdv := decode_valid s pos
      have hstep := HST.out pos
      have hpc : pcAt s pos = ⟨((Utf8.decode s pos).1 : Int), pos, ((Utf8.decode s pos).2 : Int), decide ((Utf8.decode s pos).1 = 65533 ∧ (Utf8.decode s pos).2 = 1)⟩ := rfl
      have hdx : Lib.decodeGo (s.extract pos s.size) = ((Utf8.decode s pos).1, (Utf8.decode s pos).2) := by
        unfold Lib.decodeGo
        rw [if_neg (by simp [ByteArray.size_extract]; omega), decode_tail]
      have hdm := decode_le65 s pos hps
      rw [hpc] at hstep
      obtain ⟨R, hR⟩ : ∃ R, (Utf8.decode s pos).1 = R := ⟨_, rfl⟩
      obtain ⟨K, hK⟩ : ∃ K, (Utf8.decode s pos).2 = K := ⟨_, rfl⟩
      rw [hR] at hnx hdv hstep hdx hdm
      rw [hK] at hnx hdv hstep hdx hwd hdm
      have hit2 := Lib.iterAt_heap wr w.heap.size s pos (pos + K) hit
      have hgr : wr.grownBy (wr.iterAt w.heap.size s (pos + K)) (some w.heap.size) := ⟨rfl, rfl, rfl, by rw [Lib.iterAt_size]; exact Nat.le_refl _, fun i hi hne => Lib.iterAt_other wr w.heap.size i s (pos + K) (by intro e; exact hne (by rw [e]))⟩
      have HI1 := Aside0.mk (hst _ _ _ HI.out hgr)
      have HKL : Aside0 (w.heap.size < (wr.iterAt w.heap.size s (pos + K)).heap.size) := ⟨(Array.getElem?_eq_some_iff.1 hit2).1⟩
      have HK := Aside0.mk hit2
      have HSP := Aside0.mk hstep
      have HDX := Aside0.mk hdx
      clear hit2 hgr HI hstep hpc hdx
      have hsp0 : (0 : Int) ≤ (pos : Int) := by omega
      have hsp1 : (pos : Int) ≤ (s.size : Int) := by omega
      by_cases hR3 : R = 65533
      · subst hR3
        obtain ⟨RL, hRL⟩ : ∃ RL : Int, RL = 3 := ⟨_, rfl⟩
        have HRL : Aside0 (utf8_RuneLen.f 2 (65533 : Int) = some RL) := ⟨by rw [hRL]; exact runeLen_eq 65533 (by decide)⟩
        have HDE : Aside0 (utf8_DecodeRuneInString.f (s.extract pos s.size) = some ((65533 : Int), (K : Int))) := ⟨by unfold utf8_DecodeRuneInString.f; rw [HDX.out]; rfl⟩
        by_cases hK1 : K = 1
        · subst hK1
          have HS0 : Aside0 (∀ W, Inv pos W → w.heap.size < W.heap.size → (∃ q, W.heap[w.heap.size]? = some (.stringIter s q)) → Calls Tryd.prog g (#[.agg #[.int .i32 (65533 : Int), .int .i64 (pos : Int), .int .i64 1, .bool true]] ++ lb) W fun e W' =>
              ∃ b, e = .returned (.bool b) ∧ W'.heap[w.heap.size]? = W.heap[w.heap.size]? ∧ (b = true → Inv (pos + 1) W') ∧ (b = false → Stop W')) := ⟨fun W => HSP.out W hps⟩
          clear hR hK hdv hRL HSP
          go_wp2_with (first | (go_at_call 110; refine (utf8_RuneLen.calls 2 _ RL _ HRL.out).mono ?_; rintro e w2 ⟨rfl, hd2⟩; have hb2 := hd2.below; have HK2 : Aside0 (w2.heap[w.heap.size]? = some (.stringIter s (pos + 1))) := ⟨(hb2.block _ HKL.out).trans HK.out⟩; have HI2 := Aside0.mk (hst _ _ _ HI1.out (grown_of_below hb2 _)); have hp0 : (w2.alloc (.cells #[.int .i32 (65533 : Int), .int .i64 (pos : Int), .int .i64 RL, .bool false] 97)).cell? ⟨w2.heap.size, 0, none⟩ = some (.int .i32 (65533 : Int)) := (blk_cell (blk_new w2 _) 0).trans rfl; have hp1 : (w2.alloc (.cells #[.int .i32 (65533 : Int), .int .i64 (pos : Int), .int .i64 RL, .bool false] 97)).cell? ⟨w2.heap.size, 1, none⟩ = some (.int .i64 (pos : Int)) := (blk_cell (blk_new w2 _) 1).trans rfl; have hp2 : (w2.alloc (.cells #[.int .i32 (65533 : Int), .int .i64 (pos : Int), .int .i64 RL, .bool false] 97)).cell? ⟨w2.heap.size, 2, none⟩ = some (.int .i64 RL) := (blk_cell (blk_new w2 _) 2).trans rfl; have hp3 : (w2.alloc (.cells #[.int .i32 (65533 : Int), .int .i64 (pos : Int), .int .i64 RL, .bool false] 97)).cell? ⟨w2.heap.size, 3, none⟩ = some (.bool false) := (blk_cell (blk_new w2 _) 3).trans rfl; have HIA := Aside0.mk (hst _ _ _ HI2.out (World.grownBy_alloc w2 (.cells #[.int .i32 (65533 : Int), .int .i64 (pos : Int), .int .i64 RL, .bool false] 97) (some w.heap.size))); have HKA : Aside0 ((w2.alloc (.cells #[.int .i32 (65533 : Int), .int .i64 (pos : Int), .int .i64 RL, .bool false] 97)).heap[w.heap.size]? = some (.stringIter s (pos + 1))) := ⟨((below_alloc (Below.refl _ w2) (.cells #[.int .i32 (65533 : Int), .int .i64 (pos : Int), .int .i64 RL, .bool false] 97)).block _ (Array.getElem?_eq_some_iff.1 HK2.out).1).trans HK2.out⟩; have hbk := Aside0.mk (blk_new w2 (.cells #[.int .i32 (65533 : Int), .int .i64 (pos : Int), .int .i64 RL, .bool false] 97)); have HGA := Aside0.mk (HG.out _ _ HIA.out); clear hb2 hd2) | (go_at_call 111; refine (utf8_DecodeRuneInString.calls _ (65533 : Int) (1 : Int) _ HGA.out HDE.out).mono ?_; rintro e w3 ⟨rfl, hb3⟩; have hbk3 := blk_below hbk.out hb3; have hB3 := Aside0.mk (below_step (below_alloc (Below.refl _ w2) (.cells #[.int .i32 (65533 : Int), .int .i64 (pos : Int), .int .i64 RL, .bool false] 97)) hb3); have hc2 : w3.cell? ⟨w2.heap.size, 2, none⟩ = some (.int .i64 RL) := (blk_cell hbk3 2).trans rfl; have hf2 : w3.frozen? ⟨w2.heap.size, 2, none⟩ = false := blk_frozen hbk3 2; have hbk4 := blk_put (cs' := #[.int .i32 (65533 : Int), .int .i64 (pos : Int), .int .i64 1, .bool false]) hbk3 2 (.int .i64 1) rfl; have hf3 : (w3.setCell ⟨w2.heap.size, 2, none⟩ (.int .i64 1)).frozen? ⟨w2.heap.size, 3, none⟩ = false := blk_frozen hbk4 3; have hc3 : (w3.setCell ⟨w2.heap.size, 2, none⟩ (.int .i64 1)).cell? ⟨w2.heap.size, 3, none⟩ = some (.bool false) := (blk_cell hbk4 3).trans rfl; have hbk5 := blk_put (cs' := #[.int .i32 (65533 : Int), .int .i64 (pos : Int), .int .i64 1, .bool true]) hbk4 3 (.bool true) rfl; have hp0 : ((w3.setCell ⟨w2.heap.size, 2, none⟩ (.int .i64 1)).setCell ⟨w2.heap.size, 3, none⟩ (.bool true)).cell? ⟨w2.heap.size, 0, none⟩ = some (.int .i32 (65533 : Int)) := (blk_cell hbk5 0).trans rfl; have hp1 : ((w3.setCell ⟨w2.heap.size, 2, none⟩ (.int .i64 1)).setCell ⟨w2.heap.size, 3, none⟩ (.bool true)).cell? ⟨w2.heap.size, 1, none⟩ = some (.int .i64 (pos : Int)) := (blk_cell hbk5 1).trans rfl; have hp2 : ((w3.setCell ⟨w2.heap.size, 2, none⟩ (.int .i64 1)).setCell ⟨w2.heap.size, 3, none⟩ (.bool true)).cell? ⟨w2.heap.size, 2, none⟩ = some (.int .i64 1) := (blk_cell hbk5 2).trans rfl; have hp3 : ((w3.setCell ⟨w2.heap.size, 2, none⟩ (.int .i64 1)).setCell ⟨w2.heap.size, 3, none⟩ (.bool true)).cell? ⟨w2.heap.size, 3, none⟩ = some (.bool true) := (blk_cell hbk5 3).trans rfl; have hB4 : Aside0 (Below w2.heap.size w2 ((w3.setCell ⟨w2.heap.size, 2, none⟩ (.int .i64 1)).setCell ⟨w2.heap.size, 3, none⟩ (.bool true))) := ⟨below_set (below_set hB3.out (Nat.le_refl _)) (Nat.le_refl _)⟩; have HI3 := Aside0.mk (hst _ _ _ HI2.out (grown_of_below hB4.out (some w.heap.size))); have HK3 : Aside0 (((w3.setCell ⟨w2.heap.size, 2, none⟩ (.int .i64 1)).setCell ⟨w2.heap.size, 3, none⟩ (.bool true)).heap[w.heap.size]? = some (.stringIter s (pos + 1))) := ⟨(hB4.out.block _ (Array.getElem?_eq_some_iff.1 HK2.out).1).trans HK2.out⟩; clear hbk4 hbk5; clear hb3))
          refine (HS0.out _ HI3.out (by have := (Array.getElem?_eq_some_iff.1 HK3.out).1; omega) ⟨_, HK3.out⟩).mono ?_
          rintro e W' ⟨b, rfl, hkb, h1, h2⟩
          cases b
          · go_wp2
            ((try simp only [Exit.inBlock, Exit.then]); refine bodyPost_ret (results_none rfl _ _ _) rfl ?_)
            exact ⟨rfl, .inr (by simpa using h2)⟩
          · go_wp2
            go_roundg g'
            case measure => omega
            case rel => exact ⟨pos + 1, hkb.trans HK3.out, ⟨by simpa using h1⟩, by omega⟩
        · have hv := hdv.resolve_left (fun h => hK1 h.2)
          have b4 : decide ((K : Int) = 1) = false := decide_eq_false (by omega)
          have HS0 : Aside0 (∀ W, Inv pos W → w.heap.size < W.heap.size → (∃ q, W.heap[w.heap.size]? = some (.stringIter s q)) → Calls Tryd.prog g (#[.agg #[.int .i32 (65533 : Int), .int .i64 (pos : Int), .int .i64 RL, .bool false]] ++ lb) W fun e W' =>
              ∃ b, e = .returned (.bool b) ∧ W'.heap[w.heap.size]? = W.heap[w.heap.size]? ∧ (b = true → Inv (pos + K) W') ∧ (b = false → Stop W')) := ⟨by
            have := HSP.out
            rw [decide_eq_false (fun h : (65533 : Nat) = 65533 ∧ K = 1 => hK1 h.2), show (K : Int) = RL by rw [hRL, hv.1]; rfl] at this
            exact fun W => this W hps⟩
          clear hR hK hdv hv hRL HSP
          go_wp2_with (first | (go_at_call 110; refine (utf8_RuneLen.calls 2 _ RL _ HRL.out).mono ?_; rintro e w2 ⟨rfl, hd2⟩; have hb2 := hd2.below; have HK2 : Aside0 (w2.heap[w.heap.size]? = some (.stringIter s (pos + K))) := ⟨(hb2.block _ HKL.out).trans HK.out⟩; have HI2 := Aside0.mk (hst _ _ _ HI1.out (grown_of_below hb2 _)); have hp0 : (w2.alloc (.cells #[.int .i32 (65533 : Int), .int .i64 (pos : Int), .int .i64 RL, .bool false] 97)).cell? ⟨w2.heap.size, 0, none⟩ = some (.int .i32 (65533 : Int)) := (blk_cell (blk_new w2 _) 0).trans rfl; have hp1 : (w2.alloc (.cells #[.int .i32 (65533 : Int), .int .i64 (pos : Int), .int .i64 RL, .bool false] 97)).cell? ⟨w2.heap.size, 1, none⟩ = some (.int .i64 (pos : Int)) := (blk_cell (blk_new w2 _) 1).trans rfl; have hp2 : (w2.alloc (.cells #[.int .i32 (65533 : Int), .int .i64 (pos : Int), .int .i64 RL, .bool false] 97)).cell? ⟨w2.heap.size, 2, none⟩ = some (.int .i64 RL) := (blk_cell (blk_new w2 _) 2).trans rfl; have hp3 : (w2.alloc (.cells #[.int .i32 (65533 : Int), .int .i64 (pos : Int), .int .i64 RL, .bool false] 97)).cell? ⟨w2.heap.size, 3, none⟩ = some (.bool false) := (blk_cell (blk_new w2 _) 3).trans rfl; have HIA := Aside0.mk (hst _ _ _ HI2.out (World.grownBy_alloc w2 (.cells #[.int .i32 (65533 : Int), .int .i64 (pos : Int), .int .i64 RL, .bool false] 97) (some w.heap.size))); have HKA : Aside0 ((w2.alloc (.cells #[.int .i32 (65533 : Int), .int .i64 (pos : Int), .int .i64 RL, .bool false] 97)).heap[w.heap.size]? = some (.stringIter s (pos + K))) := ⟨((below_alloc (Below.refl _ w2) (.cells #[.int .i32 (65533 : Int), .int .i64 (pos : Int), .int .i64 RL, .bool false] 97)).block _ (Array.getElem?_eq_some_iff.1 HK2.out).1).trans HK2.out⟩; have hbk := Aside0.mk (blk_new w2 (.cells #[.int .i32 (65533 : Int), .int .i64 (pos : Int), .int .i64 RL, .bool false] 97)); have HGA := Aside0.mk (HG.out _ _ HIA.out); clear hb2 hd2) | (go_at_call 111; refine (utf8_DecodeRuneInString.calls _ (65533 : Int) (K : Int) _ HGA.out HDE.out).mono ?_; rintro e w3 ⟨rfl, hb3⟩; have hbk3 := blk_below hbk.out hb3; have hB3 := Aside0.mk (below_step (below_alloc (Below.refl _ w2) (.cells #[.int .i32 (65533 : Int), .int .i64 (pos : Int), .int .i64 RL, .bool false] 97)) hb3); have hp0 : w3.cell? ⟨w2.heap.size, 0, none⟩ = some (.int .i32 (65533 : Int)) := (blk_cell hbk3 0).trans rfl; have hp1 : w3.cell? ⟨w2.heap.size, 1, none⟩ = some (.int .i64 (pos : Int)) := (blk_cell hbk3 1).trans rfl; have hp2 : w3.cell? ⟨w2.heap.size, 2, none⟩ = some (.int .i64 RL) := (blk_cell hbk3 2).trans rfl; have hp3 : w3.cell? ⟨w2.heap.size, 3, none⟩ = some (.bool false) := (blk_cell hbk3 3).trans rfl; have HI3 := Aside0.mk (hst _ _ _ HI2.out (grown_of_below hB3.out (some w.heap.size))); have HK3 : Aside0 (w3.heap[w.heap.size]? = some (.stringIter s (pos + K))) := ⟨(hB3.out.block _ (Array.getElem?_eq_some_iff.1 HK2.out).1).trans HK2.out⟩; clear hb3))
          refine (HS0.out _ HI3.out (by have := (Array.getElem?_eq_some_iff.1 HK3.out).1; omega) ⟨_, HK3.out⟩).mono ?_
          rintro e W' ⟨b, rfl, hkb, h1, h2⟩
          cases b
          · go_wp2
            ((try simp only [Exit.inBlock, Exit.then]); refine bodyPost_ret (results_none rfl _ _ _) rfl ?_)
            exact ⟨rfl, .inr (by simpa using h2)⟩
          · go_wp2
            go_roundg g'
            case measure => omega
            case rel => exact ⟨pos + K, hkb.trans HK3.out, ⟨by simpa using h1⟩, by omega⟩
      · have hv := hdv.resolve_left (fun h => hR3 h.1)
        obtain ⟨RL, hRL⟩ : ∃ RL : Int, RL = (K : Int) := ⟨_, rfl⟩
        have HRL : Aside0 (utf8_RuneLen.f 2 (R : Int) = some RL) := ⟨by rw [hRL, hv.1]; exact runeLen_eq R hv.2⟩
        have b3 : decide ((R : Int) = 65533) = false := decide_eq_false (by omega)
        have HS0 : Aside0 (∀ W, Inv pos W → w.heap.size < W.heap.size → (∃ q, W.heap[w.heap.size]? = some (.stringIter s q)) → Calls Tryd.prog g (#[.agg #[.int .i32 (R : Int), .int .i64 (pos : Int), .int .i64 RL, .bool false]] ++ lb) W fun e W' =>
            ∃ b, e = .returned (.bool b) ∧ W'.heap[w.heap.size]? = W.heap[w.heap.size]? ∧ (b = true → Inv (pos + K) W') ∧ (b = false → Stop W')) := ⟨by
          have := HSP.out
          rw [decide_eq_false (fun h : R = 65533 ∧ K = 1 => hR3 h.1), ← hRL] at this
          exact fun W => this W hps⟩
        clear hR hK hdv hv hRL HSP
        go_wp2_with (go_at_call 110; refine (utf8_RuneLen.calls 2 _ RL _ HRL.out).mono ?_; rintro e w2 ⟨rfl, hd2⟩; have hb2 := hd2.below; have HK2 : Aside0 (w2.heap[w.heap.size]? = some (.stringIter s (pos + K))) := ⟨(hb2.block _ HKL.out).trans HK.out⟩; have HI2 := Aside0.mk (hst _ _ _ HI1.out (grown_of_below hb2 _)); have hp0 : (w2.alloc (.cells #[.int .i32 (R : Int), .int .i64 (pos : Int), .int .i64 RL, .bool false] 97)).cell? ⟨w2.heap.size, 0, none⟩ = some (.int .i32 (R : Int)) := (blk_cell (blk_new w2 _) 0).trans rfl; have hp1 : (w2.alloc (.cells #[.int .i32 (R : Int), .int .i64 (pos : Int), .int .i64 RL, .bool false] 97)).cell? ⟨w2.heap.size, 1, none⟩ = some (.int .i64 (pos : Int)) := (blk_cell (blk_new w2 _) 1).trans rfl; have hp2 : (w2.alloc (.cells #[.int .i32 (R : Int), .int .i64 (pos : Int), .int .i64 RL, .bool false] 97)).cell? ⟨w2.heap.size, 2, none⟩ = some (.int .i64 RL) := (blk_cell (blk_new w2 _) 2).trans rfl; have hp3 : (w2.alloc (.cells #[.int .i32 (R : Int), .int .i64 (pos : Int), .int .i64 RL, .bool false] 97)).cell? ⟨w2.heap.size, 3, none⟩ = some (.bool false) := (blk_cell (blk_new w2 _) 3).trans rfl; have HIA := Aside0.mk (hst _ _ _ HI2.out (World.grownBy_alloc w2 (.cells #[.int .i32 (R : Int), .int .i64 (pos : Int), .int .i64 RL, .bool false] 97) (some w.heap.size))); have HKA : Aside0 ((w2.alloc (.cells #[.int .i32 (R : Int), .int .i64 (pos : Int), .int .i64 RL, .bool false] 97)).heap[w.heap.size]? = some (.stringIter s (pos + K))) := ⟨((below_alloc (Below.refl _ w2) (.cells #[.int .i32 (R : Int), .int .i64 (pos : Int), .int .i64 RL, .bool false] 97)).block _ (Array.getElem?_eq_some_iff.1 HK2.out).1).trans HK2.out⟩; clear hb2 hd2)
        refine (HS0.out _ HIA.out (by have := (Array.getElem?_eq_some_iff.1 HKA.out).1; omega) ⟨_, HKA.out⟩).mono ?_
        rintro e W' ⟨b, rfl, hkb, h1, h2⟩
        cases b
        · go_wp2
          ((try simp only [Exit.inBlock, Exit.then]); refine bodyPost_ret (results_none rfl _ _ _) rfl ?_)
          exact ⟨rfl, .inr (by simpa using h2)⟩
        · go_wp2
          go_roundg g'
          case measure => omega
          case rel => exact ⟨pos + K, hkb.trans HKA.out, ⟨by simpa using h1⟩, by omega⟩
    · have hnx : ∀ ty, (Instr.next (.pointer (some ⟨w.heap.size, 0, none⟩)) true ty).run Tryd.prog wr = _ := fun ty => Lib.run_next_end_at wr w.heap.size s pos ty hit hps
      go_wp2
      go_end0
      exact ⟨rfl, .inl ⟨pos, by omega, HI.out⟩⟩

set_option maxHeartbeats 4000000 in
set_option maxRecDepth 100000 in
theorem runes_Pieces.one (p : S97) (c base : Nat) (v : Value) (xs : List S97) (ok : Nat → Prop) (W0 W : World) (hc : W.heap[c]? = some (.cells #[v] 88 (0, 0)))
    (hR : Kd.R k97 97 W base ok v xs) (hok : ∀ b, ok b → b ≠ c) (hnew : ∀ b, W.heap.size ≤ b → ok b) (hB : Below base W0 W) (hbase : base ≤ c) (hl : xs.length ≤ 65536) :
    Calls Tryd.prog 129 #[.agg #[.int .i32 p.f0, .int .i64 p.f1, .int .i64 p.f2, .bool p.f3], .pointer (some ⟨c, 0, none⟩)] W fun e W' => e = .returned (.bool true) ∧
      ∃ v', W'.heap[c]? = some (.cells #[v'] 88 (0, 0)) ∧ Kd.R k97 97 W' base ok v' (xs ++ [p]) ∧ Below base W0 W' ∧ ∀ b, b < W.heap.size → b ≠ c → some b ≠ v.ownBlock → W'.heap[b]? = W.heap[b]? := by
  obtain ⟨p0, p1, p2, p3⟩ := p
  have HR := Aside0.mk hR
  have HC := Aside0.mk hc
  have HB := Aside0.mk hB
  have hcl : c < W.heap.size := blk_lt hc
  have hc0 : (W.alloc (.cells #[.int .i32 p0, .int .i64 p1, .int .i64 p2, .bool p3] 97)).cell? ⟨c, 0, none⟩ = some v := (blk_cell (blk_alloc hc _) 0).trans rfl
  clear hR hc hB
  go_enter Tryd.func129, Tryd.ntmps129
  have HNE : Aside0 (some c ≠ v.ownBlock) := ⟨fun e => hok c (HR.out.1 c e.symm) rfl⟩
  go_wp2_with ((with_reducible refine gate_builtin (b := .append) (xs := #[.tmp 4, .tmp 6]) rfl ?_); at_builtin; refine Kd.R_append k97 (w0 := W0) base rfl (.tmp 4) (.tmp 6) 88 97 (.agg #[(.int .i32 0), (.int .i64 0), (.int .i64 0), (.bool false)]) 32 rfl Tryd.underlying88 (by kernel_rfl) rfl (by decide) (by omega) v xs (⟨p0, p1, p2, p3⟩ : S97) [.int .i32 p0, .int .i64 p1, .int .i64 p2, .bool p3] ok (fun _ => False) rfl (by first | (go_simp; done) | (go_simp; rfl)) (k97_mkM _ _ _ _) (fun _ hk => hk.elim) (fun b hb => hnew b (by simp at hb; omega)) (Kd.R_alloc HR.out _) (HB.out.alloc (by omega) _) (by simp; omega) (by omega) ?_; intro v1 w1 hR1 hB1 hg1 hat1; obtain ⟨A1, c1, rfl, _, _⟩ := Kd.R_reads hR1; rw [show (xs ++ [(⟨p0, p1, p2, p3⟩ : S97)]).length = xs.length + 1 from by simp] at hR1; have HR1 := Aside0.mk hR1; have HB1 := Aside0.mk hB1; have HG1 := Aside0.mk hg1; have hb1 : w1.heap[c]? = some (.cells #[v] 88 (0, 0)) := blk_grown (blk_alloc HC.out _) hg1 HNE.out; have hcc1 : w1.cell? ⟨c, 0, none⟩ = some v := (blk_cell hb1 0).trans rfl; have hff1 : w1.frozen? ⟨c, 0, none⟩ = false := blk_frozen hb1 0; have HBK1 := Aside0.mk hb1; clear hR1 hB1 hg1 hat1 hb1)
  go_ret
  refine ⟨rfl, _, blk_put HBK1.out 0 (.slice A1 (xs.length + 1) c1) rfl, Kd.R_step HR1.out (fun b hb hlt => Below.heap_setCell w1 ⟨c, 0, none⟩ _ b (by exact hok b hb)), ?_, ?_⟩
  · exact HB1.out.setCell hbase _
  · intro b hb hbc hbv
    rw [Below.heap_setCell w1 ⟨c, 0, none⟩ _ b hbc]
    exact (HG1.out.block b (by simp; omega) hbv).trans (Below.heap_alloc W (.cells #[.int .i32 p0, .int .i64 p1, .int .i64 p2, .bool p3] 97) b hb)

end Go.Proofs.YtfpfdmenhgageaaDoor.S
