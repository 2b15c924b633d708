-- Written by this session's program (wip/ext) with the kit's printer. Not trusted: Lean checks it.
import Derived.Test.YtfpfdmenhgageaaPx0
import Derived.Test.YtfpfdmenhgageaaPx2
import Derived.Test.YtfpfdmenhgageaaPx9
import Derived.Test.YtfpfdmenhgageaaPx10
namespace Go.Proofs.Ytfpfdmenhgageaa.P
open Go.RowKit Go.Proofs.YtfpfdmenhgageaaW.PrintWords Go.Proofs.YtfpfdmenhgageaaW.PrintLast Go.Proofs.YtfpfdmenhgageaaW.PrintMore
attribute [local go_sem] max2_int min2_int max_two min_two max_three min_three max_four min_four   -- for this text's walks alone
set_option linter.unusedVariables false
set_option linter.unusedSimpArgs false

/-! ### corpus_Join: function 6 (by hand) -/
set_option maxHeartbeats 4000000 in
set_option maxRecDepth 100000 in
theorem corpus_Join.jn (a0 : ByteArray) (A1 : Option Addr) (c1 : Nat) (l1 : List (S34)) (r1 : ByteArray) (r2 : Int) (w : World) (hr1 : Kd.C k34 w A1 l1.length l1) (hc1 : l1.length ≤ c1) (hs : a0.size ≤ 65536) (hl : l1.length ≤ 4096) (hf : jFits l1 = true)
    (hR1 : jOk a0.size 0 l1 = false → r1 = ⟨#[]⟩ ∧ r2 = 2) (hR2 : jOk a0.size 0 l1 = true → 1048576 < a0.size + jSum l1 → r1 = ⟨#[]⟩ ∧ r2 = 4)
    (hR3 : jOk a0.size 0 l1 = true → ¬ 1048576 < a0.size + jSum l1 → r1 = ⟨(jAll a0.data.toList 0 l1).toArray⟩ ∧ r2 = 0) :
    Calls Try.prog 6 #[.string a0, .slice A1 l1.length c1] w fun e w' => e = .returned (.tuple #[.string r1, .int .i64 r2]) ∧ Below w.heap.size w w' := by
  have HR1 := Aside0.mk hr1
  have HC1 := Aside0.mk hc1
  have HQ1 := Aside0.mk hR1
  have HQ2 := Aside0.mk hR2
  have HQ3 := Aside0.mk hR3
  have HF := Aside0.mk hf
  clear hr1 hc1 hR1 hR2 hR3 hf
  have b1 : decide (4096 < l1.length) = false := decide_eq_false (by omega)
  go_enter Try.func6, Try.ntmps6
  go_wp2_with (go_at_call 10; refine (corpus_text.calls _ 0 _ (by unfold corpus_text.f; rw [if_neg (by omega)])).mono ?_; rintro e w' ⟨rfl, m, rfl⟩)
  go_loopg [7, 8, 26] l1.length (fun kq v7 v8 v26 w' => ∃ (k : Nat) (at_ sum : Int), v7 = .int .i64 at_ ∧ v8 = .int .i64 sum ∧ v26 = .int .i64 (k : Int) ∧
    Aside0 (k + kq = l1.length ∧ 0 ≤ at_ ∧ at_ ≤ a0.size ∧ -(65536 * (k : Int)) ≤ sum ∧ sum ≤ 65536 + 140737488355328 * (k : Int) ∧ jOk a0.size 0 l1 = jOk a0.size at_ (l1.drop k) ∧ sum + jSum (l1.drop k) = a0.size + jSum l1) ∧ Aside0 (Below w.heap.size w w'))
  case atStart => exact ⟨0, 0, a0.size, rfl, rfl, rfl, ⟨by omega, by omega, by omega, by omega, by omega, rfl, by simp⟩, ⟨pw_below_drewN (Below.refl _ _) _⟩⟩
  case round =>
    obtain ⟨k, at_, sum, rfl, rfl, rfl, HI, HB⟩ := hrel
    by_cases hlt : k < l1.length
    · have b2 : decide ((k : Int) < (l1.length : Int)) = true := decide_eq_true (by omega)
      obtain ⟨ad, e0, hx0, hx1, hx2, hx3⟩ := at_T34 HR1.out (k : Int) (by omega) (by omega)
      obtain rfl := e0
      have hd := drop_rd l1 k hlt
      have hm : rd_T34 l1 k ∈ l1 := by simp [rd_T34, List.getD_eq_getElem?_getD, List.getElem?_eq_getElem hlt]
      generalize rd_T34 l1 k = t at hx0 hx1 hx2 hx3 hd hm
      obtain ⟨f0, f1, f2, f3⟩ := t
      simp only [Int.toNat_natCast] at hx0 hx1 hx2 hx3
      replace hx0 := pw_cell_below HB.out hx0
      replace hx1 := pw_cell_below HB.out hx1
      replace hx2 := pw_cell_below HB.out hx2
      replace hx3 := pw_cell_below HB.out hx3
      have HM : Aside0 (f2.size ≤ 140737488355328) := ⟨by have := HF.out; unfold jFits at this; have := List.all_eq_true.1 this _ hm; simpa using this⟩
      have HD := Aside0.mk hd
      clear hd hm
      by_cases q1 : f0 < at_
      · have q1b : decide (f0 < at_) = true := decide_eq_true q1
        have HX : Aside0 (r1 = ⟨#[]⟩ ∧ r2 = 2) := ⟨HQ1.out (by rw [HI.out.2.2.2.2.2.1, HD.out]; simp [jOk, jBad, q1])⟩
        clear q1
        go_wp2
        go_ret2
        obtain ⟨rfl, rfl⟩ := HX.out
        exact ⟨rfl, by repeat (first | exact HB.out | apply below_alloc | apply pw_below_drewN | apply below_drew)⟩
      · have q1b : decide (f0 < at_) = false := decide_eq_false q1
        by_cases q2 : (a0.size : Int) < f0
        · have q2b : decide ((a0.size : Int) < f0) = true := decide_eq_true q2
          have HX : Aside0 (r1 = ⟨#[]⟩ ∧ r2 = 2) := ⟨HQ1.out (by rw [HI.out.2.2.2.2.2.1, HD.out]; simp [jOk, jBad, q2])⟩
          clear q1 q2
          go_wp2
          go_ret2
          obtain ⟨rfl, rfl⟩ := HX.out
          exact ⟨rfl, by repeat (first | exact HB.out | apply below_alloc | apply pw_below_drewN | apply below_drew)⟩
        · have q2b : decide ((a0.size : Int) < f0) = false := decide_eq_false q2
          by_cases q3 : f1 < 0
          · have q3b : decide (f1 < 0) = true := decide_eq_true q3
            have HX : Aside0 (r1 = ⟨#[]⟩ ∧ r2 = 2) := ⟨HQ1.out (by rw [HI.out.2.2.2.2.2.1, HD.out]; simp [jOk, jBad, q3])⟩
            clear q1 q2 q3
            go_wp2
            go_ret2
            obtain ⟨rfl, rfl⟩ := HX.out
            exact ⟨rfl, by repeat (first | exact HB.out | apply below_alloc | apply pw_below_drewN | apply below_drew)⟩
          · have q3b : decide (f1 < 0) = false := decide_eq_false q3
            have g1 : 0 ≤ f0 := by have := HI.out.2.1; omega
            have g2 : f0 ≤ a0.size := by omega
            have g3 : 0 ≤ f1 := by omega
            by_cases q4 : (a0.size : Int) - f0 < f1
            · have q4b : decide ((a0.size : Int) - f0 < f1) = true := decide_eq_true q4
              have HX : Aside0 (r1 = ⟨#[]⟩ ∧ r2 = 2) := ⟨HQ1.out (by rw [HI.out.2.2.2.2.2.1, HD.out]; simp [jOk, jBad, q4])⟩
              clear q1 q2 q3 q4
              go_wp2
              go_ret2
              obtain ⟨rfl, rfl⟩ := HX.out
              exact ⟨rfl, by repeat (first | exact HB.out | apply below_alloc | apply pw_below_drewN | apply below_drew)⟩
            · have q4b : decide ((a0.size : Int) - f0 < f1) = false := decide_eq_false q4
              have g4 : f1 ≤ (a0.size : Int) - f0 := by omega
              have g5 : (f2.size : Int) ≤ 140737488355328 := by have := HM.out; omega
              have g6 : -(65536 * (k : Int)) ≤ sum := HI.out.2.2.2.1
              have g7 : sum ≤ 65536 + 140737488355328 * (k : Int) := HI.out.2.2.2.2.1
              have HJ : Aside0 (jOk a0.size 0 l1 = jOk a0.size (f0 + f1) (l1.drop (k + 1))) := ⟨by rw [HI.out.2.2.2.2.2.1, HD.out]; simp [jOk, jBad, q1, q2, q3, q4]⟩
              have HS : Aside0 (sum + (jDif ⟨f0, f1, f2, f3⟩ + jSum (l1.drop (k + 1))) = a0.size + jSum l1) := ⟨by have := HI.out.2.2.2.2.2.2; rw [HD.out] at this; exact this⟩
              clear q1 q2 q3 q4
              cases f3
              · go_wp2
                go_roundg (l1.length - (k + 1))
                case measure => have := HI.out.1; omega
                case rel =>
                  have hS := HS.out
                  simp only [jDif] at hS
                  refine ⟨k + 1, f0 + f1, sum + (f2.size - f1), rfl, rfl, by go_num, ⟨by omega, by omega, by omega, by omega, by omega, HJ.out, by simp only [Bool.false_eq_true, if_false] at hS; omega⟩, ⟨by repeat (first | exact HB.out | apply below_alloc | apply pw_below_drewN | apply below_drew)⟩⟩
              · go_wp2
                go_roundg (l1.length - (k + 1))
                case measure => have := HI.out.1; omega
                case rel =>
                  have hS := HS.out
                  simp only [jDif] at hS
                  refine ⟨k + 1, f0 + f1, sum, rfl, rfl, by go_num, ⟨by omega, by omega, by omega, by omega, by omega, HJ.out, by simp only [if_true] at hS; omega⟩, ⟨by repeat (first | exact HB.out | apply below_alloc | apply pw_below_drewN | apply below_drew)⟩⟩
    · have hk : k = l1.length := by have := HI.out.1; omega
      have b2 : decide ((k : Int) < (l1.length : Int)) = false := decide_eq_false (by omega)
      have HO : Aside0 (jOk a0.size 0 l1 = true ∧ sum = a0.size + jSum l1) := ⟨by
        obtain ⟨_, _, _, _, _, x, y⟩ := HI.out
        rw [List.drop_of_length_le (by omega)] at x y
        exact ⟨by rw [x]; rfl, by simpa [jSum] using y⟩⟩
      clear hk
      by_cases q : 1048576 < sum
      · have qb : decide (1048576 < sum) = true := decide_eq_true q
        have HX : Aside0 (r1 = ⟨#[]⟩ ∧ r2 = 4) := ⟨HQ2.out HO.out.1 (by have := HO.out.2; omega)⟩
        clear q
        go_wp2
        go_ret2
        obtain ⟨rfl, rfl⟩ := HX.out
        exact ⟨rfl, by repeat (first | exact HB.out | apply below_alloc | apply pw_below_drewN | apply below_drew)⟩
      · have qb : decide (1048576 < sum) = false := decide_eq_false q
        have HX : Aside0 (r1 = ⟨(jAll a0.data.toList 0 l1).toArray⟩ ∧ r2 = 0) := ⟨HQ3.out HO.out.1 (by have := HO.out.2; omega)⟩
        have HN : Aside0 ((jAll a0.data.toList 0 l1).length ≤ 1048576) := ⟨by
          have h1 := jAll_length a0.data.toList l1 0 (by omega) (by omega) (by simpa using HO.out.1)
          have h2 := HO.out.2
          have h3 : (a0.data.toList.length : Int) = a0.size := by simp
          omega⟩
        clear q
        go_wp2
        obtain ⟨wo, hwo⟩ : ∃ wo : World, wo = wr := ⟨_, rfl⟩
        subst hwo
        go_loopg [7, 77] l1.length (fun kq v7 v77 w' => ∃ (k : Nat) (at_ : Int) (out : List UInt8), v7 = .int .i64 at_ ∧ v77 = .int .i64 (k : Int) ∧
          Aside0 (k + kq = l1.length ∧ 0 ≤ at_ ∧ at_ ≤ a0.size ∧ jOk a0.size at_ (l1.drop k) = true ∧ out ++ jAll a0.data.toList at_ (l1.drop k) = jAll a0.data.toList 0 l1) ∧
          Aside0 (Lib.IsBuilderF 38 5 wo.heap.size wo.heap.size (Lib.byteCells out) w') ∧ Aside0 (Below wo.heap.size wo w' ∧ wo.heap.size ≤ w'.heap.size))
        case atStart => exact ⟨0, 0, [], rfl, rfl, ⟨by omega, by omega, by omega, HO.out.1, by simp⟩, ⟨Lib.IsBuilderF.of (Lib.fresh_isBuilder 38 5 wo)⟩, ⟨(Below.refl _ _).alloc (Nat.le_refl _) _, by simp⟩⟩
        case round =>
          obtain ⟨k, at_, out, rfl, rfl, HI2, HU, HB2⟩ := hrel
          have HBB : Aside0 (Below w.heap.size w wr) := ⟨below_then HB.out HB.out.size HB2.out.1⟩
          by_cases hlt : k < l1.length
          · have b2 : decide ((k : Int) < (l1.length : Int)) = true := decide_eq_true (by omega)
            obtain ⟨ad, e0, hx0, hx1, hx2, hx3⟩ := at_T34 HR1.out (k : Int) (by omega) (by omega)
            obtain rfl := e0
            have hd := drop_rd l1 k hlt
            generalize rd_T34 l1 k = t at hx0 hx1 hx2 hx3 hd
            obtain ⟨f0, f1, f2, f3⟩ := t
            simp only [Int.toNat_natCast] at hx0 hx1 hx2 hx3
            replace hx0 := pw_cell_below HBB.out hx0
            replace hx1 := pw_cell_below HBB.out hx1
            replace hx2 := pw_cell_below HBB.out hx2
            replace hx3 := pw_cell_below HBB.out hx3
            have hj := HI2.out.2.2.2.1
            rw [hd] at hj
            obtain ⟨g1, g2, g3, g4, hj5⟩ := jOk_cons hj
            simp only at g1 g2 g3 g4 hj5
            have g0 : 0 ≤ at_ := HI2.out.2.1
            have g6 : 0 ≤ f0 := by omega
            have g7 : 0 ≤ f0 + f1 := by omega
            have g8 : f0 ≤ f0 + f1 := by omega
            have g9 : f0 + f1 ≤ a0.size := by omega
            have ha := HI2.out.2.2.2.2
            rw [hd] at ha
            simp only [jAll] at ha
            have hal := congrArg List.length ha
            simp only [List.length_append] at hal
            have HL : Aside0 (out.length + (a0.extract at_.toNat f0.toNat).size ≤ 1048576 ∧ (out ++ (a0.extract at_.toNat f0.toNat).data.toList).length + (jMid a0.data.toList ⟨f0, f1, f2, f3⟩).length ≤ 1048576) := ⟨by
              have e1 : (a0.extract at_.toNat f0.toNat).data.toList = (a0.data.toList.drop at_.toNat).take (f0 - at_).toNat := by rw [Lib.extract_data]; congr 1; omega
              have e2 : (a0.extract at_.toNat f0.toNat).size = (a0.extract at_.toNat f0.toNat).data.toList.length := by rw [Array.length_toList]; rfl
              rw [e2, List.length_append, e1]
              have := HN.out
              omega⟩
            have HA : Aside0 (((out ++ (a0.extract at_.toNat f0.toNat).data.toList) ++ jMid a0.data.toList ⟨f0, f1, f2, f3⟩) ++ jAll a0.data.toList (f0 + f1) (l1.drop (k + 1)) = jAll a0.data.toList 0 l1) := ⟨by
              have e1 : (a0.extract at_.toNat f0.toNat).data.toList = (a0.data.toList.drop at_.toNat).take (f0 - at_).toNat := by rw [Lib.extract_data]; congr 1; omega
              rw [e1, ← ha]
              simp only [List.append_assoc]⟩
            have HJ5 := Aside0.mk hj5
            clear hj hj5 ha hal hd
            go_wp2_with fail
            refine (sb_write wo.heap.size wo.heap.size (Lib.byteCells out) _ _ (HU.out.alloc _) (by rw [Lib.byteCells_length]; have := HL.out.1; omega) (by have := HB2.out.2; simp; omega)).mono ?_
            rintro e w1 ⟨rfl, HU1, hB1, hk1⟩
            have HU1' := Aside0.mk HU1
            have HB1' := Aside0.mk hB1
            have hblk : w1.heap[wr.heap.size]? = some (.cells #[.int .i64 f0, .int .i64 f1, .string f2, .bool f3] 34 (0, 0)) := hk1 wr.heap.size _ (heap_alloc_new wr _) (by have := HB2.out.2; have := HU.out; simp; rcases this with h | h <;> (have := h.lt; omega)) (by intro c fz h; injection h with _ h _; exact absurd h (by decide))
            have hy0 : w1.cell? ⟨wr.heap.size, 0, none⟩ = some (.int .i64 f0) := by rw [blk_cell hblk]; rfl
            have hy1 : w1.cell? ⟨wr.heap.size, 1, none⟩ = some (.int .i64 f1) := by rw [blk_cell hblk]; rfl
            have hy2 : w1.cell? ⟨wr.heap.size, 2, none⟩ = some (.string f2) := by rw [blk_cell hblk]; rfl
            have hy3 : w1.cell? ⟨wr.heap.size, 3, none⟩ = some (.bool f3) := by rw [blk_cell hblk]; rfl
            clear HU1 hB1 hk1 hblk
            cases f3
            · go_wp2_with fail
              refine (sb_write wo.heap.size wo.heap.size (Lib.byteCells out ++ Lib.strCells (a0.extract at_.toNat f0.toNat)) _ _ (.inr HU1'.out) (by have h := HL.out.2; simp only [jMid, Bool.false_eq_true, if_false, Array.length_toList, List.length_append] at h; simp only [List.length_append, Lib.byteCells_length, Lib.strCells_eq, Array.length_toList]; have h2 : f2.data.size = f2.size := rfl; omega) (by have := HB2.out.2; have := HB1'.out.size; simp at this; omega)).mono ?_
              rintro e w2 ⟨rfl, HU2, hB2, hk2⟩
              have HU2' := Aside0.mk HU2
              have HB2'' := Aside0.mk hB2
              clear HU2 hB2 hk2
              go_wp2
              go_roundg (l1.length - (k + 1))
              case measure => have := HI2.out.1; omega
              case rel =>
                refine ⟨k + 1, f0 + f1, out ++ (a0.extract at_.toNat f0.toNat).data.toList ++ f2.data.toList, rfl, by go_num, ⟨by omega, by omega, by omega, HJ5.out, by simpa [jMid] using HA.out⟩, ⟨?_⟩, ⟨?_, ?_⟩⟩
                · have := HU2'.out
                  rw [Lib.strCells_eq, Lib.strCells_eq, ← Lib.byteCells_append, ← Lib.byteCells_append] at this
                  exact .inr this
                · exact ((HB2.out.1.alloc HB2.out.2 _).trans HB1'.out).trans HB2''.out
                · have := HB1'.out.size; have := HB2''.out.size; have := HB2.out.2; simp at *; omega
            · go_wp2_with fail
              refine (sb_write wo.heap.size wo.heap.size (Lib.byteCells out ++ Lib.strCells (a0.extract at_.toNat f0.toNat)) _ _ (.inr HU1'.out) (by have h := HL.out.2; simp only [jMid, if_true, List.length_append, Array.length_toList, List.length_take, List.length_drop] at h; simp only [List.length_append, Lib.byteCells_length, Lib.strCells_eq, Array.length_toList, ByteArray.size_extract]; have h2 : a0.data.size = a0.size := rfl; omega) (by have := HB2.out.2; have := HB1'.out.size; simp at this; omega)).mono ?_
              rintro e w2 ⟨rfl, HU2, hB2, hk2⟩
              have HU2' := Aside0.mk HU2
              have HB2'' := Aside0.mk hB2
              clear HU2 hB2 hk2
              go_wp2
              go_roundg (l1.length - (k + 1))
              case measure => have := HI2.out.1; omega
              case rel =>
                refine ⟨k + 1, f0 + f1, out ++ (a0.extract at_.toNat f0.toNat).data.toList ++ (a0.extract f0.toNat (f0 + f1).toNat).data.toList, rfl, by go_num, ⟨by omega, by omega, by omega, HJ5.out, ?_⟩, ⟨?_⟩, ⟨?_, ?_⟩⟩
                · have e1 : (a0.extract f0.toNat (f0 + f1).toNat).data.toList = (a0.data.toList.drop f0.toNat).take f1.toNat := by rw [Lib.extract_data]; congr 1; omega
                  rw [e1]
                  simpa [jMid] using HA.out
                · have := HU2'.out
                  rw [Lib.strCells_eq, Lib.strCells_eq, ← Lib.byteCells_append, ← Lib.byteCells_append] at this
                  exact .inr this
                · exact ((HB2.out.1.alloc HB2.out.2 _).trans HB1'.out).trans HB2''.out
                · have := HB1'.out.size; have := HB2''.out.size; have := HB2.out.2; simp at *; omega
          · have b2 : decide ((k : Int) < (l1.length : Int)) = false := decide_eq_false (by omega)
            have g0 : 0 ≤ at_ := HI2.out.2.1
            have g1 : at_ ≤ a0.size := HI2.out.2.2.1
            have HA : Aside0 (out ++ a0.data.toList.drop at_.toNat = jAll a0.data.toList 0 l1) := ⟨by
              have := HI2.out.2.2.2.2
              rw [List.drop_of_length_le (by omega)] at this
              exact this⟩
            have HL : Aside0 (out.length + (a0.extract at_.toNat a0.size).size ≤ 1048576) := ⟨by
              have h := congrArg List.length HA.out
              have := HN.out
              simp only [List.length_append, List.length_drop, Array.length_toList] at h
              simp only [ByteArray.size_extract]
              have h2 : a0.data.size = a0.size := rfl
              omega⟩
            go_wp2_with fail
            refine (sb_write wo.heap.size wo.heap.size (Lib.byteCells out) _ _ HU.out (by rw [Lib.byteCells_length]; have := HL.out; omega) HB2.out.2).mono ?_
            rintro e w1 ⟨rfl, HU1, hB1, hk1⟩
            have HU1' := Aside0.mk HU1
            have HB1' := Aside0.mk hB1
            clear HU1 hB1 hk1
            go_wp2_with fail
            refine (Try.Builder_String_any_f wo.heap.size wo.heap.size (out ++ a0.data.toList.drop at_.toNat) _ (by
              have := HU1'.out
              rw [Lib.strCells_eq, Lib.extract_to_end, ← Lib.byteCells_append] at this
              exact .inr this) (by have := HB2.out.2; have := HB1'.out.size; omega)).mono ?_
            rintro e w2 ⟨rfl, hU2, hB2⟩
            have HB2'' := Aside0.mk hB2
            clear hU2 hB2
            rw [HA.out]
            go_wp2
            go_ret2
            obtain ⟨rfl, rfl⟩ := HX.out
            exact ⟨rfl, below_then HB.out HB.out.size ((HB2.out.1.trans HB1'.out).trans HB2''.out)⟩
def corpus_Join.f (a0 : ByteArray) (l1 : List (S34)) : Option (ByteArray × Int) := joinSpec a0 l1
theorem corpus_Join.calls (a0 : ByteArray) (A1 : Option Addr) (c1 : Nat) (l1 : List (S34)) (r1 : ByteArray) (r2 : Int) (w : World) (hr1 : Kd.C k34 w A1 l1.length l1) (hc1 : l1.length ≤ c1) (h : corpus_Join.f a0 l1 = some (r1, r2)) :
    Calls Try.prog 6 #[.string a0, .slice A1 l1.length c1] w fun e w' => e = .returned (.tuple #[.string r1, .int .i64 r2]) ∧ Below w.heap.size w w' := by
  unfold corpus_Join.f joinSpec at h
  by_cases q1 : a0.size > 65536
  · rw [if_pos q1] at h
    simp only [Option.some.injEq, Prod.mk.injEq] at h
    obtain ⟨rfl, rfl⟩ := h
    go_enter Try.func6, Try.ntmps6
    go_wp2_with (go_at_call 10; refine (corpus_text.calls _ 3 _ (by unfold corpus_text.f; rw [if_pos (by omega)])).mono ?_; rintro e w' ⟨rfl, m, rfl⟩)
    go_ret2
    exact ⟨rfl, pw_below_drewN (Below.refl _ _) _⟩
  · rw [if_neg q1] at h
    by_cases q2 : l1.length > 4096
    · rw [if_pos q2] at h
      simp only [Option.some.injEq, Prod.mk.injEq] at h
      obtain ⟨rfl, rfl⟩ := h
      have b1 : decide (4096 < l1.length) = true := decide_eq_true (by omega)
      go_enter Try.func6, Try.ntmps6
      go_wp2_with (go_at_call 10; refine (corpus_text.calls _ 0 _ (by unfold corpus_text.f; rw [if_neg (by omega)])).mono ?_; rintro e w' ⟨rfl, m, rfl⟩)
      go_ret2
      exact ⟨rfl, pw_below_drewN (Below.refl _ _) _⟩
    · rw [if_neg q2] at h
      by_cases q3 : jFits l1 = false
      · rw [if_pos q3] at h
        cases h
      · rw [if_neg q3] at h
        refine corpus_Join.jn a0 A1 c1 l1 r1 r2 w hr1 hc1 (by omega) (by omega) (by simpa using q3) ?_ ?_ ?_
        · intro q
          rw [if_pos q] at h
          simpa [eq_comm] using h
        · intro q q'
          rw [if_neg (by simp [q]), if_pos q'] at h
          simpa [eq_comm] using h
        · intro q q'
          rw [if_neg (by simp [q]), if_neg q'] at h
          simpa [eq_comm] using h


end Go.Proofs.Ytfpfdmenhgageaa.P
