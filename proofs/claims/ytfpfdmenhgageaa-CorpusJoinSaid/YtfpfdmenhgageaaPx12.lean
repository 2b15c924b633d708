-- Written by this session's program (wip/ext) with the kit's printer. Not trusted: Lean checks it.
import Derived.Test.YtfpfdmenhgageaaPx0
import Derived.Test.YtfpfdmenhgageaaPx10
namespace Go.Proofs.Ytfpfdmenhgageaa.P
open Go.RowKit Go.Proofs.YtfpfdmenhgageaaW.PrintWords Go.Proofs.YtfpfdmenhgageaaW.PrintLast Go.Proofs.YtfpfdmenhgageaaW.PrintMore
attribute [local go_sem] max2_int min2_int max_two min_two max_three min_three max_four min_four   -- for this text's walks alone
set_option linter.unusedVariables false
set_option linter.unusedSimpArgs false

/-! ### cognateref24_Join: function 7 (by hand) -/
set_option maxHeartbeats 4000000 in
set_option maxRecDepth 100000 in
theorem cognateref24_Join.jn (a0 : ByteArray) (A1 : Option Addr) (c1 : Nat) (l1 : List (S34)) (r1 : ByteArray) (r2 : Int) (w : World) (hr1 : Kd.C k34 w A1 l1.length l1) (hc1 : l1.length ≤ c1) (hs : a0.size ≤ 65536) (hl : l1.length ≤ 4096) (hf : jFits l1 = true)
    (hR1 : jOk a0.size 0 l1 = false → r1 = ⟨#[]⟩ ∧ r2 = 2) (hR2 : jOk a0.size 0 l1 = true → 1048576 < a0.size + jSum l1 → r1 = ⟨#[]⟩ ∧ r2 = 4)
    (hR3 : jOk a0.size 0 l1 = true → ¬ 1048576 < a0.size + jSum l1 → r1 = ⟨(jAll a0.data.toList 0 l1).toArray⟩ ∧ r2 = 0) :
    Calls Try.prog 7 #[.string a0, .slice A1 l1.length c1] w fun e w' => e = .returned (.tuple #[.string r1, .int .i64 r2]) ∧ Drawn0 w w' := by
  have HR1 := Aside0.mk hr1
  have HC1 := Aside0.mk hc1
  have HQ1 := Aside0.mk hR1
  have HQ2 := Aside0.mk hR2
  have HQ3 := Aside0.mk hR3
  have HF := Aside0.mk hf
  clear hr1 hc1 hR1 hR2 hR3 hf
  have b1 : decide (4096 < l1.length) = false := decide_eq_false (by omega)
  have b0 : decide (65536 < a0.size) = false := decide_eq_false (by omega)
  go_enter Try.func7, Try.ntmps7
  go_wp2
  go_loopg [6, 7] l1.length (fun kq v6 v7 w' => ∃ (k : Nat) (at_ : Int), v6 = .int .i64 at_ ∧ v7 = .int .i64 (k : Int) ∧
    Aside0 (k + kq = l1.length ∧ 0 ≤ at_ ∧ at_ ≤ a0.size ∧ jOk a0.size 0 l1 = jOk a0.size at_ (l1.drop k)) ∧ Drawn0 w w')
  case atStart => exact ⟨0, 0, rfl, rfl, ⟨by omega, by omega, by omega, rfl⟩, (by repeat (first | exact Drawn0.refl _ | apply Drawn0.step))⟩
  case round =>
    obtain ⟨k, at_, rfl, rfl, HI, ⟨m1, rfl⟩⟩ := hrel
    by_cases hlt : k < l1.length
    · have b2 : decide ((k : Int) < (l1.length : Int)) = true := decide_eq_true (by omega)
      obtain ⟨ad, e0, hx0, hx1, hx2, hx3⟩ := at_T34 HR1.out (k : Int) (by omega) (by omega)
      obtain rfl := e0
      have hd := drop_rd l1 k hlt
      generalize rd_T34 l1 k = t at hx0 hx1 hx2 hx3 hd
      obtain ⟨f0, f1, f2, f3⟩ := t
      simp only [Int.toNat_natCast] at hx0 hx1 hx2 hx3
      have HD := Aside0.mk hd
      clear hd
      by_cases q1 : f0 < at_
      · have q1b : decide (f0 < at_) = true := decide_eq_true q1
        have HX : Aside0 (r1 = ⟨#[]⟩ ∧ r2 = 2) := ⟨HQ1.out (by rw [HI.out.2.2.2, HD.out]; simp [jOk, jBad, q1])⟩
        clear q1
        (go_wp2; repeat (go_quiet (fail); try go_wp2))
        go_ret2
        obtain ⟨rfl, rfl⟩ := HX.out
        exact ⟨rfl, (by repeat (first | exact Drawn0.refl _ | apply Drawn0.step))⟩
      · have q1b : decide (f0 < at_) = false := decide_eq_false q1
        by_cases q2 : (a0.size : Int) < f0
        · have q2b : decide ((a0.size : Int) < f0) = true := decide_eq_true q2
          have HX : Aside0 (r1 = ⟨#[]⟩ ∧ r2 = 2) := ⟨HQ1.out (by rw [HI.out.2.2.2, HD.out]; simp [jOk, jBad, q2])⟩
          clear q1 q2
          (go_wp2; repeat (go_quiet (fail); try go_wp2))
          go_ret2
          obtain ⟨rfl, rfl⟩ := HX.out
          exact ⟨rfl, (by repeat (first | exact Drawn0.refl _ | apply Drawn0.step))⟩
        · have q2b : decide ((a0.size : Int) < f0) = false := decide_eq_false q2
          by_cases q3 : f1 < 0
          · have q3b : decide (f1 < 0) = true := decide_eq_true q3
            have HX : Aside0 (r1 = ⟨#[]⟩ ∧ r2 = 2) := ⟨HQ1.out (by rw [HI.out.2.2.2, HD.out]; simp [jOk, jBad, q3])⟩
            clear q1 q2 q3
            (go_wp2; repeat (go_quiet (fail); try go_wp2))
            go_ret2
            obtain ⟨rfl, rfl⟩ := HX.out
            exact ⟨rfl, (by repeat (first | exact Drawn0.refl _ | apply Drawn0.step))⟩
          · have q3b : decide (f1 < 0) = false := decide_eq_false q3
            have g1 : 0 ≤ f0 := by have := HI.out.2.1; omega
            have g2 : f0 ≤ a0.size := by omega
            have g3 : 0 ≤ f1 := by omega
            have g5 : IntKind.i64.wrap ((a0.size : Int) - f0) = (a0.size : Int) - f0 := IntWalk.i64_in _ (by omega)
            by_cases q4 : (a0.size : Int) - f0 < f1
            · have q4b : decide ((a0.size : Int) - f0 < f1) = true := decide_eq_true q4
              have HX : Aside0 (r1 = ⟨#[]⟩ ∧ r2 = 2) := ⟨HQ1.out (by rw [HI.out.2.2.2, HD.out]; simp [jOk, jBad, q4])⟩
              clear q1 q2 q3 q4
              (go_wp2; repeat (go_quiet (fail); try go_wp2))
              go_ret2
              obtain ⟨rfl, rfl⟩ := HX.out
              exact ⟨rfl, (by repeat (first | exact Drawn0.refl _ | apply Drawn0.step))⟩
            · have q4b : decide ((a0.size : Int) - f0 < f1) = false := decide_eq_false q4
              have g4 : f1 ≤ (a0.size : Int) - f0 := by omega
              have g6 : IntKind.i64.wrap (f0 + f1) = f0 + f1 := IntWalk.i64_in _ (by omega)
              have HJ : Aside0 (jOk a0.size 0 l1 = jOk a0.size (f0 + f1) (l1.drop (k + 1))) := ⟨by rw [HI.out.2.2.2, HD.out]; simp [jOk, jBad, q1, q2, q3, q4]⟩
              clear q1 q2 q3 q4
              (go_wp2; repeat (go_quiet (fail); try go_wp2))
              go_roundg (l1.length - (k + 1))
              case measure => have := HI.out.1; omega
              case rel =>
                refine ⟨k + 1, f0 + f1, rfl, by go_num, ⟨by omega, by omega, by omega, HJ.out⟩, (by repeat (first | exact Drawn0.refl _ | apply Drawn0.step))⟩
    · have hk : k = l1.length := by have := HI.out.1; omega
      have b2 : decide ((k : Int) < (l1.length : Int)) = false := decide_eq_false (by omega)
      have HO : Aside0 (jOk a0.size 0 l1 = true) := ⟨by
        obtain ⟨_, _, _, x⟩ := HI.out
        rw [List.drop_of_length_le (by omega)] at x
        rw [x]; rfl⟩
      have HN : Aside0 (((jAll a0.data.toList 0 l1).length : Int) = a0.size + jSum l1) := ⟨by
        have h1 := jAll_length a0.data.toList l1 0 (by omega) (by omega) (by simpa using HO.out)
        have h3 : (a0.data.toList.length : Int) = a0.size := by simp
        omega⟩
      clear hk
      (go_wp2; repeat (go_quiet (fail); try go_wp2))
      go_loopg [6, 8, 9] l1.length (fun kq v6 v8 v9 w' => ∃ (k : Nat) (at_ : Int) (out : ByteArray), v6 = .int .i64 at_ ∧ v8 = .string out ∧ v9 = .int .i64 (k : Int) ∧
        Aside0 (k + kq = l1.length ∧ 0 ≤ at_ ∧ at_ ≤ a0.size ∧ jOk a0.size at_ (l1.drop k) = true ∧ out.data.toList ++ jAll a0.data.toList at_ (l1.drop k) = jAll a0.data.toList 0 l1 ∧ out.size ≤ 1048576) ∧ Drawn0 w w')
      case atStart => exact ⟨0, 0, ⟨#[]⟩, rfl, rfl, rfl, ⟨by omega, by omega, by omega, HO.out, by simp, by decide⟩, (by repeat (first | exact Drawn0.refl _ | apply Drawn0.step))⟩
      case round =>
        obtain ⟨k, at_, out, rfl, rfl, rfl, HI2, ⟨m2, rfl⟩⟩ := hrel
        by_cases hlt : k < l1.length
        · have b2 : decide ((k : Int) < (l1.length : Int)) = true := decide_eq_true (by omega)
          obtain ⟨ad, e0, hx0, hx1, hx2, hx3⟩ := at_T34 HR1.out (k : Int) (by omega) (by omega)
          obtain rfl := e0
          have hd := drop_rd l1 k hlt
          have hm : rd_T34 l1 k ∈ l1 := by simp [rd_T34, List.getD_eq_getElem?_getD, List.getElem?_eq_getElem hlt]
          generalize rd_T34 l1 k = t at hx0 hx1 hx2 hx3 hd hm
          obtain ⟨f0, f1, f2, f3⟩ := t
          simp only [Int.toNat_natCast] at hx0 hx1 hx2 hx3
          have hM : f2.size ≤ 140737488355328 := by have := HF.out; unfold jFits at this; have := List.all_eq_true.1 this _ hm; simpa using this
          have hj := HI2.out.2.2.2.1
          rw [hd] at hj
          obtain ⟨g1, g2, g3, g4, hj5⟩ := jOk_cons hj
          simp only at g1 g2 g3 g4 hj5
          have g0 : 0 ≤ at_ := HI2.out.2.1
          have g6 : 0 ≤ f0 := by omega
          have g7 : 0 ≤ f0 + f1 := by omega
          have g8 : f0 ≤ f0 + f1 := by omega
          have g9 : f0 + f1 ≤ a0.size := by omega
          have gw : IntKind.i64.wrap (f0 + f1) = f0 + f1 := IntWalk.i64_in _ (by omega)
          have hz : out.size ≤ 1048576 := HI2.out.2.2.2.2.2
          have ha := HI2.out.2.2.2.2.1
          rw [hd] at ha
          simp only [jAll] at ha
          have e1 : (a0.extract at_.toNat f0.toNat).data.toList = (a0.data.toList.drop at_.toNat).take (f0 - at_).toNat := by rw [Lib.extract_data]; congr 1; omega
          have HA : Aside0 ((out ++ a0.extract at_.toNat f0.toNat).data.toList ++ (jMid a0.data.toList ⟨f0, f1, f2, f3⟩ ++ jAll a0.data.toList (f0 + f1) (l1.drop (k + 1))) = jAll a0.data.toList 0 l1) := ⟨by
            have : (out ++ a0.extract at_.toNat f0.toNat).data.toList = out.data.toList ++ (a0.extract at_.toNat f0.toNat).data.toList := by simp
            rw [this, e1, ← ha]
            simp only [List.append_assoc]⟩
          have hs1 : out.size + (a0.extract at_.toNat f0.toNat).size ≤ 9223372036854775807 := by simp only [ByteArray.size_extract]; omega
          have HJ5 := Aside0.mk hj5
          clear hj hj5 ha hd hm e1
          have hlen := congrArg List.length HA.out
          simp only [List.length_append, ByteArray.data_append, Array.toList_append, Array.length_toList] at hlen
          have hsz1 : out.data.size = out.size := rfl
          have hsz2 : (a0.extract at_.toNat f0.toNat).data.size = f0.toNat - at_.toNat := by show (a0.extract at_.toNat f0.toNat).size = _; simp only [ByteArray.size_extract]; omega
          have hsz3 : f2.data.size = f2.size := rfl
          have HLe := Aside0.mk hlen
          have HS1 := Aside0.mk hsz1
          have HS2 := Aside0.mk hsz2
          have HS3 := Aside0.mk hsz3
          clear hlen hsz1 hsz2 hsz3
          cases f3
          · (go_wp2; repeat (go_quiet (fail); try go_wp2))
            · have hX : r1 = ⟨#[]⟩ ∧ r2 = 4 := HQ2.out HO.out (by
                have h1 := HLe.out; have h2 := HS1.out; have h3 := HS2.out; have h4 := HS3.out; have h5 := HN.out
                simp only [jMid, Bool.false_eq_true, if_false, Array.length_toList] at h1
                omega)
              go_ret2
              obtain ⟨rfl, rfl⟩ := hX
              exact ⟨rfl, (by repeat (first | exact Drawn0.refl _ | apply Drawn0.step))⟩
            · go_roundg (l1.length - (k + 1))
              case measure => have := HI2.out.1; omega
              case rel =>
                refine ⟨k + 1, f0 + f1, _, rfl, rfl, by go_num, ⟨by omega, by omega, by omega, HJ5.out, ?_, ?_⟩, (by repeat (first | exact Drawn0.refl _ | apply Drawn0.step))⟩
                · have := HA.out
                  simp only [jMid, Bool.false_eq_true, if_false] at this
                  rw [← this]
                  simp
                · simp only [ByteArray.size_append, ByteArray.size_extract]
                  omega
          · (go_wp2; repeat (go_quiet (fail); try go_wp2))
            · have hX : r1 = ⟨#[]⟩ ∧ r2 = 4 := HQ2.out HO.out (by
                have h1 := HLe.out; have h2 := HS1.out; have h3 := HS2.out; have h5 := HN.out
                simp only [jMid, if_true, List.length_take, List.length_drop, Array.length_toList] at h1
                have h6 : a0.data.size = a0.size := rfl
                omega)
              go_ret2
              obtain ⟨rfl, rfl⟩ := hX
              exact ⟨rfl, (by repeat (first | exact Drawn0.refl _ | apply Drawn0.step))⟩
            · go_roundg (l1.length - (k + 1))
              case measure => have := HI2.out.1; omega
              case rel =>
                refine ⟨k + 1, f0 + f1, _, rfl, rfl, by go_num, ⟨by omega, by omega, by omega, HJ5.out, ?_, ?_⟩, (by repeat (first | exact Drawn0.refl _ | apply Drawn0.step))⟩
                · have := HA.out
                  simp only [jMid, if_true] at this
                  have e1 : (a0.extract f0.toNat (f0 + f1).toNat).data.toList = (a0.data.toList.drop f0.toNat).take f1.toNat := by rw [Lib.extract_data]; congr 1; omega
                  rw [← this, ← e1]
                  simp only [ByteArray.data_append, Array.toList_append, List.append_assoc]
                · simp only [ByteArray.size_append, ByteArray.size_extract]
                  omega
        · have b2 : decide ((k : Int) < (l1.length : Int)) = false := decide_eq_false (by omega)
          have g0 : 0 ≤ at_ := HI2.out.2.1
          have g1 : at_ ≤ a0.size := HI2.out.2.2.1
          have hz : out.size ≤ 1048576 := HI2.out.2.2.2.2.2
          have HA : Aside0 (out ++ a0.extract at_.toNat a0.size = ⟨(jAll a0.data.toList 0 l1).toArray⟩) := ⟨by
            have := HI2.out.2.2.2.2.1
            rw [List.drop_of_length_le (by omega)] at this
            simp only [jAll] at this
            rw [← Lib.extract_to_end] at this
            rw [← this]
            apply ByteArray.ext
            apply Array.ext'
            simp⟩
          have hs1 : out.size + (a0.extract at_.toNat a0.size).size ≤ 9223372036854775807 := by simp only [ByteArray.size_extract]; omega
          have HLe : Aside0 (((jAll a0.data.toList 0 l1).length : Int) = out.size + (a0.size - at_.toNat : Nat)) := ⟨by
            have := congrArg ByteArray.size HA.out
            simp only [ByteArray.size_append, ByteArray.size_extract] at this
            have h2 : (⟨(jAll a0.data.toList 0 l1).toArray⟩ : ByteArray).size = (jAll a0.data.toList 0 l1).length := by show (Array.size _) = _; simp
            omega⟩
          (go_wp2; repeat (go_quiet (fail); try go_wp2))
          · have hX : r1 = ⟨#[]⟩ ∧ r2 = 4 := HQ2.out HO.out (by
              have h1 := HLe.out; have h5 := HN.out
              omega)
            go_ret2
            obtain ⟨rfl, rfl⟩ := hX
            exact ⟨rfl, (by repeat (first | exact Drawn0.refl _ | apply Drawn0.step))⟩
          · have hX : r1 = ⟨(jAll a0.data.toList 0 l1).toArray⟩ ∧ r2 = 0 := HQ3.out HO.out (by
              have h1 := HLe.out; have h5 := HN.out
              omega)
            go_ret2
            obtain ⟨rfl, rfl⟩ := hX
            exact ⟨by rw [HA.out]; rfl, (by repeat (first | exact Drawn0.refl _ | apply Drawn0.step))⟩
def cognateref24_Join.f (a0 : ByteArray) (l1 : List (S34)) : Option (ByteArray × Int) := joinSpec a0 l1
theorem cognateref24_Join.calls (a0 : ByteArray) (A1 : Option Addr) (c1 : Nat) (l1 : List (S34)) (r1 : ByteArray) (r2 : Int) (w : World) (hr1 : Kd.C k34 w A1 l1.length l1) (hc1 : l1.length ≤ c1) (h : cognateref24_Join.f a0 l1 = some (r1, r2)) :
    Calls Try.prog 7 #[.string a0, .slice A1 l1.length c1] w fun e w' => e = .returned (.tuple #[.string r1, .int .i64 r2]) ∧ Drawn0 w w' := by
  unfold cognateref24_Join.f joinSpec at h
  by_cases q1 : a0.size > 65536
  · rw [if_pos q1] at h
    simp only [Option.some.injEq, Prod.mk.injEq] at h
    obtain ⟨rfl, rfl⟩ := h
    have b0 : decide (65536 < a0.size) = true := decide_eq_true (by omega)
    go_enter Try.func7, Try.ntmps7
    go_wp2
    go_ret2
    exact ⟨rfl, Drawn0.refl _⟩
  · rw [if_neg q1] at h
    have b0 : decide (65536 < a0.size) = false := decide_eq_false (by omega)
    by_cases q2 : l1.length > 4096
    · rw [if_pos q2] at h
      simp only [Option.some.injEq, Prod.mk.injEq] at h
      obtain ⟨rfl, rfl⟩ := h
      have b1 : decide (4096 < l1.length) = true := decide_eq_true (by omega)
      go_enter Try.func7, Try.ntmps7
      go_wp2
      go_ret2
      exact ⟨rfl, Drawn0.refl _⟩
    · rw [if_neg q2] at h
      by_cases q3 : jFits l1 = false
      · rw [if_pos q3] at h
        cases h
      · rw [if_neg q3] at h
        refine cognateref24_Join.jn a0 A1 c1 l1 r1 r2 w hr1 hc1 (by omega) (by omega) (by simpa using q3) ?_ ?_ ?_
        · intro q
          rw [if_pos q] at h
          simpa [eq_comm] using h
        · intro q q'
          rw [if_neg (by simp [q]), if_pos q'] at h
          simpa [eq_comm] using h
        · intro q q'
          rw [if_neg (by simp [q]), if_neg q'] at h
          simpa [eq_comm] using h

end Go.Proofs.Ytfpfdmenhgageaa.P
