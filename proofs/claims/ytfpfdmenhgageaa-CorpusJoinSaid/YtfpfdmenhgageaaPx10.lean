-- Written by this session's program (wip/ext) with the kit's printer. Not trusted: Lean checks it.
import Derived.Test.YtfpfdmenhgageaaPx0
namespace Go.Proofs.Ytfpfdmenhgageaa.P
open Go.RowKit Go.Proofs.YtfpfdmenhgageaaW.PrintWords Go.Proofs.YtfpfdmenhgageaaW.PrintLast Go.Proofs.YtfpfdmenhgageaaW.PrintMore
attribute [local go_sem] max2_int min2_int max_two min_two max_three min_three max_four min_four   -- for this text's walks alone
set_option linter.unusedVariables false
set_option linter.unusedSimpArgs false

def jBad (n at_ : Int) (t : S34) : Bool := decide (t.f0 < at_) || decide (n < t.f0) || decide (t.f1 < 0) || decide (n - t.f0 < t.f1)
def jOk (n : Int) : Int → List S34 → Bool
  | _, [] => true
  | at_, t :: ts => !(jBad n at_ t) && jOk n (t.f0 + t.f1) ts
def jMid (s : List UInt8) (t : S34) : List UInt8 := if t.f3 = true then (s.drop t.f0.toNat).take t.f1.toNat else t.f2.data.toList
def jAll (s : List UInt8) : Int → List S34 → List UInt8
  | at_, [] => s.drop at_.toNat
  | at_, t :: ts => (s.drop at_.toNat).take (t.f0 - at_).toNat ++ (jMid s t ++ jAll s (t.f0 + t.f1) ts)
def jDif (t : S34) : Int := if t.f3 = true then 0 else t.f2.size - t.f1
def jSum : List S34 → Int
  | [] => 0
  | t :: ts => jDif t + jSum ts
def jFits (l : List S34) : Bool := l.all fun t => decide (t.f2.size ≤ 140737488355328)
def joinSpec (s : ByteArray) (l : List S34) : Option (ByteArray × Int) :=
  if s.size > 65536 then some (⟨#[]⟩, 3) else if l.length > 4096 then some (⟨#[]⟩, 4) else if jFits l = false then none
  else if jOk s.size 0 l = false then some (⟨#[]⟩, 2) else if 1048576 < s.size + jSum l then some (⟨#[]⟩, 4) else some (⟨(jAll s.data.toList 0 l).toArray⟩, 0)
theorem jOk_cons {n at_ : Int} {t : S34} {ts : List S34} (h : jOk n at_ (t :: ts) = true) : at_ ≤ t.f0 ∧ t.f0 ≤ n ∧ 0 ≤ t.f1 ∧ t.f1 ≤ n - t.f0 ∧ jOk n (t.f0 + t.f1) ts = true := by
  simp [jOk, jBad] at h
  exact ⟨by omega, by omega, by omega, by omega, h.2⟩
theorem jMid_length (s : List UInt8) (t : S34) (h0 : 0 ≤ t.f0) (h1 : 0 ≤ t.f1) (h : t.f1 ≤ s.length - t.f0) : ((jMid s t).length : Int) = t.f1 + jDif t := by
  unfold jMid jDif
  split
  · simp only [List.length_take, List.length_drop]; omega
  · simp only [Array.length_toList]
    have : t.f2.data.size = t.f2.size := rfl
    omega
theorem jAll_length (s : List UInt8) : ∀ (l : List S34) (at_ : Int), 0 ≤ at_ → at_ ≤ s.length → jOk s.length at_ l = true → ((jAll s at_ l).length : Int) = (s.length - at_) + jSum l
  | [], at_, h0, h1, _ => by simp only [jAll, jSum, List.length_drop]; omega
  | t :: ts, at_, h0, h1, h => by
    obtain ⟨a, b, c, d, e⟩ := jOk_cons h
    have ih := jAll_length s ts (t.f0 + t.f1) (by omega) (by omega) e
    have hm := jMid_length s t (by omega) c d
    simp only [jAll, jSum, List.length_append, List.length_take, List.length_drop]
    omega
theorem jSum_bd : ∀ (l : List S34) (n at_ : Int), 0 ≤ at_ → jFits l = true → jOk n at_ l = true → -(n * l.length) ≤ jSum l ∧ jSum l ≤ 140737488355328 * l.length
  | [], _, _, _, _, _ => by simp [jSum]
  | t :: ts, n, at_, h0, hf, h => by
    obtain ⟨a, b, c, d, e⟩ := jOk_cons h
    simp only [jFits, List.all_cons, Bool.and_eq_true, decide_eq_true_eq] at hf
    obtain ⟨i1, i2⟩ := jSum_bd ts n (t.f0 + t.f1) (by omega) hf.2 e
    simp only [jSum, List.length_cons, jDif]
    have := hf.1
    push_cast
    rw [Int.mul_add, Int.mul_add]
    split <;> omega
theorem drop_rd (l : List S34) (k : Nat) (h : k < l.length) : l.drop k = rd_T34 l k :: l.drop (k + 1) := by
  rw [List.drop_eq_getElem_cons h]
  simp [rd_T34, List.getD_eq_getElem?_getD, List.getElem?_eq_getElem h]

end Go.Proofs.Ytfpfdmenhgageaa.P
