/- CorpusJoin: of any text and tokens the program's Join and the document's give the same text and error, and the tokens stay as they were. -/
import Derived.Test.YtfpfdmenhgageaaPRd
import Derived.Test.YtfpfdmenhgageaaPx14
namespace Go.Proofs.Ytfpfdmenhgageaa.Pure
open Go.RowKit Go.Proofs.Ytfpfdmenhgageaa.P Go.Proofs.YtfpfdmenhgageaaW.PrintWords Go.Proofs.YtfpfdmenhgageaaW.PrintLast Go.Proofs.YtfpfdmenhgageaaW.PrintMore

theorem awake_ok : ∃ k, cognatelaw24_awake.f k = some true := ⟨10, by decide +kernel⟩

theorem same_l0 (l : List S34) (hl : l.length < 9223372036854775807) : ∀ (d k : Nat) (i : Nat), l.length - i = d → i ≤ l.length → d < k → cognateref24_SameTokens.l0 k l l i = some true := by
  intro d
  induction d with
  | zero =>
    intro k i hd hi hk
    obtain ⟨k, rfl⟩ : ∃ m, k = m + 1 := ⟨k - 1, by omega⟩
    simp only [cognateref24_SameTokens.l0]
    rw [if_neg (by omega)]
  | succ d ih =>
    intro k i hd hi hk
    obtain ⟨k, rfl⟩ : ∃ m, k = m + 1 := ⟨k - 1, by omega⟩
    simp only [cognateref24_SameTokens.l0]
    rw [if_pos (by omega), if_pos (by omega), if_pos (by omega)]
    rw [if_neg (by simp)]
    rw [show wrap64 ((i : Int) + 1) = ((i + 1 : Nat) : Int) from by unfold wrap64; omega]
    exact ih k (i + 1) (by omega) (by omega) (by omega)

theorem same_ok (l : List S34) (hl : l.length < 9223372036854775807) : cognateref24_SameTokens.f (l.length + 1) l l = some true := by
  unfold cognateref24_SameTokens.f
  rw [if_pos rfl]
  exact same_l0 l hl l.length (l.length + 1) 0 (by omega) (by omega) (by omega)

theorem spec_some (a0 : ByteArray) (l1 : List S34) (hf : jFits l1 = true) : ∃ r, joinSpec a0 l1 = some r := by
  unfold joinSpec
  split
  · exact ⟨_, rfl⟩
  · split
    · exact ⟨_, rfl⟩
    · rw [if_neg (by simp [hf])]
      split
      · exact ⟨_, rfl⟩
      · split
        · exact ⟨_, rfl⟩
        · exact ⟨_, rfl⟩

theorem CorpusJoin : ∀ (a0 : ByteArray) (l1 : List (S34)), (a0.size ≤ 140737488351232) → (l1.length * 40 ≤ 140737488351232 ∧ ∀ y ∈ l1, wfS34 y) → ∃ k, cognatelaw24_CorpusJoin.f k a0 l1 = some true := by
  intro a0 l1 hs ⟨hl, hw⟩
  obtain ⟨ka, ha⟩ := awake_ok
  have hf : jFits l1 = true := by
    unfold jFits
    rw [List.all_eq_true]
    intro t ht
    have := (hw t ht).2.2.1
    simpa using Nat.le_trans this (by decide)
  obtain ⟨r, hr⟩ := spec_some a0 l1 hf
  have hj : ∀ k b, l1.length + 2 ≤ k → cognatelaw24_CorpusJoin.j0 k a0 l1 b = some true := by
    intro k b hk
    obtain ⟨k, rfl⟩ : ∃ m, k = m + 1 := ⟨k - 1, by omega⟩
    cases b with
    | true => simp [cognatelaw24_CorpusJoin.j0]
    | false =>
      simp only [cognatelaw24_CorpusJoin.j0]
      rw [if_neg (by simp), if_pos (by simp; omega)]
      simp only [List.nil_append, Option.bind_some, corpus_Join.f, cognateref24_Join.f, hr]
      rw [if_pos trivial, if_pos trivial]
      rw [at_rounds (fun q => cognateref24_SameTokens.mono l1 l1 q) (k := l1.length + 1) (k' := k) (by omega) (same_ok l1 (by omega))]
      rfl
  refine ⟨ka + l1.length + 2, ?_⟩
  unfold cognatelaw24_CorpusJoin.f
  rw [at_rounds (fun q => cognatelaw24_awake.mono q) (k := ka) (by omega) ha]
  simp only [Option.bind_some, if_true, cognatelaw24_long.f]
  by_cases h4 : (a0.size : Int) > 4000
  · rw [if_pos h4]
    simp only [Option.bind_some]
    split
    · exact hj _ _ (by omega)
    · split
      · exact hj _ _ (by omega)
      · exact hj _ _ (by omega)
  · rw [if_neg h4]
    simp only [Option.bind_some]
    split
    · exact hj _ _ (by omega)
    · split
      · exact hj _ _ (by omega)
      · exact hj _ _ (by omega)
end Go.Proofs.Ytfpfdmenhgageaa.Pure
