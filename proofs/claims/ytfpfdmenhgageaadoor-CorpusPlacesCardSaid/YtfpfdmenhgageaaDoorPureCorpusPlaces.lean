import Derived.Test.YtfpfdmenhgageaaDoorCRd
import Derived.Test.YtfpfdmenhgageaaDoorCx11
namespace Go.Proofs.YtfpfdmenhgageaaDoor.Pure
open Go.RowKit Go.Proofs.YtfpfdmenhgageaaDoor.C Go.Proofs.YtfpfdmenhgageaaDoorW.PrintWords Go.Proofs.YtfpfdmenhgageaaDoorW.PrintLast Go.Proofs.YtfpfdmenhgageaaDoorW.PrintMore
set_option linter.unusedVariables false
set_option linter.unusedSimpArgs false
theorem w64 {n : Int} (h0 : -9223372036854775808 ≤ n) (h1 : n ≤ 9223372036854775807) : wrap64 n = n := by unfold wrap64; omega
-- a place's rune in a part of a text; pieces of a part
theorem decodeN_cut (n m b0 b1 b2 b3 c1 c2 c3 : Nat) (h1 : 1 < m → c1 = b1) (h2 : 2 < m → c2 = b2) (h3 : 3 < m → c3 = b3) (hn : m ≤ n) (hw : (Lib.decodeN n b0 b1 b2 b3).2 ≤ m) : Lib.decodeN m b0 c1 c2 c3 = Lib.decodeN n b0 b1 b2 b3 := by
  unfold Lib.decodeN at hw ⊢
  by_cases p0 : b0 < 128
  · rw [if_pos p0, if_pos p0]
  rw [if_neg p0] at hw
  rw [if_neg p0, if_neg p0]
  by_cases p1 : b0 / 32 = 6 ∧ (1 < n ∧ b1 / 64 = 2)
  · rw [if_pos p1] at hw ⊢
    by_cases q1 : b0 % 32 * 64 + b1 % 64 ≥ 128
    · rw [if_pos q1] at hw ⊢
      have a1 : 1 < m := hw
      obtain rfl := h1 a1
      rw [if_pos ⟨p1.1, a1, p1.2.2⟩, if_pos q1]
    · rw [if_neg q1]
      by_cases a1 : 1 < m
      · obtain rfl := h1 a1
        rw [if_pos ⟨p1.1, a1, p1.2.2⟩, if_neg q1]
      · rw [if_neg (fun h => a1 h.2.1), if_neg (fun h => by omega), if_neg (fun h => by omega)]
  · have n1 : ¬ (b0 / 32 = 6 ∧ (1 < m ∧ c1 / 64 = 2)) := fun h => p1 ⟨h.1, by omega, by rw [← h1 h.2.1]; exact h.2.2⟩
    rw [if_neg p1] at hw ⊢
    rw [if_neg n1]
    by_cases p2 : b0 / 16 = 14 ∧ (1 < n ∧ b1 / 64 = 2) ∧ (2 < n ∧ b2 / 64 = 2)
    · rw [if_pos p2] at hw ⊢
      split at hw
      · rename_i q2
        have a2 : 2 < m := hw
        obtain rfl := h1 (by omega)
        obtain rfl := h2 a2
        rw [if_pos ⟨p2.1, ⟨by omega, p2.2.1.2⟩, ⟨a2, p2.2.2.2⟩⟩]
      · rename_i q2
        rw [if_neg q2]
        by_cases a2 : 2 < m
        · obtain rfl := h1 (by omega)
          obtain rfl := h2 a2
          rw [if_pos ⟨p2.1, ⟨by omega, p2.2.1.2⟩, ⟨a2, p2.2.2.2⟩⟩, if_neg q2]
        · rw [if_neg (fun h => a2 h.2.2.1), if_neg (fun h => by omega)]
    · have n2 : ¬ (b0 / 16 = 14 ∧ (1 < m ∧ c1 / 64 = 2) ∧ (2 < m ∧ c2 / 64 = 2)) := fun h => p2 ⟨h.1, ⟨by omega, by rw [← h1 h.2.1.1]; exact h.2.1.2⟩, ⟨by omega, by rw [← h2 h.2.2.1]; exact h.2.2.2⟩⟩
      rw [if_neg p2] at hw ⊢
      rw [if_neg n2]
      by_cases p3 : b0 / 8 = 30 ∧ (1 < n ∧ b1 / 64 = 2) ∧ (2 < n ∧ b2 / 64 = 2) ∧ (3 < n ∧ b3 / 64 = 2)
      · rw [if_pos p3] at hw ⊢
        split at hw
        · rename_i q3
          have a3 : 3 < m := hw
          obtain rfl := h1 (by omega)
          obtain rfl := h2 (by omega)
          obtain rfl := h3 a3
          rw [if_pos ⟨p3.1, ⟨by omega, p3.2.1.2⟩, ⟨by omega, p3.2.2.1.2⟩, ⟨a3, p3.2.2.2.2⟩⟩]
        · rename_i q3
          rw [if_neg q3]
          by_cases a3 : 3 < m
          · obtain rfl := h1 (by omega)
            obtain rfl := h2 (by omega)
            obtain rfl := h3 a3
            rw [if_pos ⟨p3.1, ⟨by omega, p3.2.1.2⟩, ⟨by omega, p3.2.2.1.2⟩, ⟨a3, p3.2.2.2.2⟩⟩, if_neg q3]
          · rw [if_neg (fun h => a3 h.2.2.2.1)]
      · have n3 : ¬ (b0 / 8 = 30 ∧ (1 < m ∧ c1 / 64 = 2) ∧ (2 < m ∧ c2 / 64 = 2) ∧ (3 < m ∧ c3 / 64 = 2)) := fun h => p3 ⟨h.1, ⟨by omega, by rw [← h1 h.2.1.1]; exact h.2.1.2⟩, ⟨by omega, by rw [← h2 h.2.2.1.1]; exact h.2.2.1.2⟩, ⟨by omega, by rw [← h3 h.2.2.2.1]; exact h.2.2.2.2⟩⟩
        rw [if_neg p3, if_neg n3]
theorem get_cut (s : ByteArray) (i j k : Nat) (h : i + k < j) (hj : j ≤ s.size) : (s.extract i j).get! k = s.get! (i + k) := by
  have hs : s.size = s.data.size := rfl
  show (s.extract i j).data[k]! = s.data[i + k]!
  simp only [ByteArray.data_extract, getElem!_def]
  rw [Array.getElem?_extract]
  rw [if_pos (by rw [← hs]; omega)]
/-- What a place's rune is does not hang on what stands far behind. -/
theorem decode_cut (s : ByteArray) (i p j : Nat) (hp : i + p < j) (hj : j ≤ s.size) (hw : i + p + (Utf8.decode s (i + p)).2 ≤ j) : Utf8.decode (s.extract i j) p = Utf8.decode s (i + p) := by
  rw [Lib.decode_at s (i + p)] at hw
  rw [Lib.decode_at, Lib.decode_at s (i + p)]
  have hsz : (s.extract i j).size = j - i := by simp [ByteArray.size_extract]; omega
  rw [hsz, show (s.extract i j).get! p = s.get! (i + p) from get_cut s i j p (by omega) hj]
  refine decodeN_cut _ _ _ _ _ _ _ _ _ (fun h => ?_) (fun h => ?_) (fun h => ?_) (by omega) (by omega)
  · rw [get_cut s i j (p + 1) (by omega) hj, Nat.add_assoc]
  · rw [get_cut s i j (p + 2) (by omega) hj, Nat.add_assoc]
  · rw [get_cut s i j (p + 3) (by omega) hj, Nat.add_assoc]
theorem pcs_shift (s : ByteArray) (i j : Nat) (hj : j ≤ s.size) : ∀ (f g p : Nat) (l : List S97) (rest : List S97), pcs s f (i + p) = l ++ rest → (∀ q ∈ l, q.f1 + q.f2 ≤ j) → (rest = [] → i + p ≤ j) → (∀ q ∈ rest, (j : Int) ≤ q.f1) → s.size ≤ i + p + f → (i + p ≤ j) → j - i ≤ p + g →
    pcs (s.extract i j) g p = l.map (fun q => ⟨q.f0, q.f1 - i, q.f2, q.f3⟩)
  | 0, g, p, l, rest, h, h1, h2, h3, h4, h5, h6 => by
    have : l = [] := by simp [pcs] at h; exact h.1
    subst this
    rw [pcs_end _ _ _ (by simp [ByteArray.size_extract]; omega)]
    rfl
  | f + 1, g, p, l, rest, h, h1, h2, h3, h4, h5, h6 => by
    by_cases hp : i + p < s.size
    · rw [pcs, if_pos hp] at h
      rcases l with _ | ⟨q, l⟩
      · simp only [List.nil_append] at h
        have := h3 (pcAt s (i + p)) (by rw [← h]; simp)
        simp only [pcAt] at this
        rw [pcs_end _ _ _ (by simp [ByteArray.size_extract]; omega)]
        rfl
      · simp only [List.cons_append, List.cons.injEq] at h
        obtain ⟨rfl, h⟩ := h
        have hq := h1 _ (List.mem_cons_self ..)
        simp only [pcAt] at hq
        have hw := Lib.decode_width_pos s (i + p) hp
        obtain ⟨g, rfl⟩ : ∃ q, g = q + 1 := ⟨g - 1, by omega⟩
        rw [pcs, if_pos (by simp [ByteArray.size_extract]; omega)]
        have hd := decode_cut s i p j (by omega) hj (by omega)
        rw [hd]
        simp only [List.map_cons, List.cons.injEq]
        refine ⟨?_, ?_⟩
        · simp only [pcAt, hd]
          congr 1
          omega
        · refine pcs_shift s i j hj f g (p + (Utf8.decode s (i + p)).2) l rest (by rw [← h]; congr 1; omega) (fun q hq => h1 q (List.mem_cons_of_mem _ hq)) (fun _ => by omega) h3 (by omega) (by omega) (by omega)
    · rw [pcs_end s _ _ hp] at h
      have : l = [] := by
        cases l with
        | nil => rfl
        | cons => simp at h
      subst this
      rw [pcs_end _ _ _ (by simp [ByteArray.size_extract]; omega)]
      rfl
theorem pcs_chain (s : ByteArray) : ∀ f i, (pcs s f i).Pairwise (fun p q => p.f1 + p.f2 ≤ q.f1) ∧ ∀ p ∈ pcs s f i, (i : Int) ≤ p.f1 ∧ p.f1 + p.f2 ≤ s.size ∧ 1 ≤ p.f2
  | 0, i => by simp [pcs]
  | f + 1, i => by
    unfold pcs
    split
    · rename_i hi
      have hw := Lib.decode_width_pos s i hi
      have hl := (decode_le65 s i hi).2
      obtain ⟨h1, h2⟩ := pcs_chain s f (i + (Utf8.decode s i).2)
      refine ⟨List.pairwise_cons.2 ⟨fun q hq => ?_, h1⟩, fun p hp => ?_⟩
      · have := (h2 q hq).1
        simp only [pcAt]
        omega
      · rcases List.mem_cons.1 hp with rfl | hp
        · simp only [pcAt]; omega
        · have := h2 p hp; omega
    · simp
theorem pcs_drop (s : ByteArray) : ∀ k f i, k ≤ (pcs s f i).length → s.size ≤ i + f → i ≤ s.size → ∃ f' i', pcs s f' i' = (pcs s f i).drop k ∧ s.size ≤ i' + f' ∧ i' ≤ s.size ∧ (∀ q, (pcs s f i)[k]? = some q → (i' : Int) = q.f1) ∧ ((pcs s f i)[k]? = none → i' = s.size)
  | 0, f, i, _, h1, h2 => by
    refine ⟨f, i, by simp, h1, h2, fun q hq => ?_, fun hq => ?_⟩
    · cases f with
      | zero => simp [pcs] at hq
      | succ f =>
        unfold pcs at hq
        split at hq
        · simp only [List.getElem?_cons_zero, Option.some.injEq] at hq
          rw [← hq]; rfl
        · simp at hq
    · by_cases hi : i < s.size
      · obtain ⟨f, rfl⟩ : ∃ q, f = q + 1 := ⟨f - 1, by omega⟩
        rw [pcs, if_pos hi] at hq
        simp at hq
      · omega
  | k + 1, f, i, hk, h1, h2 => by
    cases f with
    | zero => simp [pcs] at hk
    | succ f =>
      by_cases hi : i < s.size
      · have e : pcs s (f + 1) i = pcAt s i :: pcs s f (i + (Utf8.decode s i).2) := by rw [pcs, if_pos hi]
        have hw := Lib.decode_width_pos s i hi
        have hl := (decode_le65 s i hi).2
        rw [e] at hk ⊢
        obtain ⟨f', i', a, b, c, d, g⟩ := pcs_drop s k f (i + (Utf8.decode s i).2) (by simpa using hk) (by omega) hl
        exact ⟨f', i', by simpa using a, b, c, fun q hq => d q (by simpa using hq), fun hq => g (by simpa using hq)⟩
      · rw [pcs_end s _ _ hi] at hk
        simp at hk
theorem plc_at (s : ByteArray) (k : Nat) (hk : k ≤ (pieces s).length) : ∃ f, pcs s f (plc s k).toNat = (pieces s).drop k ∧ s.size ≤ (plc s k).toNat + f ∧ (plc s k).toNat ≤ s.size ∧ 0 ≤ plc s k := by
  obtain ⟨f', i', a, b, c, d, g⟩ := pcs_drop s k s.size 0 hk (by omega) (by omega)
  have : plc s k = (i' : Int) := by
    unfold plc
    by_cases e : k = (pieces s).length
    · rw [if_pos (by omega)]
      rw [g (List.getElem?_eq_none (by rw [e]; exact Nat.le_refl _))]
    · rw [if_neg (by omega), rd_pc _ _ (by omega) (by omega)]
      exact (d _ (List.getElem?_eq_getElem (l := pieces s) (i := k) (by omega))).symm
  rw [this]
  exact ⟨f', a, b, c, by omega⟩
theorem runes_mid (s : ByteArray) (lo hi : Nat) (h1 : lo ≤ hi) (h2 : hi ≤ (pieces s).length) : runesOf (partS s (lo : Int) (hi : Int)) = (((pieces s).drop lo).take (hi - lo)).map (·.f0) := by
  obtain ⟨f1, a1, b1, c1, d1⟩ := plc_at s lo (by omega)
  obtain ⟨f2, a2, b2, c2, d2⟩ := plc_at s hi h2
  obtain ⟨p1, p2, p3⟩ := plc_ok s (lo : Int) (hi : Int) (by omega) (by omega) (by omega)
  unfold runesOf partS pieces
  have hsz : (s.extract (plc s lo).toNat (plc s hi).toNat).size = (plc s hi).toNat - (plc s lo).toNat := by simp [ByteArray.size_extract]; omega
  have hsplit : (pieces s).drop lo = ((pieces s).drop lo).take (hi - lo) ++ (pieces s).drop hi := by
    have := (List.take_append_drop (hi - lo) ((pieces s).drop lo)).symm
    rwa [List.drop_drop, show lo + (hi - lo) = hi by omega] at this
  have hch := pcs_chain s f1 (plc s lo).toNat
  rw [a1, hsplit] at hch
  rw [pcs_shift s (plc s lo).toNat (plc s hi).toNat c2 f1 _ 0 (((pieces s).drop lo).take (hi - lo)) ((pieces s).drop hi) (by rw [Nat.add_zero, a1, ← hsplit]) (fun q hq => ?_) (fun _ => by omega) (fun q hq => ?_) (by omega) (by omega) (by rw [hsz]; omega)]
  · rw [List.map_map]; rfl
  · have hall := hch.2 q (List.mem_append_left _ hq)
    by_cases e : hi = (pieces s).length
    · have : plc s (hi : Int) = (s.size : Int) := by unfold plc; exact if_pos (by omega)
      omega
    · have hm : (pieces s)[hi] ∈ (pieces s).drop hi := by
        rw [List.drop_eq_getElem_cons (by omega)]; exact List.mem_cons_self ..
      have := (List.pairwise_append.1 hch.1).2.2 q hq _ hm
      have hp : plc s (hi : Int) = ((pieces s)[hi]'(by omega)).f1 := by
        unfold plc
        rw [if_neg (by omega), rd_pc _ _ (by omega) (by omega)]
        rfl
      omega
  · rw [← a2] at hq
    have := ((pcs_chain s f2 (plc s hi).toNat).2 q hq).1
    omega
theorem back_one (s : ByteArray) (i : Nat) (hi : i < s.size) : runesOf (s.extract i (i + (Utf8.decode s i).2)) = [((Utf8.decode s i).1 : Int)] := by
  have hw := Lib.decode_width_pos s i hi
  have hl := (decode_le65 s i hi).2
  have hsz : (s.extract i (i + (Utf8.decode s i).2)).size = (Utf8.decode s i).2 := by simp [ByteArray.size_extract]; omega
  have hd := decode_cut s i 0 (i + (Utf8.decode s i).2) (by omega) hl (by simp)
  unfold runesOf pieces
  rw [hsz]
  obtain ⟨w, hw2⟩ : ∃ q, (Utf8.decode s i).2 = q + 1 := ⟨(Utf8.decode s i).2 - 1, by omega⟩
  rw [hw2] at hsz hd ⊢
  rw [pcs, if_pos (by omega), pcs_end _ _ _ (by rw [hd]; simp only [Nat.add_zero]; rw [hsz, hw2]; omega)]
  simp only [List.map_cons, List.map_nil, pcAt, hd, Nat.add_zero]
-- the reference's At, All, Back, mended
theorem bt_get (s : ByteArray) (i : Nat) (h : i < s.size) : bt s (i : Int) = ((s.get! i).toNat : Int) := by
  unfold bt
  rw [dif_pos (by simpa using h)]
  simp only [Int.toNat_natCast]
  congr 1
  congr 1
  exact (getElem!_pos s.data i h).symm
theorem bt_lt (s : ByteArray) (i : Int) : 0 ≤ bt s i ∧ bt s i ≤ 255 := bt_range s i
theorem rune_eq (r : Int) : cognateref01_Rune.f r = some (Utf8.valid r) := by
  unfold cognateref01_Rune.f Utf8.valid
  by_cases h0 : r ≥ 0
  · rw [if_pos h0]
    by_cases h1 : r ≤ 1114111
    · rw [if_pos h1]
      by_cases h2 : r < 55296
      · rw [if_pos h2]; simp [h0, h2]
      · rw [if_neg h2]
        by_cases h3 : r > 57343
        · simp [h3, h1]; omega
        · simp [h3]; omega
    · rw [if_neg h1]; simp; omega
  · rw [if_neg h0]; simp; omega
/-- A piece as a tuple. -/
def tup (p : S97) : Int × Int × Int × Bool := (p.f0, p.f1, p.f2, p.f3)
theorem tail_eq (b : Int) : cognateref01_tail.f b = some (decide (128 ≤ b ∧ b < 192)) := by
  unfold cognateref01_tail.f
  by_cases h : b ≥ 128
  · rw [if_pos h]; simp [h]
  · rw [if_neg h]; simp; omega
def badT (i : Int) : Int × Int × Int × Bool := (65533, i, 1, true)
/-- What the loop over a rune's tail comes to, of a rune of 'long' bytes whose first x9 are read as x7. -/
def tailB (s : ByteArray) (i long : Nat) : Nat → Nat → Int → Option Int
  | 0, _, r => some r
  | d + 1, j, r => if 128 ≤ bt s ((i + j : Nat) : Int) ∧ bt s ((i + j : Nat) : Int) < 192 then tailB s i long d (j + 1) (64 * r + (bt s ((i + j : Nat) : Int) - 128)) else none
theorem at_l0 (s : ByteArray) (hs : s.size ≤ 65536) (i long : Nat) (hl : long = 2 ∨ long = 3 ∨ long = 4) (hi : i + long ≤ s.size) : ∀ d j r, j + d = long → 0 ≤ r → (j = 1 → r < 32) ∧ (j = 2 → r < 2048) ∧ (j = 3 → r < 131072) → 1 ≤ j → ∀ k, d + 1 ≤ k →
    cognateref01_At.l0 k s (i : Int) (long : Int) r (j : Int) 65533 (i : Int) 1 true = some (match tailB s i long d j r with | none => badT i | some q => if q < rd [0, 0, 128, 2048, 65536] (long : Int) then badT i else if Utf8.valid q = true then (q, (i : Int), (long : Int), false) else badT i)
  | 0, j, r, hj, h0, h1, h2, k + 1, hk => by
    unfold cognateref01_At.l0
    rw [if_neg (by omega)]
    simp only [Option.bind_some, tailB]
    rw [if_pos (by omega), if_pos (by show (long : Int) < 5; omega), rune_eq]
    simp only [Option.bind_some]
    split
    · rfl
    · split <;> rfl
  | d + 1, j, r, hj, h0, h1, h2, k + 1, hk => by
    unfold cognateref01_At.l0
    have hw : wrap64 ((i : Int) + (j : Int)) = ((i + j : Nat) : Int) := by rw [w64 (by omega) (by omega)]; omega
    rw [if_pos (by omega), hw, if_pos (by omega), if_pos (by omega), tail_eq]
    simp only [Option.bind_some]
    have hb := bt_lt s ((i + j : Nat) : Int)
    by_cases hc : 128 ≤ bt s ((i + j : Nat) : Int) ∧ bt s ((i + j : Nat) : Int) < 192
    · rw [if_pos (by simpa using hc)]
      have e1 : (bt s ((i + j : Nat) : Int) - 128) % 256 = bt s ((i + j : Nat) : Int) - 128 := by omega
      have hr : r < 131072 := by omega
      have e2 : wrap32 (wrap32 (64 * r) + (bt s ((i + j : Nat) : Int) - 128)) = 64 * r + (bt s ((i + j : Nat) : Int) - 128) := by unfold wrap32; omega
      rw [e1, e2, w64 (by omega) (by omega), show ((j : Int) + 1) = ((j + 1 : Nat) : Int) by omega]
      rw [at_l0 s hs i long hl hi d (j + 1) _ (by omega) (by omega) (by omega) (by omega) k (by omega)]
      rw [show tailB s i long (d + 1) j r = tailB s i long d (j + 1) (64 * r + (bt s ((i + j : Nat) : Int) - 128)) by rw [tailB, if_pos hc]]
    · rw [if_neg (by simpa using hc)]
      rw [show tailB s i long (d + 1) j r = none by rw [tailB, if_neg hc]]
      rfl
theorem tup_of (s : ByteArray) (i r w : Nat) (h : Utf8.decode s i = (r, w)) : tup (pcAt s i) = ((r : Int), (i : Int), (w : Int), decide (r = 65533 ∧ w = 1)) := by
  simp [tup, pcAt, h]
theorem at_j2 (s : ByteArray) (hs : s.size ≤ 65536) (i long : Nat) (hi : i ≤ s.size) (hl : long = 2 ∨ long = 3 ∨ long = 4) (r : Int) (h0 : 0 ≤ r) (h1 : r < 32) (k : Nat) (hk : 8 ≤ k) :
    cognateref01_At.j2 k s (i : Int) (long : Int) r = some (if i + long ≤ s.size then (match tailB s i long (long - 1) 1 r with | none => badT i | some q => if q < rd [0, 0, 128, 2048, 65536] (long : Int) then badT i else if Utf8.valid q = true then (q, (i : Int), (long : Int), false) else badT i) else badT i) := by
  obtain ⟨k, rfl⟩ : ∃ q, k = q + 1 := ⟨k - 1, by omega⟩
  rw [cognateref01_At.j2]
  rw [if_neg (by omega)]
  obtain ⟨k, rfl⟩ : ∃ q, k = q + 1 := ⟨k - 1, by omega⟩
  rw [cognateref01_At.j3]
  rw [w64 (by omega) (by omega)]
  by_cases h : i + long ≤ s.size
  · rw [if_neg (by simp; omega), if_pos h]
    have := at_l0 s hs i long hl h (long - 1) 1 r (by omega) h0 (by omega) (by omega) k (by omega)
    exact this
  · rw [if_pos (by simp; omega), if_neg h]
    rfl
theorem at_bad (s : ByteArray) (i : Nat) (k : Nat) (hk : 8 ≤ k) (r : Int) : cognateref01_At.j2 k s (i : Int) 0 r = some (badT i) := by
  obtain ⟨k, rfl⟩ : ∃ q, k = q + 1 := ⟨k - 1, by omega⟩
  rw [cognateref01_At.j2]
  rw [if_pos rfl]
  obtain ⟨k, rfl⟩ : ∃ q, k = q + 1 := ⟨k - 1, by omega⟩
  rw [cognateref01_At.j3]
  rw [if_pos rfl]
  rfl
theorem valid_iff (q : Int) : Utf8.valid q = true ↔ (0 ≤ q ∧ q < 55296) ∨ (57344 ≤ q ∧ q ≤ 1114111) := by
  unfold Utf8.valid
  simp
theorem at_eq (s : ByteArray) (hs : s.size ≤ 65536) (i : Nat) (hi : i < s.size) (k : Nat) (hk : 12 ≤ k) : cognateref01_At.f k s (i : Int) = some (tup (pcAt s i)) := by
  obtain ⟨b0, hb0⟩ : ∃ b, b = (s.get! i).toNat := ⟨_, rfl⟩
  obtain ⟨b1, hb1⟩ : ∃ b, b = (s.get! (i + 1)).toNat := ⟨_, rfl⟩
  obtain ⟨b2, hb2⟩ : ∃ b, b = (s.get! (i + 2)).toNat := ⟨_, rfl⟩
  obtain ⟨b3, hb3⟩ : ∃ b, b = (s.get! (i + 3)).toNat := ⟨_, rfl⟩
  obtain ⟨n, hn⟩ : ∃ n, n = s.size - i := ⟨_, rfl⟩
  have hd := Lib.decode_at s i
  rw [← hb0, ← hb1, ← hb2, ← hb3, ← hn] at hd
  have t0 : bt s (i : Int) = b0 := by rw [bt_get s i hi, hb0]
  have t1 : 1 < n → bt s ((i + 1 : Nat) : Int) = b1 := fun h => by rw [bt_get s (i + 1) (by omega), hb1]
  have t2 : 2 < n → bt s ((i + 2 : Nat) : Int) = b2 := fun h => by rw [bt_get s (i + 2) (by omega), hb2]
  have t3 : 3 < n → bt s ((i + 3 : Nat) : Int) = b3 := fun h => by rw [bt_get s (i + 3) (by omega), hb3]
  have l0 := bt_lt s (i : Int)
  have l1 : b1 ≤ 255 := by rw [hb1]; exact Nat.le_of_lt_succ (s.get! (i + 1)).toNat_lt
  have l2 : b2 ≤ 255 := by rw [hb2]; exact Nat.le_of_lt_succ (s.get! (i + 2)).toNat_lt
  have l3 : b3 ≤ 255 := by rw [hb3]; exact Nat.le_of_lt_succ (s.get! (i + 3)).toNat_lt
  clear hb0 hb1 hb2 hb3
  unfold cognateref01_At.f
  rw [if_pos (by omega), if_pos (by omega), t0]
  rw [t0] at l0
  have bad : Lib.decodeN n b0 b1 b2 b3 = (65533, 1) → badT i = tup (pcAt s i) := fun h => by rw [tup_of s i _ _ (hd.trans h)]; rfl
  by_cases c0 : (b0 : Int) < 128
  · have c0n : b0 < 128 := by omega
    have hD : Lib.decodeN n b0 b1 b2 b3 = (b0, 1) := by unfold Lib.decodeN; exact if_pos c0n
    rw [if_pos c0, tup_of s i b0 1 (hd.trans hD)]
    have : wrap32 (b0 : Int) = b0 := by unfold wrap32; omega
    have hne : ¬ (b0 = 65533 ∧ 1 = 1) := fun h => absurd h.1 (Nat.ne_of_lt (Nat.lt_of_lt_of_le c0n (by decide)))
    rw [this, decide_eq_false hne]
    rfl
  rw [if_neg c0]
  have j0 : ∀ x, cognateref01_At.j0 k s (i : Int) (b0 : Int) 0 0 x = if x = true then cognateref01_At.j2 (k - 1) s (i : Int) 2 (((b0 : Int) - 192) % 256) else if (b0 : Int) ≥ 224 ∧ (b0 : Int) < 240 then cognateref01_At.j2 (k - 2) s (i : Int) 3 (((b0 : Int) - 224) % 256) else if (b0 : Int) ≥ 240 ∧ (b0 : Int) < 248 then cognateref01_At.j2 (k - 2) s (i : Int) 4 (((b0 : Int) - 240) % 256) else cognateref01_At.j2 (k - 2) s (i : Int) 0 0 := fun x => by
    obtain ⟨k, rfl⟩ : ∃ q, k = q + 2 := ⟨k - 2, by omega⟩
    show cognateref01_At.j0 ((k + 1) + 1) s (i : Int) (b0 : Int) 0 0 x = _
    rw [cognateref01_At.j0]
    simp only [Nat.add_sub_cancel, show k + 2 - 1 = k + 1 by omega]
    cases x with
    | true => rfl
    | false =>
      rw [if_neg Bool.false_ne_true, if_neg Bool.false_ne_true]
      by_cases a : (b0 : Int) ≥ 224
      · rw [if_pos a, cognateref01_At.j1]
        by_cases b : (b0 : Int) < 240
        · rw [decide_eq_true b, if_pos rfl, if_pos (show (b0 : Int) ≥ 224 ∧ (b0 : Int) < 240 from ⟨a, b⟩)]
        · have c : (b0 : Int) ≥ 240 := by omega
          rw [decide_eq_false b, if_neg Bool.false_ne_true, if_pos c, if_neg (show ¬ ((b0 : Int) ≥ 224 ∧ (b0 : Int) < 240) from fun h => b h.2)]
          by_cases d : (b0 : Int) < 248
          · rw [if_pos d, if_pos (show (b0 : Int) ≥ 240 ∧ (b0 : Int) < 248 from ⟨c, d⟩)]
          · rw [if_neg d, if_neg (show ¬ ((b0 : Int) ≥ 240 ∧ (b0 : Int) < 248) from fun h => d h.2)]
      · have c : ¬ (b0 : Int) ≥ 240 := by omega
        rw [if_neg a, cognateref01_At.j1, if_neg Bool.false_ne_true, if_neg c, if_neg (show ¬ ((b0 : Int) ≥ 224 ∧ (b0 : Int) < 240) from fun h => a h.1), if_neg (show ¬ ((b0 : Int) ≥ 240 ∧ (b0 : Int) < 248) from fun h => c h.1)]
  by_cases c1 : (b0 : Int) ≥ 192 ∧ (b0 : Int) < 224
  · rw [if_pos c1.1, j0, if_pos (by simpa using c1.2), show (((b0 : Int) - 192) % 256) = (b0 : Int) - 192 by omega, show (2 : Int) = ((2 : Nat) : Int) from rfl, at_j2 s hs i 2 (by omega) (by omega) _ (by omega) (by omega) _ (by omega)]
    by_cases e : 1 < n
    · rw [if_pos (by omega)]
      simp only [tailB, t1 e]
      by_cases p : 128 ≤ (b1 : Int) ∧ (b1 : Int) < 192
      · rw [if_pos p]
        simp only
        by_cases q : b0 % 32 * 64 + b1 % 64 ≥ 128
        · have hD : Lib.decodeN n b0 b1 b2 b3 = (b0 % 32 * 64 + b1 % 64, 2) := by unfold Lib.decodeN; rw [if_neg (by omega), if_pos (by omega), if_pos q]
          rw [if_neg (by simp [rd]; omega), if_pos ((valid_iff _).2 (by omega)), tup_of s i _ _ (hd.trans hD), decide_eq_false (fun h => absurd h.2 (by decide))]
          congr 2
          omega
        · have hD : Lib.decodeN n b0 b1 b2 b3 = (65533, 1) := by unfold Lib.decodeN; rw [if_neg (by omega), if_pos (by omega), if_neg q]
          rw [if_pos (by simp [rd]; omega), bad hD]
      · rw [if_neg p]
        simp only
        rw [bad (by unfold Lib.decodeN; rw [if_neg (by omega), if_neg (by omega), if_neg (by omega), if_neg (by omega)])]
    · rw [if_neg (by omega), bad (by unfold Lib.decodeN; rw [if_neg (by omega), if_neg (by omega), if_neg (by omega), if_neg (by omega)])]
  have hj0 : (if (b0 : Int) ≥ 192 then cognateref01_At.j0 k s (i : Int) (b0 : Int) 0 0 (decide ((b0 : Int) < 224)) else cognateref01_At.j0 k s (i : Int) (b0 : Int) 0 0 false) = cognateref01_At.j0 k s (i : Int) (b0 : Int) 0 0 false := by
    by_cases h : (b0 : Int) ≥ 192
    · rw [if_pos h, decide_eq_false (by omega)]
    · rw [if_neg h]
  rw [hj0, j0, if_neg (by simp)]
  by_cases c2 : (b0 : Int) ≥ 224 ∧ (b0 : Int) < 240
  · rw [if_pos c2, show (((b0 : Int) - 224) % 256) = (b0 : Int) - 224 by omega, show (3 : Int) = ((3 : Nat) : Int) from rfl, at_j2 s hs i 3 (by omega) (by omega) _ (by omega) (by omega) _ (by omega)]
    by_cases e : 2 < n
    · rw [if_pos (by omega)]
      simp only [tailB, t1 (by omega), t2 e]
      by_cases p1 : 128 ≤ (b1 : Int) ∧ (b1 : Int) < 192
      · rw [if_pos p1]
        by_cases p2 : 128 ≤ (b2 : Int) ∧ (b2 : Int) < 192
        · rw [if_pos p2]
          simp only
          by_cases q : b0 % 16 * 4096 + b1 % 64 * 64 + b2 % 64 ≥ 2048 ∧ (b0 % 16 * 4096 + b1 % 64 * 64 + b2 % 64 < 55296 ∨ (57344 ≤ b0 % 16 * 4096 + b1 % 64 * 64 + b2 % 64 ∧ b0 % 16 * 4096 + b1 % 64 * 64 + b2 % 64 ≤ 1114111))
          · have hD : Lib.decodeN n b0 b1 b2 b3 = (b0 % 16 * 4096 + b1 % 64 * 64 + b2 % 64, 3) := by unfold Lib.decodeN; rw [if_neg (by omega), if_neg (by omega), if_pos (by omega), if_pos q]
            rw [if_neg (by simp [rd]; omega), if_pos ((valid_iff _).2 (by omega)), tup_of s i _ _ (hd.trans hD), decide_eq_false (fun h => absurd h.2 (by decide))]
            congr 2
            omega
          · have hD : Lib.decodeN n b0 b1 b2 b3 = (65533, 1) := by unfold Lib.decodeN; rw [if_neg (by omega), if_neg (by omega), if_pos (by omega), if_neg q]
            by_cases q1 : b0 % 16 * 4096 + b1 % 64 * 64 + b2 % 64 ≥ 2048
            · rw [if_neg (by simp [rd]; omega), if_neg (fun h => by rw [valid_iff] at h; omega), bad hD]
            · rw [if_pos (by simp [rd]; omega), bad hD]
        · rw [if_neg p2]
          simp only
          rw [bad (by unfold Lib.decodeN; rw [if_neg (by omega), if_neg (by omega), if_neg (by omega), if_neg (by omega)])]
      · rw [if_neg p1]
        simp only
        rw [bad (by unfold Lib.decodeN; rw [if_neg (by omega), if_neg (by omega), if_neg (by omega), if_neg (by omega)])]
    · rw [if_neg (by omega), bad (by unfold Lib.decodeN; rw [if_neg (by omega), if_neg (by omega), if_neg (by omega), if_neg (by omega)])]
  rw [if_neg c2]
  by_cases c3 : (b0 : Int) ≥ 240 ∧ (b0 : Int) < 248
  · rw [if_pos c3, show (((b0 : Int) - 240) % 256) = (b0 : Int) - 240 by omega, show (4 : Int) = ((4 : Nat) : Int) from rfl, at_j2 s hs i 4 (by omega) (by omega) _ (by omega) (by omega) _ (by omega)]
    by_cases e : 3 < n
    · rw [if_pos (by omega)]
      simp only [tailB, t1 (by omega), t2 (by omega), t3 e]
      by_cases p1 : 128 ≤ (b1 : Int) ∧ (b1 : Int) < 192
      · rw [if_pos p1]
        by_cases p2 : 128 ≤ (b2 : Int) ∧ (b2 : Int) < 192
        · rw [if_pos p2]
          by_cases p3 : 128 ≤ (b3 : Int) ∧ (b3 : Int) < 192
          · rw [if_pos p3]
            simp only
            by_cases q : b0 % 8 * 262144 + b1 % 64 * 4096 + b2 % 64 * 64 + b3 % 64 ≥ 65536 ∧ (b0 % 8 * 262144 + b1 % 64 * 4096 + b2 % 64 * 64 + b3 % 64 < 55296 ∨ (57344 ≤ b0 % 8 * 262144 + b1 % 64 * 4096 + b2 % 64 * 64 + b3 % 64 ∧ b0 % 8 * 262144 + b1 % 64 * 4096 + b2 % 64 * 64 + b3 % 64 ≤ 1114111))
            · have hD : Lib.decodeN n b0 b1 b2 b3 = (b0 % 8 * 262144 + b1 % 64 * 4096 + b2 % 64 * 64 + b3 % 64, 4) := by unfold Lib.decodeN; rw [if_neg (by omega), if_neg (by omega), if_neg (by omega), if_pos (by omega), if_pos q]
              rw [if_neg (by simp [rd]; omega), if_pos ((valid_iff _).2 (by omega)), tup_of s i _ _ (hd.trans hD), decide_eq_false (fun h => absurd h.2 (by decide))]
              congr 2
              omega
            · have hD : Lib.decodeN n b0 b1 b2 b3 = (65533, 1) := by unfold Lib.decodeN; rw [if_neg (by omega), if_neg (by omega), if_neg (by omega), if_pos (by omega), if_neg q]
              by_cases q1 : b0 % 8 * 262144 + b1 % 64 * 4096 + b2 % 64 * 64 + b3 % 64 ≥ 65536
              · rw [if_neg (by simp [rd]; omega), if_neg (fun h => by rw [valid_iff] at h; omega), bad hD]
              · rw [if_pos (by simp [rd]; omega), bad hD]
          · rw [if_neg p3]
            simp only
            rw [bad (by unfold Lib.decodeN; rw [if_neg (by omega), if_neg (by omega), if_neg (by omega), if_neg (by omega)])]
        · rw [if_neg p2]
          simp only
          rw [bad (by unfold Lib.decodeN; rw [if_neg (by omega), if_neg (by omega), if_neg (by omega), if_neg (by omega)])]
      · rw [if_neg p1]
        simp only
        rw [bad (by unfold Lib.decodeN; rw [if_neg (by omega), if_neg (by omega), if_neg (by omega), if_neg (by omega)])]
    · rw [if_neg (by omega), bad (by unfold Lib.decodeN; rw [if_neg (by omega), if_neg (by omega), if_neg (by omega), if_neg (by omega)])]
  · rw [if_neg c3, at_bad s i _ (by omega), bad (by unfold Lib.decodeN; rw [if_neg (by omega), if_neg (by omega), if_neg (by omega), if_neg (by omega)])]
-- All, begin, Line
theorem all_l0 (s : ByteArray) (hs : s.size ≤ 65536) : ∀ f pos out, pos ≤ s.size → s.size ≤ pos + f → out.length ≤ pos → ∀ k, f + 15 ≤ k → cognateref01_All.l0 k s out (pos : Int) = some (out ++ pcs s f pos)
  | 0, pos, out, h0, h1, h2, k + 1, hk => by
    rw [cognateref01_All.l0, if_neg (by omega), pcs, List.append_nil]
  | f + 1, pos, out, h0, h1, h2, k + 1, hk => by
    rw [cognateref01_All.l0]
    by_cases hp : pos < s.size
    · have hw := Lib.decode_width_pos s pos hp
      have hl := (decode_le65 s pos hp).2
      have e : pcs s (f + 1) pos = pcAt s pos :: pcs s f (pos + (Utf8.decode s pos).2) := by rw [pcs, if_pos hp]
      rw [if_pos (by omega), at_eq s hs pos hp k (by omega), e]
      simp only [Option.bind_some]
      have hlen : out.length < 4398046511104 := by omega
      rw [if_pos hlen]
      have ew : wrap64 ((pos : Int) + (tup (pcAt s pos)).2.2.1) = ((pos + (Utf8.decode s pos).2 : Nat) : Int) := by
        show wrap64 ((pos : Int) + ((Utf8.decode s pos).2 : Int)) = _
        rw [w64 (by omega) (by omega)]; omega
      rw [ew, all_l0 s hs f _ _ hl (by omega) (by simp; omega) k (by omega)]
      simp [tup]
    · rw [if_neg (by omega), pcs_end s _ _ hp, List.append_nil]
theorem all_eq (s : ByteArray) (hs : s.size ≤ 65536) (k : Nat) (hk : s.size + 15 ≤ k) : cognateref01_All.f k s = some (pieces s) := by
  unfold cognateref01_All.f
  have := all_l0 s hs s.size 0 [] (by omega) (by omega) (by simp) k hk
  simpa [pieces] using this
def cntN (s : ByteArray) (i : Nat) : Nat := (s.data.toList.take i).count 10
theorem data_at (s : ByteArray) (i : Nat) (h : i < s.size) : s.data.toList[i]? = some (s.data[i]'h) := by
  rw [Array.getElem?_toList]; exact Array.getElem?_eq_getElem h
theorem bt_data (s : ByteArray) (i : Nat) (h : i < s.size) : bt s (i : Int) = (((s.data[i]'h).toNat : Nat) : Int) := by
  unfold bt
  rw [dif_pos (by simpa using h)]
  simp only [Int.toNat_natCast]
  rfl
theorem cntN_succ (s : ByteArray) (i : Nat) (h : i < s.size) : cntN s (i + 1) = cntN s i + if bt s (i : Int) = 10 then 1 else 0 := by
  unfold cntN
  rw [List.take_add_one, data_at s i h, List.count_append, bt_data s i h]
  congr 1
  have e : (s.data[i]'h = 10) ↔ ((((s.data[i]'h).toNat : Nat) : Int) = 10) := by
    constructor
    · intro q; rw [q]; rfl
    · intro q
      apply UInt8.toNat_inj.1
      show (s.data[i]'h).toNat = 10
      omega
  by_cases q : s.data[i]'h = 10
  · rw [if_pos (e.1 q)]; simp [q]
  · rw [if_neg (fun z => q (e.2 z))]; simp [q]
theorem lastIdx_succ (s : ByteArray) (i : Nat) (h : i < s.size) : Lib.lastIdx s 10 (i + 1) = if bt s (i : Int) = 10 then (i : Int) else Lib.lastIdx s 10 i := by
  rw [bt_data s i h]
  show (if ((s.data[i]!).toNat : Int) = 10 then (i : Int) else Lib.lastIdx s 10 i) = _
  rw [getElem!_pos s.data i h]
theorem lastIdx_range (s : ByteArray) (c : Int) : ∀ i, -1 ≤ Lib.lastIdx s c i ∧ Lib.lastIdx s c i < i
  | 0 => by constructor <;> simp [Lib.lastIdx]
  | i + 1 => by
    have := lastIdx_range s c i
    unfold Lib.lastIdx
    split <;> omega
theorem begin_l0 (s : ByteArray) (hs : s.size ≤ 65536) (at_ : Nat) (ha : at_ ≤ s.size) : ∀ d i, i + d = at_ → ∀ k, d + 1 ≤ k → cognateref24_begin.l0 k s (at_ : Int) (Lib.lastIdx s 10 i + 1) (cntN s i : Int) (i : Int) = some (Lib.lastIdx s 10 at_ + 1, (cntN s at_ : Int))
  | 0, i, h, k + 1, hk => by
    obtain rfl : i = at_ := by omega
    rw [cognateref24_begin.l0, if_neg (by omega)]
  | d + 1, i, h, k + 1, hk => by
    have hi : i < s.size := by omega
    have hc : cntN s i ≤ i := Nat.le_trans List.count_le_length (by simp; omega)
    have ih := begin_l0 s hs at_ ha d (i + 1) (by omega) k (by omega)
    rw [cntN_succ s i hi, lastIdx_succ s i hi] at ih
    rw [cognateref24_begin.l0, if_pos (by omega), if_pos (by omega), if_pos (by omega), w64 (n := (i : Int) + 1) (by omega) (by omega)]
    by_cases q : bt s (i : Int) = 10
    · rw [if_pos q] at ih ⊢
      rw [if_pos q] at ih
      rw [w64 (by omega) (by omega)]
      exact_mod_cast ih
    · rw [if_neg q] at ih ⊢
      rw [if_neg q] at ih
      exact_mod_cast ih
theorem begin_eq (s : ByteArray) (hs : s.size ≤ 65536) (at_ : Nat) (ha : at_ ≤ s.size) (k : Nat) (hk : at_ + 1 ≤ k) : cognateref24_begin.f k s (at_ : Int) = some (Lib.lastIdx s 10 at_ + 1, (cntN s at_ : Int)) :=
  begin_l0 s hs at_ ha at_ 0 (by omega) k (by omega)
theorem lastIdx_cut (s : ByteArray) (n : Nat) (hn : n ≤ s.size) : ∀ i, i ≤ n → Lib.lastIdx (s.extract 0 n) 10 i = Lib.lastIdx s 10 i
  | 0, _ => rfl
  | i + 1, h => by
    have hz : (s.extract 0 n).size = n := by simp [ByteArray.size_extract]; omega
    rw [lastIdx_succ s i (by omega), lastIdx_succ (s.extract 0 n) i (by omega), lastIdx_cut s n hn i (by omega), bt_get _ i (by omega), bt_get s i (by omega), get_cut s 0 n i (by omega) hn, Nat.zero_add]
theorem last_eq (s : ByteArray) (hs : s.size ≤ 65536) (at_ : Nat) (ha : at_ ≤ s.size) : strings_LastIndexByte.f (s.extract 0 ((at_ : Int)).toNat) 10 = some (Lib.lastIdx s 10 at_) := by
  have hz : (s.extract 0 at_).size = at_ := by simp [ByteArray.size_extract]; omega
  unfold strings_LastIndexByte.f Lib.lastIndexByte
  rw [Int.toNat_natCast, hz, if_pos (by omega), lastIdx_cut s at_ ha at_ (Nat.le_refl _)]
theorem count_eq (s : ByteArray) (at_ : Nat) (ha : at_ ≤ s.size) : strings_Count.f (s.extract 0 ((at_ : Int)).toNat) (⟨#[10]⟩ : ByteArray) = some (cntN s at_ : Int) := by
  unfold strings_Count.f
  rw [if_pos (show (⟨#[10]⟩ : ByteArray).size = 1 from rfl), Int.toNat_natCast, Lib.extract_data]
  simp only [Lib.countByte, cntN, List.drop_zero, Nat.sub_zero]
  rfl
theorem count_from (s : ByteArray) : ∀ f i, Lib.runeCountFrom s f i = (pcs s f i).length
  | 0, _ => rfl
  | f + 1, i => by
    unfold Lib.runeCountFrom pcs
    split
    · rw [count_from s f]; simp; omega
    · rfl
theorem count_pieces (s : ByteArray) : Lib.runeCount s = (pieces s).length := count_from s s.size 0
-- Line
def lineB (s : ByteArray) (a : Int) : Int × Int × Int :=
  if s.size > 65536 then (0, 0, 3) else if a < 0 ∨ (s.size : Int) < a then (0, 0, 2) else ((cntN s a.toNat : Int) + 1, ((pieces (s.extract (Lib.lastIdx s 10 a.toNat + 1).toNat a.toNat)).length : Int) + 1, 0)
theorem text_eq (s : ByteArray) : corpus_text.f s = some (if s.size > 65536 then 3 else 0) := by
  unfold corpus_text.f
  by_cases h : s.size > 65536
  · rw [if_pos (by omega), if_pos h]
  · rw [if_neg (by omega), if_neg h]
theorem cntN_le (s : ByteArray) (i : Nat) : cntN s i ≤ i := Nat.le_trans List.count_le_length (by simp; omega)
theorem pieces_len (s : ByteArray) : (pieces s).length ≤ s.size := pcs_length _ _ _
theorem corpusLine_eq (s : ByteArray) (a : Int) (k : Nat) (hk : 2 ≤ k) : corpus_Line.f k s a = some (lineB s a) := by
  unfold corpus_Line.f lineB
  rw [text_eq]
  simp only [Option.bind_some]
  by_cases h : s.size > 65536
  · rw [if_pos h, if_pos h, if_neg (by omega)]
  rw [if_neg h, if_neg h, if_pos rfl]
  obtain ⟨k, rfl⟩ : ∃ q, k = q + 1 := ⟨k - 1, by omega⟩
  by_cases h0 : a < 0
  · rw [if_pos h0, corpus_Line.j0, if_pos rfl, if_pos (Or.inl h0)]
  rw [if_neg h0]
  by_cases h1 : (s.size : Int) < a
  · rw [decide_eq_true (show a > (s.size : Int) from h1), corpus_Line.j0, if_pos rfl, if_pos (Or.inr h1)]
  have hor : ¬ (a < 0 ∨ (s.size : Int) < a) := by omega
  rw [decide_eq_false (show ¬ a > (s.size : Int) from h1), corpus_Line.j0, if_neg Bool.false_ne_true, if_pos (by omega), if_pos (by omega), if_neg hor]
  obtain ⟨n, rfl⟩ := Int.eq_ofNat_of_zero_le (show 0 ≤ a by omega)
  have hl := lastIdx_range s 10 n
  have hc := cntN_le s n
  have hn : n ≤ s.size := by omega
  rw [last_eq s (by omega) n hn, count_eq s n hn]
  simp only [Option.bind_some, Int.toNat_natCast]
  rw [w64 (by omega) (by omega), w64 (by omega) (by omega), if_pos (by omega), if_pos (by omega)]
  have hz : (s.extract (Lib.lastIdx s 10 n + 1).toNat n).size ≤ 65536 := by simp [ByteArray.size_extract]; omega
  have hp := pieces_len (s.extract (Lib.lastIdx s 10 n + 1).toNat n)
  unfold utf8_RuneCountInString.f
  rw [if_pos (by omega), count_pieces]
  simp only [Option.bind_some]
  rw [w64 (by omega) (by omega)]
theorem refLine_eq (s : ByteArray) (a : Int) (k : Nat) (hk : 65536 + 20 ≤ k) : cognateref24_Line.f k s a = some (lineB s a) := by
  unfold cognateref24_Line.f lineB
  by_cases h : s.size > 65536
  · rw [if_pos (by omega), if_pos h]
  rw [if_neg (by omega), if_neg h]
  obtain ⟨k, rfl⟩ : ∃ q, k = q + 1 := ⟨k - 1, by omega⟩
  by_cases h0 : a < 0
  · rw [if_pos h0, cognateref24_Line.j0, if_pos rfl, if_pos (Or.inl h0)]
  rw [if_neg h0]
  by_cases h1 : (s.size : Int) < a
  · rw [decide_eq_true (show a > (s.size : Int) from h1), cognateref24_Line.j0, if_pos rfl, if_pos (Or.inr h1)]
  have hor : ¬ (a < 0 ∨ (s.size : Int) < a) := by omega
  rw [decide_eq_false (show ¬ a > (s.size : Int) from h1), cognateref24_Line.j0, if_neg Bool.false_ne_true, if_neg hor]
  obtain ⟨n, rfl⟩ := Int.eq_ofNat_of_zero_le (show 0 ≤ a by omega)
  have hl := lastIdx_range s 10 n
  have hc := cntN_le s n
  have hn : n ≤ s.size := by omega
  rw [begin_eq s (by omega) n hn k (by omega)]
  simp only [Option.bind_some, Int.toNat_natCast]
  have hz : (s.extract (Lib.lastIdx s 10 n + 1).toNat n).size ≤ 65536 := by simp [ByteArray.size_extract]; omega
  have hp := pieces_len (s.extract (Lib.lastIdx s 10 n + 1).toNat n)
  rw [if_pos (by omega), if_pos (by omega), if_pos (by omega), all_eq _ hz k (by omega)]
  simp only [Option.bind_some]
  rw [w64 (by omega) (by omega), w64 (by omega) (by omega)]
-- Back, mended
def encL (r : Int) : List Int := (Utf8.encode r).data.toList.map fun b => (b.toNat : Int)
theorem one_eq (r : Int) (h0 : 0 ≤ r) (h1 : r ≤ 1114111) (k : Nat) (hk : 1 ≤ k) : cognateref01_one.f k r = some (encL r) := by
  obtain ⟨k, rfl⟩ : ∃ q, k = q + 1 := ⟨k - 1, by omega⟩
  unfold cognateref01_one.f
  rw [rune_eq]
  simp only [Option.bind_some]
  have tm : ∀ x : Int, 0 ≤ x → Int.tmod x 64 = x % 64 := fun x hx => Int.tmod_eq_emod_of_nonneg hx
  have td : ∀ x y : Int, 0 ≤ x → Int.tdiv x y = x / y := fun x y hx => Int.tdiv_eq_ediv_of_nonneg hx
  have key : ∀ c : Nat, c ≤ 1114111 → cognateref01_one.j0 (k + 1) (c : Int) = some ((if c < 0x80 then (⟨#[UInt8.ofNat c]⟩ : ByteArray)
      else if c < 0x800 then ⟨#[UInt8.ofNat (0xC0 + c / 64), UInt8.ofNat (0x80 + c % 64)]⟩
      else if c < 0x10000 then ⟨#[UInt8.ofNat (0xE0 + c / 4096), UInt8.ofNat (0x80 + c / 64 % 64), UInt8.ofNat (0x80 + c % 64)]⟩
      else ⟨#[UInt8.ofNat (0xF0 + c / 262144), UInt8.ofNat (0x80 + c / 4096 % 64), UInt8.ofNat (0x80 + c / 64 % 64), UInt8.ofNat (0x80 + c % 64)]⟩).data.toList.map fun b => (b.toNat : Int)) := fun c hc => by
    rw [cognateref01_one.j0]
    have u : ∀ n : Nat, ((UInt8.ofNat n).toNat : Int) = ((n % 256 : Nat) : Int) := fun n => rfl
    have w32 : ∀ n : Int, 0 ≤ n → n < 2000000 → wrap32 n = n := fun n a b => by unfold wrap32; omega
    by_cases c1 : c < 0x80
    · rw [if_pos (by omega), if_pos c1]
      simp only [List.map_cons, List.map_nil, u]
      congr 1
    · rw [if_neg (by omega), if_neg c1, td _ _ (by omega), tm _ (by omega)]
      by_cases c2 : c < 0x800
      · rw [if_pos (by omega), if_pos c2, w32 ((c : Int) / 64) (by omega) (by omega), w32 (192 + (c : Int) / 64) (by omega) (by omega), w32 (128 + (c : Int) % 64) (by omega) (by omega)]
        simp only [List.map_cons, List.map_nil, u]
        congr 1
      · rw [if_neg (by omega), if_neg c2, td _ _ (by omega), w32 ((c : Int) / 64) (by omega) (by omega), tm _ (by omega), w32 (128 + (c : Int) % 64) (by omega) (by omega), w32 ((c : Int) / 4096) (by omega) (by omega), w32 (128 + (c : Int) / 64 % 64) (by omega) (by omega)]
        by_cases c3 : c < 0x10000
        · rw [if_pos (by omega), if_pos c3, w32 (224 + (c : Int) / 4096) (by omega) (by omega)]
          simp only [List.map_cons, List.map_nil, u]
          congr 1
        · rw [if_neg (by omega), if_neg c3, td _ _ (by omega), tm _ (by omega), w32 ((c : Int) / 262144) (by omega) (by omega), w32 (240 + (c : Int) / 262144) (by omega) (by omega), w32 (128 + (c : Int) / 4096 % 64) (by omega) (by omega)]
          simp only [List.map_cons, List.map_nil, u]
          congr 1
  cases hv : Utf8.valid r with
  | true =>
    rw [if_pos rfl]
    obtain ⟨c, rfl⟩ := Int.eq_ofNat_of_zero_le h0
    rw [key c (by omega)]
    unfold encL Utf8.encode
    simp only [hv, if_true, Int.toNat_natCast]
  | false =>
    rw [if_neg Bool.false_ne_true, show (65533 : Int) = ((65533 : Nat) : Int) from rfl, key 65533 (by omega)]
    unfold encL Utf8.encode
    simp only [hv, Bool.false_eq_true, if_false]
    rfl
theorem foldl_data : ∀ (ns : List Int) (s : ByteArray), (ns.foldl (fun r n => r ++ Utf8.encode n) s).data.toList = s.data.toList ++ ns.flatMap (fun n => (Utf8.encode n).data.toList)
  | [], s => by simp
  | n :: ns, s => by
    rw [List.foldl_cons, foldl_data ns]
    simp
theorem runesBytes_data (ns : List Int) : (runesBytes ns).data.toList = ns.flatMap (fun n => (Utf8.encode n).data.toList) := by
  unfold runesBytes
  rw [foldl_data]
  rfl
theorem ba_ext {a b : ByteArray} (h : a.data.toList = b.data.toList) : a = b := ByteArray.ext (Array.ext' h)
theorem runesBytes_append (a b : List Int) : runesBytes (a ++ b) = runesBytes a ++ runesBytes b := by
  apply ba_ext
  rw [runesBytes_data, ByteArray.data_append, Array.toList_append, runesBytes_data, runesBytes_data, List.flatMap_append]
theorem encL_len (r : Int) : (encL r).length ≤ 4 := by
  have := encode_size_le r
  unfold encL
  rw [List.length_map]
  rwa [Array.length_toList]
theorem strOf_enc (ns : List Int) : strOfNums (ns.flatMap encL) = runesBytes ns := by
  apply ba_ext
  rw [runesBytes_data]
  unfold strOfNums
  simp only [List.map_flatMap]
  congr 1
  funext n
  unfold encL
  rw [List.map_map]
  have : ((fun n : Int => UInt8.ofNat n.toNat) ∘ fun b : UInt8 => (b.toNat : Int)) = id := by
    funext b
    simp
  rw [this, List.map_id]
theorem pcs_mem0 (s : ByteArray) : ∀ f i, ∀ p ∈ pcs s f i, ∃ j, j < s.size ∧ p = pcAt s j
  | 0, _, p, h => by simp [pcs] at h
  | f + 1, i, p, h => by
    unfold pcs at h
    split at h
    · rename_i hi
      rcases List.mem_cons.1 h with rfl | h
      · exact ⟨i, hi, rfl⟩
      · exact pcs_mem0 s f _ p h
    · cases h
theorem pc_mem {s : ByteArray} {p : S97} (h : p ∈ pieces s) : ∃ j, j < s.size ∧ p = pcAt s j := pcs_mem0 s _ _ p h
theorem pc_range {s : ByteArray} {p : S97} (h : p ∈ pieces s) : 0 ≤ p.f0 ∧ p.f0 ≤ 1114111 := by
  obtain ⟨j, hj, rfl⟩ := pc_mem h
  have := (decode_le65 s j hj).1
  simp only [pcAt]
  omega
theorem rd_get (l : List S97) (i : Nat) (h : i < l.length) : rd_T97 l (i : Int) = l[i] := by
  have := rd_pc l (i : Int) (by omega) (by simpa using h)
  simpa using this
theorem back_l0 (ps : List S97) (hp : ∀ p ∈ ps, 0 ≤ p.f0 ∧ p.f0 ≤ 1114111) (hl : ps.length ≤ 65536) : ∀ d i acc, ps.length = i + d → acc.length ≤ 4 * i → ∀ k, d + 2 ≤ k → cognateref01_Back.l0 k ps acc (i : Int) = some (strOfNums (acc ++ (ps.drop i).flatMap (fun p => encL p.f0)), 0)
  | 0, i, acc, h, h2, k + 1, hk => by
    rw [cognateref01_Back.l0, if_neg (by omega), List.drop_of_length_le (by omega)]
    simp
  | d + 1, i, acc, h, h2, k + 1, hk => by
    have hi : i < ps.length := by omega
    have hm := hp _ (List.getElem_mem hi)
    have hL := encL_len (ps[i]).f0
    rw [cognateref01_Back.l0, if_pos (by omega), if_pos (by omega), rd_get ps i hi, one_eq _ hm.1 hm.2 k (by omega)]
    simp only [Option.bind_some]
    have hlt : acc.length + (encL (ps[i]).f0).length < 140737488355328 := by omega
    rw [if_pos hlt, w64 (by omega) (by omega), show ((i : Int) + 1) = ((i + 1 : Nat) : Int) by omega, back_l0 ps hp hl d (i + 1) _ (by omega) (by simp; omega) k (by omega), List.drop_eq_getElem_cons hi, List.flatMap_cons, List.append_assoc]
theorem refBack_eq (s : ByteArray) (hs : s.size ≤ 65536) (k : Nat) (hk : s.size + 20 ≤ k) : cognateref01_Back.f k s = some (backB s, 0) := by
  unfold cognateref01_Back.f cognateref01_Pieces.f
  have hl := pieces_len s
  rw [if_neg (by omega), all_eq s hs k (by omega)]
  simp only [Option.bind_some]
  rw [if_pos trivial]
  have := back_l0 (pieces s) (fun p hp => pc_range hp) (by omega) (pieces s).length 0 [] (by omega) (by simp) k (by omega)
  rw [show ((0 : Nat) : Int) = 0 from rfl] at this
  rw [this, List.drop_zero, List.nil_append]
  unfold backB runesOf
  rw [← strOf_enc, List.flatMap_map]
theorem mended_l0 (s : ByteArray) (hs : s.size ≤ 65536) (K : Nat) (hK : s.size + 25 ≤ K) (l : List S97) (hp : ∀ p ∈ l, p ∈ pieces s) (hl : l.length ≤ 65536) : ∀ d i pre, l.length = i + d → pre.length = i → ∀ k, d + K ≤ k → cognateref24_mended.l0 k s l (runesBytes pre) (i : Int) = some (runesBytes (pre ++ (l.drop i).map (·.f0)))
  | 0, i, pre, h, h2, k + 1, hk => by
    rw [cognateref24_mended.l0, if_neg (by omega), List.drop_of_length_le (by omega)]
    simp
  | 0, i, pre, h, h2, 0, hk => absurd hk (by omega)
  | d + 1, i, pre, h, h2, 0, hk => absurd hk (by omega)
  | d + 1, i, pre, h, h2, k + 1, hk => by
    have hi : i < l.length := by omega
    obtain ⟨j, hj, hpc⟩ := pc_mem (hp _ (List.getElem_mem hi))
    have hw := Lib.decode_width_pos s j hj
    have hle := (decode_le65 s j hj).2
    have q1 : (i : Int) < (l.length : Int) := by omega
    have q2 : (0 : Int) ≤ (i : Int) := by omega
    have q3 : (0 : Int) ≤ (j : Int) := by omega
    have q4 : (j : Int) ≤ ((j + (Utf8.decode s j).2 : Nat) : Int) := by omega
    have q5 : ((j + (Utf8.decode s j).2 : Nat) : Int) ≤ (s.size : Int) := by omega
    have ew : wrap64 ((j : Int) + ((Utf8.decode s j).2 : Int)) = ((j + (Utf8.decode s j).2 : Nat) : Int) := by rw [w64 (by omega) (by omega)]; omega
    have f1 : (pcAt s j).f1 = (j : Int) := rfl
    have f2 : (pcAt s j).f2 = ((Utf8.decode s j).2 : Int) := rfl
    have f0 : (pcAt s j).f0 = ((Utf8.decode s j).1 : Int) := rfl
    rw [cognateref24_mended.l0, if_pos q1, if_pos q2, rd_get l i hi, hpc]
    rw [f1, f2, ew, if_pos q3, if_pos q4, if_pos q5, Int.toNat_natCast, Int.toNat_natCast]
    clear f1 f2
    have hz : (s.extract j (j + (Utf8.decode s j).2)).size ≤ s.size := by simp [ByteArray.size_extract]; omega
    have hk2 : (s.extract j (j + (Utf8.decode s j).2)).size + 20 ≤ k := by omega
    rw [refBack_eq _ (Nat.le_trans hz hs) k hk2]
    simp only [Option.bind_some]
    have hb : backB (s.extract j (j + (Utf8.decode s j).2)) = runesBytes [((Utf8.decode s j).1 : Int)] := by
      unfold backB; rw [back_one s j hj]
    have s1 := runesBytes_size_le pre
    have s2 := runesBytes_size_le [((Utf8.decode s j).1 : Int)]
    simp only [List.length_cons, List.length_nil] at s2
    have hlt : (runesBytes pre).size + (runesBytes [((Utf8.decode s j).1 : Int)]).size ≤ 9223372036854775807 := by omega
    have ew2 : wrap64 ((i : Int) + 1) = ((i + 1 : Nat) : Int) := by rw [w64 (by omega) (by omega)]; omega
    have ih := mended_l0 s hs K hK l hp hl d (i + 1) (pre ++ [((Utf8.decode s j).1 : Int)]) (by omega) (by simp; omega) k (by omega)
    rw [hb, if_pos hlt, ← runesBytes_append, ew2, ih, List.drop_eq_getElem_cons hi, List.map_cons, hpc, f0, List.append_assoc]
    rfl
theorem mended_eq (s : ByteArray) (hs : s.size ≤ 65536) (l : List S97) (hp : ∀ p ∈ l, p ∈ pieces s) (hl : l.length ≤ 65536) (k : Nat) (hk : l.length + (s.size + 25) ≤ k) : cognateref24_mended.f k s l = some (runesBytes (l.map (·.f0))) := by
  have := mended_l0 s hs (s.size + 25) (Nat.le_refl _) l hp hl l.length 0 [] (by omega) rfl k hk
  rw [List.drop_zero, List.nil_append] at this
  exact this
theorem runesBytes_nil : runesBytes [] = (⟨#[]⟩ : ByteArray) := rfl
theorem back_eq (s : ByteArray) (hs : s.size ≤ 65536) : runes_Back.f s = some (backB s, 0) := by
  unfold runes_Back.f; rw [if_neg (by omega)]
theorem len_eq (s : ByteArray) (hs : s.size ≤ 65536) : runes_Len.f s = some (((pieces s).length : Int), 0) := by
  unfold runes_Len.f
  have hl : runes_long.f s = some 0 := by unfold runes_long.f; rw [if_neg (by omega)]
  rw [hl]
  simp only [Option.bind_some]
  rw [if_pos trivial]
  unfold utf8_RuneCountInString.f
  rw [if_pos (by omega), count_pieces]
  rfl
theorem rpart_eq (s : ByteArray) (hs : s.size ≤ 65536) (lo hi : Nat) (h1 : lo ≤ hi) (h2 : hi ≤ (pieces s).length) : runes_Part.f s (lo : Int) (hi : Int) = some (partS s lo hi, 0) := by
  unfold runes_Part.f
  have hor : ¬ ((lo : Int) < 0 ∨ (hi : Int) < lo ∨ ((pieces s).length : Int) < hi) := by omega
  rw [if_neg (by omega), if_neg hor]
theorem part_size (s : ByteArray) (lo hi : Int) : (partS s lo hi).size ≤ s.size := by
  unfold partS; simp [ByteArray.size_extract]; omega
/-- The last so many pieces, or the first ones. -/
def lastP (s : ByteArray) (m : Nat) : List S97 := (pieces s).drop ((pieces s).length - m)
def firstP (s : ByteArray) (m : Nat) : List S97 := (pieces s).take m
theorem part_last (s : ByteArray) (hs : s.size ≤ 65536) (m : Nat) (hm : m ≤ 65536) : corpus_part.f s (m : Int) true = some (runesBytes ((lastP s m).map (·.f0))) := by
  unfold corpus_part.f
  have hl := pieces_len s
  rw [len_eq s hs]
  simp only [Option.bind_some]
  rw [if_pos trivial]
  have e : mx (wrap64 (((pieces s).length : Int) - (m : Int))) 0 = (((pieces s).length - m : Nat) : Int) := by
    rw [w64 (by omega) (by omega)]; unfold mx; split <;> omega
  rw [e, rpart_eq s hs _ _ (by omega) (Nat.le_refl _)]
  simp only [Option.bind_some]
  rw [back_eq _ (Nat.le_trans (part_size s _ _) hs)]
  simp only [Option.bind_some]
  unfold backB
  rw [runes_mid s _ _ (by omega) (Nat.le_refl _), List.take_of_length_le (by simp)]
  rfl
theorem part_first (s : ByteArray) (hs : s.size ≤ 65536) (m : Nat) : corpus_part.f s (m : Int) false = some (runesBytes ((firstP s m).map (·.f0))) := by
  unfold corpus_part.f
  have hl := pieces_len s
  rw [len_eq s hs]
  simp only [Option.bind_some]
  rw [if_neg Bool.false_ne_true]
  have e : mn ((pieces s).length : Int) (m : Int) = ((min (pieces s).length m : Nat) : Int) := by
    unfold mn; split <;> omega
  rw [e, show (0 : Int) = ((0 : Nat) : Int) from rfl, rpart_eq s hs 0 _ (by omega) (by omega)]
  simp only [Option.bind_some]
  rw [back_eq _ (Nat.le_trans (part_size s _ _) hs)]
  simp only [Option.bind_some]
  unfold backB firstP
  rw [runes_mid s 0 _ (by omega) (by omega), List.drop_zero, Nat.sub_zero]
  congr 3
  rcases Nat.le_total (pieces s).length m with h | h
  · rw [Nat.min_eq_left h, List.take_of_length_le (Nat.le_refl _), List.take_of_length_le h]
  · rw [Nat.min_eq_right h]
/-- Where the line ends. -/
def nlAt (s : ByteArray) : Nat → Nat → Nat
  | 0, i => i
  | d + 1, i => if bt s (i : Int) = 10 then i else nlAt s d (i + 1)
theorem nlAt_range (s : ByteArray) : ∀ d i, i ≤ nlAt s d i ∧ nlAt s d i ≤ i + d
  | 0, i => by simp [nlAt]
  | d + 1, i => by
    unfold nlAt
    split
    · omega
    · have := nlAt_range s d (i + 1); omega
theorem index_nl (s : ByteArray) : ∀ d i, i + d = s.size → Lib.indexByte (s.data.toList.drop i) 10 = if nlAt s d i < s.size then ((nlAt s d i - i : Nat) : Int) else -1
  | 0, i, h => by
    rw [List.drop_of_length_le (by rw [Array.length_toList]; show s.size ≤ i; omega)]
    rw [if_neg (by simp [nlAt]; omega)]
    rfl
  | d + 1, i, h => by
    have hi : i < s.size := by omega
    have hi2 : i < s.data.toList.length := by rw [Array.length_toList]; exact hi
    rw [List.drop_eq_getElem_cons hi2]
    unfold Lib.indexByte nlAt
    have hb := bt_data s i hi
    have ev : s.data.toList[i] = s.data[i]'hi := by simp
    rw [ev]
    have ih := index_nl s d (i + 1) (by omega)
    have hr := nlAt_range s d (i + 1)
    by_cases q : bt s (i : Int) = 10
    · have : s.data[i]'hi = 10 := by
        apply UInt8.toNat_inj.1
        show (s.data[i]'hi).toNat = 10
        omega
      rw [if_pos q, if_pos (by simp [this]), if_pos hi]
      simp
    · have : s.data[i]'hi ≠ 10 := fun z => q (by rw [hb, z]; rfl)
      rw [if_neg q, if_neg (by simp [this]), ih]
      by_cases r : nlAt s d (i + 1) < s.size
      · have hne : ¬ ((((nlAt s d (i + 1) - (i + 1) : Nat) : Int) == -1) = true) := by simp
        rw [if_pos r, if_neg hne]
        rw [if_pos r]
        omega
      · rw [if_neg r, if_pos (by rfl), if_neg r]
theorem cut_eq (s : ByteArray) (hs : s.size ≤ 65536) (i : Nat) : strings_Cut.f (s.extract (i : Int).toNat s.size) (⟨#[10]⟩ : ByteArray) = some (cutAt (s.extract i s.size) 10) := by
  unfold strings_Cut.f
  have hz : (s.extract i s.size).size ≤ s.size := by simp [ByteArray.size_extract]
  rw [Int.toNat_natCast, if_pos ⟨by omega, rfl⟩]
  rfl
theorem cut_fst (s : ByteArray) (i : Nat) (hi : i ≤ s.size) : (cutAt (s.extract i s.size) 10).1 = s.extract i (nlAt s (s.size - i) i) := by
  have hd : (s.extract i s.size).data.toList = s.data.toList.drop i := by
    rw [Lib.extract_data, List.take_of_length_le]
    simp
  have hr := nlAt_range s (s.size - i) i
  unfold cutAt
  rw [hd, index_nl s (s.size - i) i (by omega)]
  by_cases r : nlAt s (s.size - i) i < s.size
  · rw [if_pos r, if_pos (by omega), Int.toNat_natCast]
    simp only
    rw [ByteArray.extract_extract]
    congr 1 <;> omega
  · rw [if_neg r, if_neg (by omega)]
    simp only
    congr 1
    omega
-- Around
def aroundB (s : ByteArray) (a n m : Int) : ByteArray × ByteArray × ByteArray × Int :=
  if s.size > 65536 then (⟨#[]⟩, ⟨#[]⟩, ⟨#[]⟩, 3) else if a < 0 ∨ (s.size : Int) < a ∨ n < 0 ∨ (s.size : Int) - a < n ∨ m < 0 ∨ 65536 < m then (⟨#[]⟩, ⟨#[]⟩, ⟨#[]⟩, 2) else
    (runesBytes ((lastP (s.extract (Lib.lastIdx s 10 a.toNat + 1).toNat a.toNat) m.toNat).map (·.f0)), backB (s.extract a.toNat (a + n).toNat), runesBytes ((firstP (s.extract (a + n).toNat (nlAt s (s.size - (a + n).toNat) (a + n).toNat)) m.toNat).map (·.f0)), 0)
theorem ext_size (s : ByteArray) (i j : Nat) : (s.extract i j).size ≤ s.size := by simp [ByteArray.size_extract]; omega
theorem progAround_j0 (s : ByteArray) (hs : s.size ≤ 65536) (a n m : Nat) (h1 : a + n ≤ s.size) (hm : m ≤ 65536) (k : Nat) (hk : 1 ≤ k) : corpus_Around.j0 k s (a : Int) (n : Int) (m : Int) false =
    some (runesBytes ((lastP (s.extract (Lib.lastIdx s 10 a + 1).toNat a) m).map (·.f0)), backB (s.extract a (a + n)), runesBytes ((firstP (s.extract (a + n) (nlAt s (s.size - (a + n)) (a + n))) m).map (·.f0)), 0) := by
  obtain ⟨k, rfl⟩ : ∃ q, k = q + 1 := ⟨k - 1, by omega⟩
  have hl := lastIdx_range s 10 a
  have ew : wrap64 ((a : Int) + (n : Int)) = ((a + n : Nat) : Int) := by rw [w64 (by omega) (by omega)]; omega
  have ew2 : wrap64 (Lib.lastIdx s 10 a + 1) = Lib.lastIdx s 10 a + 1 := by rw [w64 (by omega) (by omega)]
  rw [corpus_Around.j0, if_neg Bool.false_ne_true, if_pos (by omega), if_pos (by omega), last_eq s hs a (by omega)]
  rw [Option.bind_some]
  try dsimp only
  rw [ew, if_pos (by omega), if_pos (by omega), cut_eq s hs]
  rw [Option.bind_some]
  try dsimp only
  rw [if_pos (by omega), Int.toNat_natCast, Int.toNat_natCast, back_eq _ (Nat.le_trans (ext_size s _ _) hs)]
  rw [Option.bind_some]
  try dsimp only
  rw [ew2, if_pos (by omega), if_pos (by omega), part_last _ (Nat.le_trans (ext_size s _ _) hs) m hm]
  rw [Option.bind_some]
  try dsimp only
  rw [cut_fst s (a + n) h1, part_first _ (Nat.le_trans (ext_size s _ _) hs) m]
  rw [Option.bind_some]
  try dsimp only
theorem progAround_eq (s : ByteArray) (a n m : Int) (k : Nat) (hk : 1 ≤ k) : corpus_Around.f k s a n m = some (aroundB s a n m) := by
  unfold corpus_Around.f aroundB
  rw [text_eq]
  simp only [Option.bind_some]
  by_cases h : s.size > 65536
  · rw [if_pos h, if_pos h, if_neg (by omega)]
  rw [if_neg h, if_neg h, if_pos rfl]
  have jt : corpus_Around.j0 k s a n m true = some (⟨#[]⟩, ⟨#[]⟩, ⟨#[]⟩, 2) := by
    obtain ⟨k, rfl⟩ : ∃ q, k = q + 1 := ⟨k - 1, by omega⟩
    rw [corpus_Around.j0, if_pos rfl]
  by_cases h0 : a < 0
  · rw [if_pos h0, jt, if_pos (Or.inl h0)]
  by_cases h1 : (s.size : Int) < a
  · rw [if_neg h0, if_pos (show a > (s.size : Int) from h1), jt, if_pos (Or.inr (Or.inl h1))]
  have ew : wrap64 ((s.size : Int) - a) = (s.size : Int) - a := by rw [w64 (by omega) (by omega)]
  by_cases h2 : n < 0
  · rw [if_neg h0, if_neg (show ¬ a > (s.size : Int) from h1), if_pos h2, jt, if_pos (Or.inr (Or.inr (Or.inl h2)))]
  by_cases h3 : (s.size : Int) - a < n
  · rw [if_neg h0, if_neg (show ¬ a > (s.size : Int) from h1), if_neg h2, ew, if_pos (show n > (s.size : Int) - a from h3), jt, if_pos (Or.inr (Or.inr (Or.inr (Or.inl h3))))]
  by_cases h4 : m < 0
  · rw [if_neg h0, if_neg (show ¬ a > (s.size : Int) from h1), if_neg h2, ew, if_neg (show ¬ n > (s.size : Int) - a from h3), if_pos h4, jt, if_pos (Or.inr (Or.inr (Or.inr (Or.inr (Or.inl h4)))))]
  rw [if_neg h0, if_neg (show ¬ a > (s.size : Int) from h1), if_neg h2, ew, if_neg (show ¬ n > (s.size : Int) - a from h3), if_neg h4]
  by_cases h5 : (65536 : Int) < m
  · rw [decide_eq_true (show m > (65536 : Int) from h5), jt, if_pos (Or.inr (Or.inr (Or.inr (Or.inr (Or.inr h5)))))]
  have hor : ¬ (a < 0 ∨ (s.size : Int) < a ∨ n < 0 ∨ (s.size : Int) - a < n ∨ m < 0 ∨ 65536 < m) := by omega
  rw [decide_eq_false (show ¬ m > (65536 : Int) from h5), if_neg hor]
  obtain ⟨a, rfl⟩ := Int.eq_ofNat_of_zero_le (show 0 ≤ a by omega)
  obtain ⟨n, rfl⟩ := Int.eq_ofNat_of_zero_le (show 0 ≤ n by omega)
  obtain ⟨m, rfl⟩ := Int.eq_ofNat_of_zero_le (show 0 ≤ m by omega)
  rw [progAround_j0 s (by omega) a n m (by omega) (by omega) k hk, show ((a : Int) + (n : Int)) = ((a + n : Nat) : Int) by omega]
  simp only [Int.toNat_natCast]
theorem lastP_sub (s : ByteArray) (m : Nat) : ∀ p ∈ lastP s m, p ∈ pieces s := fun _ h => List.mem_of_mem_drop h
theorem firstP_sub (s : ByteArray) (m : Nat) : ∀ p ∈ firstP s m, p ∈ pieces s := fun _ h => List.mem_of_mem_take h
theorem refAround_j2 (s : ByteArray) (hs : s.size ≤ 65536) (a n m e : Nat) (hm : m ≤ 65536) (L : ByteArray) (hL : L.size ≤ s.size) (he1 : a + n ≤ e) (he2 : e ≤ s.size) (k : Nat) (hk : 2 * s.size + 40 ≤ k) :
    cognateref24_Around.j2 k s (a : Int) (n : Int) (m : Int) L (pieces L) (s.extract a (a + n)) (pieces (s.extract a (a + n))) (e : Int) =
    some (runesBytes ((lastP L m).map (·.f0)), backB (s.extract a (a + n)), runesBytes ((firstP (s.extract (a + n) e) m).map (·.f0)), 0) := by
  obtain ⟨k, rfl⟩ : ∃ q, k = q + 1 := ⟨k - 1, by omega⟩
  have ew : wrap64 ((a : Int) + (n : Int)) = ((a + n : Nat) : Int) := by rw [w64 (by omega) (by omega)]; omega
  have hR := ext_size s (a + n) e
  have hH := ext_size s a (a + n)
  have lL := pieces_len L
  have lH := pieces_len (s.extract a (a + n))
  have lR := pieces_len (s.extract (a + n) e)
  rw [cognateref24_Around.j2, ew, if_pos (by omega), if_pos (by omega), if_pos (by omega), Int.toNat_natCast, Int.toNat_natCast, all_eq _ (by omega) k (by omega)]
  simp only [Option.bind_some]
  have em : mx 0 (wrap64 (((pieces L).length : Int) - (m : Int))) = (((pieces L).length - m : Nat) : Int) := by
    rw [w64 (by omega) (by omega)]
    unfold mx; split <;> omega
  have en : mn ((pieces (s.extract (a + n) e)).length : Int) (m : Int) = ((min (pieces (s.extract (a + n) e)).length m : Nat) : Int) := by
    unfold mn; split <;> omega
  have eL : (pieces L).drop ((pieces L).length - m) = lastP L m := rfl
  have lL2 : (lastP L m).length ≤ (pieces L).length := by unfold lastP; simp
  rw [em, if_pos (by omega), if_pos (by omega), Int.toNat_natCast, eL, mended_eq L (by omega) _ (lastP_sub L m) (by omega) k (by omega)]
  simp only [Option.bind_some]
  rw [mended_eq _ (by omega) _ (fun p hp => hp) (by omega) k (by omega)]
  simp only [Option.bind_some]
  rw [en, if_pos (by omega), if_pos (by omega), Int.toNat_natCast]
  have ef : (pieces (s.extract (a + n) e)).take (min (pieces (s.extract (a + n) e)).length m) = firstP (s.extract (a + n) e) m := by
    unfold firstP
    rcases Nat.le_total (pieces (s.extract (a + n) e)).length m with h | h
    · rw [Nat.min_eq_left h, List.take_of_length_le (Nat.le_refl _), List.take_of_length_le h]
    · rw [Nat.min_eq_right h]
  have lf : (firstP (s.extract (a + n) e) m).length ≤ (pieces (s.extract (a + n) e)).length := by unfold firstP; simp; omega
  rw [ef, mended_eq _ (by omega) _ (firstP_sub _ m) (by omega) k (by omega)]
  simp only [Option.bind_some]
  rfl
theorem refAround_l0 (s : ByteArray) (hs : s.size ≤ 65536) (a n m : Nat) (hm : m ≤ 65536) (L : ByteArray) (hL : L.size ≤ s.size) (K : Nat) (hK : 2 * s.size + 40 ≤ K) : ∀ d i, i + d = s.size → a + n ≤ i → ∀ k, d + K + 1 ≤ k →
    cognateref24_Around.l0 k s (a : Int) (n : Int) (m : Int) L (pieces L) (s.extract a (a + n)) (pieces (s.extract a (a + n))) (i : Int) =
    some (runesBytes ((lastP L m).map (·.f0)), backB (s.extract a (a + n)), runesBytes ((firstP (s.extract (a + n) (nlAt s d i)) m).map (·.f0)), 0)
  | 0, i, h, h2, 0, hk => absurd hk (by omega)
  | d + 1, i, h, h2, 0, hk => absurd hk (by omega)
  | 0, i, h, h2, k + 1, hk => by
    rw [cognateref24_Around.l0, if_neg (by omega), refAround_j2 s hs a n m i hm L hL h2 (by omega) k (by omega)]
    rfl
  | d + 1, i, h, h2, k + 1, hk => by
    have q1 : (i : Int) < (s.size : Int) := by omega
    rw [cognateref24_Around.l0, if_pos q1, if_pos (by omega)]
    by_cases q : bt s (i : Int) = 10
    · rw [if_pos q, refAround_j2 s hs a n m i hm L hL h2 (by omega) k (by omega), nlAt, if_pos q]
    · have ew : wrap64 ((i : Int) + 1) = ((i + 1 : Nat) : Int) := by rw [w64 (by omega) (by omega)]; omega
      rw [if_neg q, ew, refAround_l0 s hs a n m hm L hL K hK d (i + 1) (by omega) (by omega) k (by omega), nlAt, if_neg q]
theorem refAround_eq (s : ByteArray) (a n m : Int) (k : Nat) (hk : 3 * s.size + 60 ≤ k) : cognateref24_Around.f k s a n m = some (aroundB s a n m) := by
  unfold cognateref24_Around.f aroundB
  by_cases h : s.size > 65536
  · rw [if_pos (by omega), if_pos h]
  rw [if_neg (by omega), if_neg h]
  have jt : cognateref24_Around.j0 k s a n m true = some (⟨#[]⟩, ⟨#[]⟩, ⟨#[]⟩, 2) := by
    obtain ⟨k, rfl⟩ : ∃ q, k = q + 1 := ⟨k - 1, by omega⟩
    rw [cognateref24_Around.j0, if_pos rfl]
  by_cases h0 : a < 0
  · rw [if_pos h0, jt, if_pos (Or.inl h0)]
  by_cases h1 : (s.size : Int) < a
  · rw [if_neg h0, if_pos (show a > (s.size : Int) from h1), jt, if_pos (Or.inr (Or.inl h1))]
  have ew : wrap64 ((s.size : Int) - a) = (s.size : Int) - a := by rw [w64 (by omega) (by omega)]
  by_cases h2 : n < 0
  · rw [if_neg h0, if_neg (show ¬ a > (s.size : Int) from h1), if_pos h2, jt, if_pos (Or.inr (Or.inr (Or.inl h2)))]
  by_cases h3 : (s.size : Int) - a < n
  · rw [if_neg h0, if_neg (show ¬ a > (s.size : Int) from h1), if_neg h2, ew, if_pos (show n > (s.size : Int) - a from h3), jt, if_pos (Or.inr (Or.inr (Or.inr (Or.inl h3))))]
  by_cases h4 : m < 0
  · rw [if_neg h0, if_neg (show ¬ a > (s.size : Int) from h1), if_neg h2, ew, if_neg (show ¬ n > (s.size : Int) - a from h3), if_pos h4, jt, if_pos (Or.inr (Or.inr (Or.inr (Or.inr (Or.inl h4)))))]
  rw [if_neg h0, if_neg (show ¬ a > (s.size : Int) from h1), if_neg h2, ew, if_neg (show ¬ n > (s.size : Int) - a from h3), if_neg h4]
  by_cases h5 : (65536 : Int) < m
  · rw [decide_eq_true (show m > (65536 : Int) from h5), jt, if_pos (Or.inr (Or.inr (Or.inr (Or.inr (Or.inr h5)))))]
  have hor : ¬ (a < 0 ∨ (s.size : Int) < a ∨ n < 0 ∨ (s.size : Int) - a < n ∨ m < 0 ∨ 65536 < m) := by omega
  rw [decide_eq_false (show ¬ m > (65536 : Int) from h5), if_neg hor]
  obtain ⟨a, rfl⟩ := Int.eq_ofNat_of_zero_le (show 0 ≤ a by omega)
  obtain ⟨n, rfl⟩ := Int.eq_ofNat_of_zero_le (show 0 ≤ n by omega)
  obtain ⟨m, rfl⟩ := Int.eq_ofNat_of_zero_le (show 0 ≤ m by omega)
  obtain ⟨k, rfl⟩ : ∃ q, k = q + 1 := ⟨k - 1, by omega⟩
  have hl := lastIdx_range s 10 a
  have ew2 : wrap64 ((a : Int) + (n : Int)) = ((a + n : Nat) : Int) := by rw [w64 (by omega) (by omega)]; omega
  have zL := ext_size s (Lib.lastIdx s 10 a + 1).toNat a
  have zH := ext_size s a (a + n)
  rw [cognateref24_Around.j0, if_neg Bool.false_ne_true, begin_eq s (by omega) a (by omega) k (by omega)]
  rw [Option.bind_some]
  try dsimp only
  rw [if_pos (by omega), if_pos (by omega), if_pos (by omega), Int.toNat_natCast, all_eq _ (by omega) k (by omega)]
  rw [Option.bind_some]
  try dsimp only
  rw [ew2, if_pos (by omega), if_pos (by omega), if_pos (by omega), Int.toNat_natCast, all_eq _ (by omega) k (by omega)]
  rw [Option.bind_some]
  try dsimp only
  have zd : s.size - (a + n) + (2 * s.size + 40) + 1 ≤ k := by omega
  rw [refAround_l0 s (by omega) a n m (by omega) _ zL (2 * s.size + 40) (Nat.le_refl _) (s.size - (a + n)) (a + n) (by omega) (Nat.le_refl _) k zd, show ((a : Int) + (n : Int)) = ((a + n : Nat) : Int) by omega]
  simp only [Int.toNat_natCast]
theorem awake_eq (k : Nat) (hk : 2 ≤ k) : cognatelaw24_awake.f k = some true := by
  unfold cognatelaw24_awake.f
  rw [corpusLine_eq _ _ k hk, show lineB (⟨#[120, 10, 121, 10]⟩ : ByteArray) 2 = (2, 1, 0) by decide +kernel]
  rfl
theorem CorpusPlaces : ∀ (a0 : ByteArray) (a1 : Int) (a2 : Int) (a3 : Int), (a0.size ≤ 140737488351232) → ((Lit.int .i64 a1).wf = true) → ((Lit.int .i64 a2).wf = true) → ((Lit.int .i64 a3).wf = true) → ∃ k, cognatelaw24_CorpusPlaces.f k a0 a1 a2 a3 = some true := by
  intro a0 a1 a2 a3 _ _ _ _
  obtain ⟨k, hk⟩ : ∃ k, 3 * a0.size + 70000 ≤ k := ⟨_, Nat.le_refl _⟩
  refine ⟨k, ?_⟩
  unfold cognatelaw24_CorpusPlaces.f
  rw [awake_eq k (by omega)]
  simp only [Option.bind_some]
  rw [if_pos trivial]
  have hl : ∃ b, cognatelaw24_long.f a0 = some b := by
    unfold cognatelaw24_long.f
    split
    · exact ⟨_, rfl⟩
    · exact ⟨_, rfl⟩
  obtain ⟨b, hb⟩ := hl
  rw [hb]
  simp only [Option.bind_some]
  cases b with
  | true => rw [if_pos rfl]
  | false =>
    rw [if_neg Bool.false_ne_true, corpusLine_eq _ _ k (by omega), refLine_eq _ _ k (by omega), progAround_eq _ _ _ _ k (by omega), refAround_eq _ _ _ _ k (by omega)]
    simp
end Go.Proofs.YtfpfdmenhgageaaDoor.Pure
