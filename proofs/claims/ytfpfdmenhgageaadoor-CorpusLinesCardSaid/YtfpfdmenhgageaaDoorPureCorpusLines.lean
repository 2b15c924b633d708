import Derived.Test.YtfpfdmenhgageaaDoorCRd
import Derived.Test.YtfpfdmenhgageaaDoorCx7
namespace Go.Proofs.YtfpfdmenhgageaaDoor.Pure
open Go.RowKit Go.Proofs.YtfpfdmenhgageaaDoor.C Go.Proofs.YtfpfdmenhgageaaDoorW.PrintWords Go.Proofs.YtfpfdmenhgageaaDoorW.PrintLast Go.Proofs.YtfpfdmenhgageaaDoorW.PrintMore
set_option linter.unusedVariables false
set_option linter.unusedSimpArgs false
theorem w64 {n : Int} (h0 : -9223372036854775808 ≤ n) (h1 : n ≤ 9223372036854775807) : wrap64 n = n := by unfold wrap64; omega
-- a place's rune in a part of a text; pieces of a part
theorem decodeN_cut (n m b0 b1 b2 b3 c1 c2 c3 : Nat) (h1 : 1 < m → c1 = b1) (h2 : 2 < m → c2 = b2) (h3 : 3 < m → c3 = b3) (hn : m ≤ n) (hw : (Lib.decodeN n b0 b1 b2 b3).2 ≤ m) : Lib.decodeN m b0 c1 c2 c3 = Lib.decodeN n b0 b1 b2 b3 := by
  unfold Lib.decodeN at hw ⊢
  by_cases p0 : b0 < 128
  · rw [if_pos p0, if_pos p0]
  rw [if_neg p0] at hw
  rw [if_neg p0, if_neg p0]
  by_cases p1 : b0 / 32 = 6 ∧ (1 < n ∧ b1 / 64 = 2)
  · rw [if_pos p1] at hw ⊢
    by_cases q1 : b0 % 32 * 64 + b1 % 64 ≥ 128
    · rw [if_pos q1] at hw ⊢
      have a1 : 1 < m := hw
      obtain rfl := h1 a1
      rw [if_pos ⟨p1.1, a1, p1.2.2⟩, if_pos q1]
    · rw [if_neg q1]
      by_cases a1 : 1 < m
      · obtain rfl := h1 a1
        rw [if_pos ⟨p1.1, a1, p1.2.2⟩, if_neg q1]
      · rw [if_neg (fun h => a1 h.2.1), if_neg (fun h => by omega), if_neg (fun h => by omega)]
  · have n1 : ¬ (b0 / 32 = 6 ∧ (1 < m ∧ c1 / 64 = 2)) := fun h => p1 ⟨h.1, by omega, by rw [← h1 h.2.1]; exact h.2.2⟩
    rw [if_neg p1] at hw ⊢
    rw [if_neg n1]
    by_cases p2 : b0 / 16 = 14 ∧ (1 < n ∧ b1 / 64 = 2) ∧ (2 < n ∧ b2 / 64 = 2)
    · rw [if_pos p2] at hw ⊢
      split at hw
      · rename_i q2
        have a2 : 2 < m := hw
        obtain rfl := h1 (by omega)
        obtain rfl := h2 a2
        rw [if_pos ⟨p2.1, ⟨by omega, p2.2.1.2⟩, ⟨a2, p2.2.2.2⟩⟩]
      · rename_i q2
        rw [if_neg q2]
        by_cases a2 : 2 < m
        · obtain rfl := h1 (by omega)
          obtain rfl := h2 a2
          rw [if_pos ⟨p2.1, ⟨by omega, p2.2.1.2⟩, ⟨a2, p2.2.2.2⟩⟩, if_neg q2]
        · rw [if_neg (fun h => a2 h.2.2.1), if_neg (fun h => by omega)]
    · have n2 : ¬ (b0 / 16 = 14 ∧ (1 < m ∧ c1 / 64 = 2) ∧ (2 < m ∧ c2 / 64 = 2)) := fun h => p2 ⟨h.1, ⟨by omega, by rw [← h1 h.2.1.1]; exact h.2.1.2⟩, ⟨by omega, by rw [← h2 h.2.2.1]; exact h.2.2.2⟩⟩
      rw [if_neg p2] at hw ⊢
      rw [if_neg n2]
      by_cases p3 : b0 / 8 = 30 ∧ (1 < n ∧ b1 / 64 = 2) ∧ (2 < n ∧ b2 / 64 = 2) ∧ (3 < n ∧ b3 / 64 = 2)
      · rw [if_pos p3] at hw ⊢
        split at hw
        · rename_i q3
          have a3 : 3 < m := hw
          obtain rfl := h1 (by omega)
          obtain rfl := h2 (by omega)
          obtain rfl := h3 a3
          rw [if_pos ⟨p3.1, ⟨by omega, p3.2.1.2⟩, ⟨by omega, p3.2.2.1.2⟩, ⟨a3, p3.2.2.2.2⟩⟩]
        · rename_i q3
          rw [if_neg q3]
          by_cases a3 : 3 < m
          · obtain rfl := h1 (by omega)
            obtain rfl := h2 (by omega)
            obtain rfl := h3 a3
            rw [if_pos ⟨p3.1, ⟨by omega, p3.2.1.2⟩, ⟨by omega, p3.2.2.1.2⟩, ⟨a3, p3.2.2.2.2⟩⟩, if_neg q3]
          · rw [if_neg (fun h => a3 h.2.2.2.1)]
      · have n3 : ¬ (b0 / 8 = 30 ∧ (1 < m ∧ c1 / 64 = 2) ∧ (2 < m ∧ c2 / 64 = 2) ∧ (3 < m ∧ c3 / 64 = 2)) := fun h => p3 ⟨h.1, ⟨by omega, by rw [← h1 h.2.1.1]; exact h.2.1.2⟩, ⟨by omega, by rw [← h2 h.2.2.1.1]; exact h.2.2.1.2⟩, ⟨by omega, by rw [← h3 h.2.2.2.1]; exact h.2.2.2.2⟩⟩
        rw [if_neg p3, if_neg n3]
theorem get_cut (s : ByteArray) (i j k : Nat) (h : i + k < j) (hj : j ≤ s.size) : (s.extract i j).get! k = s.get! (i + k) := by
  have hs : s.size = s.data.size := rfl
  show (s.extract i j).data[k]! = s.data[i + k]!
  simp only [ByteArray.data_extract, getElem!_def]
  rw [Array.getElem?_extract]
  rw [if_pos (by rw [← hs]; omega)]
/-- What a place's rune is does not hang on what stands far behind. -/
theorem decode_cut (s : ByteArray) (i p j : Nat) (hp : i + p < j) (hj : j ≤ s.size) (hw : i + p + (Utf8.decode s (i + p)).2 ≤ j) : Utf8.decode (s.extract i j) p = Utf8.decode s (i + p) := by
  rw [Lib.decode_at s (i + p)] at hw
  rw [Lib.decode_at, Lib.decode_at s (i + p)]
  have hsz : (s.extract i j).size = j - i := by simp [ByteArray.size_extract]; omega
  rw [hsz, show (s.extract i j).get! p = s.get! (i + p) from get_cut s i j p (by omega) hj]
  refine decodeN_cut _ _ _ _ _ _ _ _ _ (fun h => ?_) (fun h => ?_) (fun h => ?_) (by omega) (by omega)
  · rw [get_cut s i j (p + 1) (by omega) hj, Nat.add_assoc]
  · rw [get_cut s i j (p + 2) (by omega) hj, Nat.add_assoc]
  · rw [get_cut s i j (p + 3) (by omega) hj, Nat.add_assoc]
theorem pcs_shift (s : ByteArray) (i j : Nat) (hj : j ≤ s.size) : ∀ (f g p : Nat) (l : List S97) (rest : List S97), pcs s f (i + p) = l ++ rest → (∀ q ∈ l, q.f1 + q.f2 ≤ j) → (rest = [] → i + p ≤ j) → (∀ q ∈ rest, (j : Int) ≤ q.f1) → s.size ≤ i + p + f → (i + p ≤ j) → j - i ≤ p + g →
    pcs (s.extract i j) g p = l.map (fun q => ⟨q.f0, q.f1 - i, q.f2, q.f3⟩)
  | 0, g, p, l, rest, h, h1, h2, h3, h4, h5, h6 => by
    have : l = [] := by simp [pcs] at h; exact h.1
    subst this
    rw [pcs_end _ _ _ (by simp [ByteArray.size_extract]; omega)]
    rfl
  | f + 1, g, p, l, rest, h, h1, h2, h3, h4, h5, h6 => by
    by_cases hp : i + p < s.size
    · rw [pcs, if_pos hp] at h
      rcases l with _ | ⟨q, l⟩
      · simp only [List.nil_append] at h
        have := h3 (pcAt s (i + p)) (by rw [← h]; simp)
        simp only [pcAt] at this
        rw [pcs_end _ _ _ (by simp [ByteArray.size_extract]; omega)]
        rfl
      · simp only [List.cons_append, List.cons.injEq] at h
        obtain ⟨rfl, h⟩ := h
        have hq := h1 _ (List.mem_cons_self ..)
        simp only [pcAt] at hq
        have hw := Lib.decode_width_pos s (i + p) hp
        obtain ⟨g, rfl⟩ : ∃ q, g = q + 1 := ⟨g - 1, by omega⟩
        rw [pcs, if_pos (by simp [ByteArray.size_extract]; omega)]
        have hd := decode_cut s i p j (by omega) hj (by omega)
        rw [hd]
        simp only [List.map_cons, List.cons.injEq]
        refine ⟨?_, ?_⟩
        · simp only [pcAt, hd]
          congr 1
          omega
        · refine pcs_shift s i j hj f g (p + (Utf8.decode s (i + p)).2) l rest (by rw [← h]; congr 1; omega) (fun q hq => h1 q (List.mem_cons_of_mem _ hq)) (fun _ => by omega) h3 (by omega) (by omega) (by omega)
    · rw [pcs_end s _ _ hp] at h
      have : l = [] := by
        cases l with
        | nil => rfl
        | cons => simp at h
      subst this
      rw [pcs_end _ _ _ (by simp [ByteArray.size_extract]; omega)]
      rfl
theorem pcs_chain (s : ByteArray) : ∀ f i, (pcs s f i).Pairwise (fun p q => p.f1 + p.f2 ≤ q.f1) ∧ ∀ p ∈ pcs s f i, (i : Int) ≤ p.f1 ∧ p.f1 + p.f2 ≤ s.size ∧ 1 ≤ p.f2
  | 0, i => by simp [pcs]
  | f + 1, i => by
    unfold pcs
    split
    · rename_i hi
      have hw := Lib.decode_width_pos s i hi
      have hl := (decode_le65 s i hi).2
      obtain ⟨h1, h2⟩ := pcs_chain s f (i + (Utf8.decode s i).2)
      refine ⟨List.pairwise_cons.2 ⟨fun q hq => ?_, h1⟩, fun p hp => ?_⟩
      · have := (h2 q hq).1
        simp only [pcAt]
        omega
      · rcases List.mem_cons.1 hp with rfl | hp
        · simp only [pcAt]; omega
        · have := h2 p hp; omega
    · simp
theorem pcs_drop (s : ByteArray) : ∀ k f i, k ≤ (pcs s f i).length → s.size ≤ i + f → i ≤ s.size → ∃ f' i', pcs s f' i' = (pcs s f i).drop k ∧ s.size ≤ i' + f' ∧ i' ≤ s.size ∧ (∀ q, (pcs s f i)[k]? = some q → (i' : Int) = q.f1) ∧ ((pcs s f i)[k]? = none → i' = s.size)
  | 0, f, i, _, h1, h2 => by
    refine ⟨f, i, by simp, h1, h2, fun q hq => ?_, fun hq => ?_⟩
    · cases f with
      | zero => simp [pcs] at hq
      | succ f =>
        unfold pcs at hq
        split at hq
        · simp only [List.getElem?_cons_zero, Option.some.injEq] at hq
          rw [← hq]; rfl
        · simp at hq
    · by_cases hi : i < s.size
      · obtain ⟨f, rfl⟩ : ∃ q, f = q + 1 := ⟨f - 1, by omega⟩
        rw [pcs, if_pos hi] at hq
        simp at hq
      · omega
  | k + 1, f, i, hk, h1, h2 => by
    cases f with
    | zero => simp [pcs] at hk
    | succ f =>
      by_cases hi : i < s.size
      · have e : pcs s (f + 1) i = pcAt s i :: pcs s f (i + (Utf8.decode s i).2) := by rw [pcs, if_pos hi]
        have hw := Lib.decode_width_pos s i hi
        have hl := (decode_le65 s i hi).2
        rw [e] at hk ⊢
        obtain ⟨f', i', a, b, c, d, g⟩ := pcs_drop s k f (i + (Utf8.decode s i).2) (by simpa using hk) (by omega) hl
        exact ⟨f', i', by simpa using a, b, c, fun q hq => d q (by simpa using hq), fun hq => g (by simpa using hq)⟩
      · rw [pcs_end s _ _ hi] at hk
        simp at hk
theorem plc_at (s : ByteArray) (k : Nat) (hk : k ≤ (pieces s).length) : ∃ f, pcs s f (plc s k).toNat = (pieces s).drop k ∧ s.size ≤ (plc s k).toNat + f ∧ (plc s k).toNat ≤ s.size ∧ 0 ≤ plc s k := by
  obtain ⟨f', i', a, b, c, d, g⟩ := pcs_drop s k s.size 0 hk (by omega) (by omega)
  have : plc s k = (i' : Int) := by
    unfold plc
    by_cases e : k = (pieces s).length
    · rw [if_pos (by omega)]
      rw [g (List.getElem?_eq_none (by rw [e]; exact Nat.le_refl _))]
    · rw [if_neg (by omega), rd_pc _ _ (by omega) (by omega)]
      exact (d _ (List.getElem?_eq_getElem (l := pieces s) (i := k) (by omega))).symm
  rw [this]
  exact ⟨f', a, b, c, by omega⟩
theorem runes_mid (s : ByteArray) (lo hi : Nat) (h1 : lo ≤ hi) (h2 : hi ≤ (pieces s).length) : runesOf (partS s (lo : Int) (hi : Int)) = (((pieces s).drop lo).take (hi - lo)).map (·.f0) := by
  obtain ⟨f1, a1, b1, c1, d1⟩ := plc_at s lo (by omega)
  obtain ⟨f2, a2, b2, c2, d2⟩ := plc_at s hi h2
  obtain ⟨p1, p2, p3⟩ := plc_ok s (lo : Int) (hi : Int) (by omega) (by omega) (by omega)
  unfold runesOf partS pieces
  have hsz : (s.extract (plc s lo).toNat (plc s hi).toNat).size = (plc s hi).toNat - (plc s lo).toNat := by simp [ByteArray.size_extract]; omega
  have hsplit : (pieces s).drop lo = ((pieces s).drop lo).take (hi - lo) ++ (pieces s).drop hi := by
    have := (List.take_append_drop (hi - lo) ((pieces s).drop lo)).symm
    rwa [List.drop_drop, show lo + (hi - lo) = hi by omega] at this
  have hch := pcs_chain s f1 (plc s lo).toNat
  rw [a1, hsplit] at hch
  rw [pcs_shift s (plc s lo).toNat (plc s hi).toNat c2 f1 _ 0 (((pieces s).drop lo).take (hi - lo)) ((pieces s).drop hi) (by rw [Nat.add_zero, a1, ← hsplit]) (fun q hq => ?_) (fun _ => by omega) (fun q hq => ?_) (by omega) (by omega) (by rw [hsz]; omega)]
  · rw [List.map_map]; rfl
  · have hall := hch.2 q (List.mem_append_left _ hq)
    by_cases e : hi = (pieces s).length
    · have : plc s (hi : Int) = (s.size : Int) := by unfold plc; exact if_pos (by omega)
      omega
    · have hm : (pieces s)[hi] ∈ (pieces s).drop hi := by
        rw [List.drop_eq_getElem_cons (by omega)]; exact List.mem_cons_self ..
      have := (List.pairwise_append.1 hch.1).2.2 q hq _ hm
      have hp : plc s (hi : Int) = ((pieces s)[hi]'(by omega)).f1 := by
        unfold plc
        rw [if_neg (by omega), rd_pc _ _ (by omega) (by omega)]
        rfl
      omega
  · rw [← a2] at hq
    have := ((pcs_chain s f2 (plc s hi).toNat).2 q hq).1
    omega
theorem back_one (s : ByteArray) (i : Nat) (hi : i < s.size) : runesOf (s.extract i (i + (Utf8.decode s i).2)) = [((Utf8.decode s i).1 : Int)] := by
  have hw := Lib.decode_width_pos s i hi
  have hl := (decode_le65 s i hi).2
  have hsz : (s.extract i (i + (Utf8.decode s i).2)).size = (Utf8.decode s i).2 := by simp [ByteArray.size_extract]; omega
  have hd := decode_cut s i 0 (i + (Utf8.decode s i).2) (by omega) hl (by simp)
  unfold runesOf pieces
  rw [hsz]
  obtain ⟨w, hw2⟩ : ∃ q, (Utf8.decode s i).2 = q + 1 := ⟨(Utf8.decode s i).2 - 1, by omega⟩
  rw [hw2] at hsz hd ⊢
  rw [pcs, if_pos (by omega), pcs_end _ _ _ (by rw [hd]; simp only [Nat.add_zero]; rw [hsz, hw2]; omega)]
  simp only [List.map_cons, List.map_nil, pcAt, hd, Nat.add_zero]
theorem bt_get (s : ByteArray) (i : Nat) (h : i < s.size) : bt s (i : Int) = ((s.get! i).toNat : Int) := by
  unfold bt
  rw [dif_pos (by simpa using h)]
  simp only [Int.toNat_natCast]
  congr 1
  congr 1
  exact (getElem!_pos s.data i h).symm
def cntN (s : ByteArray) (i : Nat) : Nat := (s.data.toList.take i).count 10
theorem data_at (s : ByteArray) (i : Nat) (h : i < s.size) : s.data.toList[i]? = some (s.data[i]'h) := by
  rw [Array.getElem?_toList]; exact Array.getElem?_eq_getElem h
theorem bt_data (s : ByteArray) (i : Nat) (h : i < s.size) : bt s (i : Int) = (((s.data[i]'h).toNat : Nat) : Int) := by
  unfold bt
  rw [dif_pos (by simpa using h)]
  simp only [Int.toNat_natCast]
  rfl
theorem cntN_succ (s : ByteArray) (i : Nat) (h : i < s.size) : cntN s (i + 1) = cntN s i + if bt s (i : Int) = 10 then 1 else 0 := by
  unfold cntN
  rw [List.take_add_one, data_at s i h, List.count_append, bt_data s i h]
  congr 1
  have e : (s.data[i]'h = 10) ↔ ((((s.data[i]'h).toNat : Nat) : Int) = 10) := by
    constructor
    · intro q; rw [q]; rfl
    · intro q
      apply UInt8.toNat_inj.1
      show (s.data[i]'h).toNat = 10
      omega
  by_cases q : s.data[i]'h = 10
  · rw [if_pos (e.1 q)]; simp [q]
  · rw [if_neg (fun z => q (e.2 z))]; simp [q]
theorem lastIdx_succ (s : ByteArray) (i : Nat) (h : i < s.size) : Lib.lastIdx s 10 (i + 1) = if bt s (i : Int) = 10 then (i : Int) else Lib.lastIdx s 10 i := by
  rw [bt_data s i h]
  show (if ((s.data[i]!).toNat : Int) = 10 then (i : Int) else Lib.lastIdx s 10 i) = _
  rw [getElem!_pos s.data i h]
theorem lastIdx_range (s : ByteArray) (c : Int) : ∀ i, -1 ≤ Lib.lastIdx s c i ∧ Lib.lastIdx s c i < i
  | 0 => by constructor <;> simp [Lib.lastIdx]
  | i + 1 => by
    have := lastIdx_range s c i
    unfold Lib.lastIdx
    split <;> omega
theorem lastIdx_cut (s : ByteArray) (n : Nat) (hn : n ≤ s.size) : ∀ i, i ≤ n → Lib.lastIdx (s.extract 0 n) 10 i = Lib.lastIdx s 10 i
  | 0, _ => rfl
  | i + 1, h => by
    have hz : (s.extract 0 n).size = n := by simp [ByteArray.size_extract]; omega
    rw [lastIdx_succ s i (by omega), lastIdx_succ (s.extract 0 n) i (by omega), lastIdx_cut s n hn i (by omega), bt_get _ i (by omega), bt_get s i (by omega), get_cut s 0 n i (by omega) hn, Nat.zero_add]
theorem last_eq (s : ByteArray) (hs : s.size ≤ 65536) (at_ : Nat) (ha : at_ ≤ s.size) : strings_LastIndexByte.f (s.extract 0 ((at_ : Int)).toNat) 10 = some (Lib.lastIdx s 10 at_) := by
  have hz : (s.extract 0 at_).size = at_ := by simp [ByteArray.size_extract]; omega
  unfold strings_LastIndexByte.f Lib.lastIndexByte
  rw [Int.toNat_natCast, hz, if_pos (by omega), lastIdx_cut s at_ ha at_ (Nat.le_refl _)]
theorem count_eq (s : ByteArray) (at_ : Nat) (ha : at_ ≤ s.size) : strings_Count.f (s.extract 0 ((at_ : Int)).toNat) (⟨#[10]⟩ : ByteArray) = some (cntN s at_ : Int) := by
  unfold strings_Count.f
  rw [if_pos (show (⟨#[10]⟩ : ByteArray).size = 1 from rfl), Int.toNat_natCast, Lib.extract_data]
  simp only [Lib.countByte, cntN, List.drop_zero, Nat.sub_zero]
  rfl
theorem count_from (s : ByteArray) : ∀ f i, Lib.runeCountFrom s f i = (pcs s f i).length
  | 0, _ => rfl
  | f + 1, i => by
    unfold Lib.runeCountFrom pcs
    split
    · rw [count_from s f]; simp; omega
    · rfl
theorem count_pieces (s : ByteArray) : Lib.runeCount s = (pieces s).length := count_from s s.size 0
-- Line
def lineB (s : ByteArray) (a : Int) : Int × Int × Int :=
  if s.size > 65536 then (0, 0, 3) else if a < 0 ∨ (s.size : Int) < a then (0, 0, 2) else ((cntN s a.toNat : Int) + 1, ((pieces (s.extract (Lib.lastIdx s 10 a.toNat + 1).toNat a.toNat)).length : Int) + 1, 0)
theorem text_eq (s : ByteArray) : corpus_text.f s = some (if s.size > 65536 then 3 else 0) := by
  unfold corpus_text.f
  by_cases h : s.size > 65536
  · rw [if_pos (by omega), if_pos h]
  · rw [if_neg (by omega), if_neg h]
theorem cntN_le (s : ByteArray) (i : Nat) : cntN s i ≤ i := Nat.le_trans List.count_le_length (by simp; omega)
theorem pieces_len (s : ByteArray) : (pieces s).length ≤ s.size := pcs_length _ _ _
theorem corpusLine_eq (s : ByteArray) (a : Int) (k : Nat) (hk : 2 ≤ k) : corpus_Line.f k s a = some (lineB s a) := by
  unfold corpus_Line.f lineB
  rw [text_eq]
  simp only [Option.bind_some]
  by_cases h : s.size > 65536
  · rw [if_pos h, if_pos h, if_neg (by omega)]
  rw [if_neg h, if_neg h, if_pos rfl]
  obtain ⟨k, rfl⟩ : ∃ q, k = q + 1 := ⟨k - 1, by omega⟩
  by_cases h0 : a < 0
  · rw [if_pos h0, corpus_Line.j0, if_pos rfl, if_pos (Or.inl h0)]
  rw [if_neg h0]
  by_cases h1 : (s.size : Int) < a
  · rw [decide_eq_true (show a > (s.size : Int) from h1), corpus_Line.j0, if_pos rfl, if_pos (Or.inr h1)]
  have hor : ¬ (a < 0 ∨ (s.size : Int) < a) := by omega
  rw [decide_eq_false (show ¬ a > (s.size : Int) from h1), corpus_Line.j0, if_neg Bool.false_ne_true, if_pos (by omega), if_pos (by omega), if_neg hor]
  obtain ⟨n, rfl⟩ := Int.eq_ofNat_of_zero_le (show 0 ≤ a by omega)
  have hl := lastIdx_range s 10 n
  have hc := cntN_le s n
  have hn : n ≤ s.size := by omega
  rw [last_eq s (by omega) n hn, count_eq s n hn]
  simp only [Option.bind_some, Int.toNat_natCast]
  rw [w64 (by omega) (by omega), w64 (by omega) (by omega), if_pos (by omega), if_pos (by omega)]
  have hz : (s.extract (Lib.lastIdx s 10 n + 1).toNat n).size ≤ 65536 := by simp [ByteArray.size_extract]; omega
  have hp := pieces_len (s.extract (Lib.lastIdx s 10 n + 1).toNat n)
  unfold utf8_RuneCountInString.f
  rw [if_pos (by omega), count_pieces]
  simp only [Option.bind_some]
  rw [w64 (by omega) (by omega)]
def encL (r : Int) : List Int := (Utf8.encode r).data.toList.map fun b => (b.toNat : Int)
theorem foldl_data : ∀ (ns : List Int) (s : ByteArray), (ns.foldl (fun r n => r ++ Utf8.encode n) s).data.toList = s.data.toList ++ ns.flatMap (fun n => (Utf8.encode n).data.toList)
  | [], s => by simp
  | n :: ns, s => by
    rw [List.foldl_cons, foldl_data ns]
    simp
theorem runesBytes_data (ns : List Int) : (runesBytes ns).data.toList = ns.flatMap (fun n => (Utf8.encode n).data.toList) := by
  unfold runesBytes
  rw [foldl_data]
  rfl
theorem ba_ext {a b : ByteArray} (h : a.data.toList = b.data.toList) : a = b := ByteArray.ext (Array.ext' h)
theorem runesBytes_append (a b : List Int) : runesBytes (a ++ b) = runesBytes a ++ runesBytes b := by
  apply ba_ext
  rw [runesBytes_data, ByteArray.data_append, Array.toList_append, runesBytes_data, runesBytes_data, List.flatMap_append]
theorem encL_len (r : Int) : (encL r).length ≤ 4 := by
  have := encode_size_le r
  unfold encL
  rw [List.length_map]
  rwa [Array.length_toList]
theorem strOf_enc (ns : List Int) : strOfNums (ns.flatMap encL) = runesBytes ns := by
  apply ba_ext
  rw [runesBytes_data]
  unfold strOfNums
  simp only [List.map_flatMap]
  congr 1
  funext n
  unfold encL
  rw [List.map_map]
  have : ((fun n : Int => UInt8.ofNat n.toNat) ∘ fun b : UInt8 => (b.toNat : Int)) = id := by
    funext b
    simp
  rw [this, List.map_id]
theorem pcs_mem0 (s : ByteArray) : ∀ f i, ∀ p ∈ pcs s f i, ∃ j, j < s.size ∧ p = pcAt s j
  | 0, _, p, h => by simp [pcs] at h
  | f + 1, i, p, h => by
    unfold pcs at h
    split at h
    · rename_i hi
      rcases List.mem_cons.1 h with rfl | h
      · exact ⟨i, hi, rfl⟩
      · exact pcs_mem0 s f _ p h
    · cases h
theorem pc_mem {s : ByteArray} {p : S97} (h : p ∈ pieces s) : ∃ j, j < s.size ∧ p = pcAt s j := pcs_mem0 s _ _ p h
theorem pc_range {s : ByteArray} {p : S97} (h : p ∈ pieces s) : 0 ≤ p.f0 ∧ p.f0 ≤ 1114111 := by
  obtain ⟨j, hj, rfl⟩ := pc_mem h
  have := (decode_le65 s j hj).1
  simp only [pcAt]
  omega
theorem rd_get (l : List S97) (i : Nat) (h : i < l.length) : rd_T97 l (i : Int) = l[i] := by
  have := rd_pc l (i : Int) (by omega) (by simpa using h)
  simpa using this
theorem runesBytes_nil : runesBytes [] = (⟨#[]⟩ : ByteArray) := rfl
theorem back_eq (s : ByteArray) (hs : s.size ≤ 65536) : runes_Back.f s = some (backB s, 0) := by
  unfold runes_Back.f; rw [if_neg (by omega)]
theorem len_eq (s : ByteArray) (hs : s.size ≤ 65536) : runes_Len.f s = some (((pieces s).length : Int), 0) := by
  unfold runes_Len.f
  have hl : runes_long.f s = some 0 := by unfold runes_long.f; rw [if_neg (by omega)]
  rw [hl]
  simp only [Option.bind_some]
  rw [if_pos trivial]
  unfold utf8_RuneCountInString.f
  rw [if_pos (by omega), count_pieces]
  rfl
theorem rpart_eq (s : ByteArray) (hs : s.size ≤ 65536) (lo hi : Nat) (h1 : lo ≤ hi) (h2 : hi ≤ (pieces s).length) : runes_Part.f s (lo : Int) (hi : Int) = some (partS s lo hi, 0) := by
  unfold runes_Part.f
  have hor : ¬ ((lo : Int) < 0 ∨ (hi : Int) < lo ∨ ((pieces s).length : Int) < hi) := by omega
  rw [if_neg (by omega), if_neg hor]
theorem part_size (s : ByteArray) (lo hi : Int) : (partS s lo hi).size ≤ s.size := by
  unfold partS; simp [ByteArray.size_extract]; omega
/-- The last so many pieces, or the first ones. -/
def lastP (s : ByteArray) (m : Nat) : List S97 := (pieces s).drop ((pieces s).length - m)
def firstP (s : ByteArray) (m : Nat) : List S97 := (pieces s).take m
theorem part_last (s : ByteArray) (hs : s.size ≤ 65536) (m : Nat) (hm : m ≤ 65536) : corpus_part.f s (m : Int) true = some (runesBytes ((lastP s m).map (·.f0))) := by
  unfold corpus_part.f
  have hl := pieces_len s
  rw [len_eq s hs]
  simp only [Option.bind_some]
  rw [if_pos trivial]
  have e : mx (wrap64 (((pieces s).length : Int) - (m : Int))) 0 = (((pieces s).length - m : Nat) : Int) := by
    rw [w64 (by omega) (by omega)]; unfold mx; split <;> omega
  rw [e, rpart_eq s hs _ _ (by omega) (Nat.le_refl _)]
  simp only [Option.bind_some]
  rw [back_eq _ (Nat.le_trans (part_size s _ _) hs)]
  simp only [Option.bind_some]
  unfold backB
  rw [runes_mid s _ _ (by omega) (Nat.le_refl _), List.take_of_length_le (by simp)]
  rfl
theorem part_first (s : ByteArray) (hs : s.size ≤ 65536) (m : Nat) : corpus_part.f s (m : Int) false = some (runesBytes ((firstP s m).map (·.f0))) := by
  unfold corpus_part.f
  have hl := pieces_len s
  rw [len_eq s hs]
  simp only [Option.bind_some]
  rw [if_neg Bool.false_ne_true]
  have e : mn ((pieces s).length : Int) (m : Int) = ((min (pieces s).length m : Nat) : Int) := by
    unfold mn; split <;> omega
  rw [e, show (0 : Int) = ((0 : Nat) : Int) from rfl, rpart_eq s hs 0 _ (by omega) (by omega)]
  simp only [Option.bind_some]
  rw [back_eq _ (Nat.le_trans (part_size s _ _) hs)]
  simp only [Option.bind_some]
  unfold backB firstP
  rw [runes_mid s 0 _ (by omega) (by omega), List.drop_zero, Nat.sub_zero]
  congr 3
  rcases Nat.le_total (pieces s).length m with h | h
  · rw [Nat.min_eq_left h, List.take_of_length_le (Nat.le_refl _), List.take_of_length_le h]
  · rw [Nat.min_eq_right h]
/-- Where the line ends. -/
def nlAt (s : ByteArray) : Nat → Nat → Nat
  | 0, i => i
  | d + 1, i => if bt s (i : Int) = 10 then i else nlAt s d (i + 1)
theorem nlAt_range (s : ByteArray) : ∀ d i, i ≤ nlAt s d i ∧ nlAt s d i ≤ i + d
  | 0, i => by simp [nlAt]
  | d + 1, i => by
    unfold nlAt
    split
    · omega
    · have := nlAt_range s d (i + 1); omega
theorem index_nl (s : ByteArray) : ∀ d i, i + d = s.size → Lib.indexByte (s.data.toList.drop i) 10 = if nlAt s d i < s.size then ((nlAt s d i - i : Nat) : Int) else -1
  | 0, i, h => by
    rw [List.drop_of_length_le (by rw [Array.length_toList]; show s.size ≤ i; omega)]
    rw [if_neg (by simp [nlAt]; omega)]
    rfl
  | d + 1, i, h => by
    have hi : i < s.size := by omega
    have hi2 : i < s.data.toList.length := by rw [Array.length_toList]; exact hi
    rw [List.drop_eq_getElem_cons hi2]
    unfold Lib.indexByte nlAt
    have hb := bt_data s i hi
    have ev : s.data.toList[i] = s.data[i]'hi := by simp
    rw [ev]
    have ih := index_nl s d (i + 1) (by omega)
    have hr := nlAt_range s d (i + 1)
    by_cases q : bt s (i : Int) = 10
    · have : s.data[i]'hi = 10 := by
        apply UInt8.toNat_inj.1
        show (s.data[i]'hi).toNat = 10
        omega
      rw [if_pos q, if_pos (by simp [this]), if_pos hi]
      simp
    · have : s.data[i]'hi ≠ 10 := fun z => q (by rw [hb, z]; rfl)
      rw [if_neg q, if_neg (by simp [this]), ih]
      by_cases r : nlAt s d (i + 1) < s.size
      · have hne : ¬ ((((nlAt s d (i + 1) - (i + 1) : Nat) : Int) == -1) = true) := by simp
        rw [if_pos r, if_neg hne]
        rw [if_pos r]
        omega
      · rw [if_neg r, if_pos (by rfl), if_neg r]
theorem cut_eq (s : ByteArray) (hs : s.size ≤ 65536) (i : Nat) : strings_Cut.f (s.extract (i : Int).toNat s.size) (⟨#[10]⟩ : ByteArray) = some (cutAt (s.extract i s.size) 10) := by
  unfold strings_Cut.f
  have hz : (s.extract i s.size).size ≤ s.size := by simp [ByteArray.size_extract]
  rw [Int.toNat_natCast, if_pos ⟨by omega, rfl⟩]
  rfl
theorem cut_fst (s : ByteArray) (i : Nat) (hi : i ≤ s.size) : (cutAt (s.extract i s.size) 10).1 = s.extract i (nlAt s (s.size - i) i) := by
  have hd : (s.extract i s.size).data.toList = s.data.toList.drop i := by
    rw [Lib.extract_data, List.take_of_length_le]
    simp
  have hr := nlAt_range s (s.size - i) i
  unfold cutAt
  rw [hd, index_nl s (s.size - i) i (by omega)]
  by_cases r : nlAt s (s.size - i) i < s.size
  · rw [if_pos r, if_pos (by omega), Int.toNat_natCast]
    simp only
    rw [ByteArray.extract_extract]
    congr 1 <;> omega
  · rw [if_neg r, if_neg (by omega)]
    simp only
    congr 1
    omega
-- Around
def aroundB (s : ByteArray) (a n m : Int) : ByteArray × ByteArray × ByteArray × Int :=
  if s.size > 65536 then (⟨#[]⟩, ⟨#[]⟩, ⟨#[]⟩, 3) else if a < 0 ∨ (s.size : Int) < a ∨ n < 0 ∨ (s.size : Int) - a < n ∨ m < 0 ∨ 65536 < m then (⟨#[]⟩, ⟨#[]⟩, ⟨#[]⟩, 2) else
    (runesBytes ((lastP (s.extract (Lib.lastIdx s 10 a.toNat + 1).toNat a.toNat) m.toNat).map (·.f0)), backB (s.extract a.toNat (a + n).toNat), runesBytes ((firstP (s.extract (a + n).toNat (nlAt s (s.size - (a + n).toNat) (a + n).toNat)) m.toNat).map (·.f0)), 0)
theorem ext_size (s : ByteArray) (i j : Nat) : (s.extract i j).size ≤ s.size := by simp [ByteArray.size_extract]; omega
theorem progAround_j0 (s : ByteArray) (hs : s.size ≤ 65536) (a n m : Nat) (h1 : a + n ≤ s.size) (hm : m ≤ 65536) (k : Nat) (hk : 1 ≤ k) : corpus_Around.j0 k s (a : Int) (n : Int) (m : Int) false =
    some (runesBytes ((lastP (s.extract (Lib.lastIdx s 10 a + 1).toNat a) m).map (·.f0)), backB (s.extract a (a + n)), runesBytes ((firstP (s.extract (a + n) (nlAt s (s.size - (a + n)) (a + n))) m).map (·.f0)), 0) := by
  obtain ⟨k, rfl⟩ : ∃ q, k = q + 1 := ⟨k - 1, by omega⟩
  have hl := lastIdx_range s 10 a
  have ew : wrap64 ((a : Int) + (n : Int)) = ((a + n : Nat) : Int) := by rw [w64 (by omega) (by omega)]; omega
  have ew2 : wrap64 (Lib.lastIdx s 10 a + 1) = Lib.lastIdx s 10 a + 1 := by rw [w64 (by omega) (by omega)]
  rw [corpus_Around.j0, if_neg Bool.false_ne_true, if_pos (by omega), if_pos (by omega), last_eq s hs a (by omega)]
  rw [Option.bind_some]
  try dsimp only
  rw [ew, if_pos (by omega), if_pos (by omega), cut_eq s hs]
  rw [Option.bind_some]
  try dsimp only
  rw [if_pos (by omega), Int.toNat_natCast, Int.toNat_natCast, back_eq _ (Nat.le_trans (ext_size s _ _) hs)]
  rw [Option.bind_some]
  try dsimp only
  rw [ew2, if_pos (by omega), if_pos (by omega), part_last _ (Nat.le_trans (ext_size s _ _) hs) m hm]
  rw [Option.bind_some]
  try dsimp only
  rw [cut_fst s (a + n) h1, part_first _ (Nat.le_trans (ext_size s _ _) hs) m]
  rw [Option.bind_some]
  try dsimp only
theorem progAround_eq (s : ByteArray) (a n m : Int) (k : Nat) (hk : 1 ≤ k) : corpus_Around.f k s a n m = some (aroundB s a n m) := by
  unfold corpus_Around.f aroundB
  rw [text_eq]
  simp only [Option.bind_some]
  by_cases h : s.size > 65536
  · rw [if_pos h, if_pos h, if_neg (by omega)]
  rw [if_neg h, if_neg h, if_pos rfl]
  have jt : corpus_Around.j0 k s a n m true = some (⟨#[]⟩, ⟨#[]⟩, ⟨#[]⟩, 2) := by
    obtain ⟨k, rfl⟩ : ∃ q, k = q + 1 := ⟨k - 1, by omega⟩
    rw [corpus_Around.j0, if_pos rfl]
  by_cases h0 : a < 0
  · rw [if_pos h0, jt, if_pos (Or.inl h0)]
  by_cases h1 : (s.size : Int) < a
  · rw [if_neg h0, if_pos (show a > (s.size : Int) from h1), jt, if_pos (Or.inr (Or.inl h1))]
  have ew : wrap64 ((s.size : Int) - a) = (s.size : Int) - a := by rw [w64 (by omega) (by omega)]
  by_cases h2 : n < 0
  · rw [if_neg h0, if_neg (show ¬ a > (s.size : Int) from h1), if_pos h2, jt, if_pos (Or.inr (Or.inr (Or.inl h2)))]
  by_cases h3 : (s.size : Int) - a < n
  · rw [if_neg h0, if_neg (show ¬ a > (s.size : Int) from h1), if_neg h2, ew, if_pos (show n > (s.size : Int) - a from h3), jt, if_pos (Or.inr (Or.inr (Or.inr (Or.inl h3))))]
  by_cases h4 : m < 0
  · rw [if_neg h0, if_neg (show ¬ a > (s.size : Int) from h1), if_neg h2, ew, if_neg (show ¬ n > (s.size : Int) - a from h3), if_pos h4, jt, if_pos (Or.inr (Or.inr (Or.inr (Or.inr (Or.inl h4)))))]
  rw [if_neg h0, if_neg (show ¬ a > (s.size : Int) from h1), if_neg h2, ew, if_neg (show ¬ n > (s.size : Int) - a from h3), if_neg h4]
  by_cases h5 : (65536 : Int) < m
  · rw [decide_eq_true (show m > (65536 : Int) from h5), jt, if_pos (Or.inr (Or.inr (Or.inr (Or.inr (Or.inr h5)))))]
  have hor : ¬ (a < 0 ∨ (s.size : Int) < a ∨ n < 0 ∨ (s.size : Int) - a < n ∨ m < 0 ∨ 65536 < m) := by omega
  rw [decide_eq_false (show ¬ m > (65536 : Int) from h5), if_neg hor]
  obtain ⟨a, rfl⟩ := Int.eq_ofNat_of_zero_le (show 0 ≤ a by omega)
  obtain ⟨n, rfl⟩ := Int.eq_ofNat_of_zero_le (show 0 ≤ n by omega)
  obtain ⟨m, rfl⟩ := Int.eq_ofNat_of_zero_le (show 0 ≤ m by omega)
  rw [progAround_j0 s (by omega) a n m (by omega) (by omega) k hk, show ((a : Int) + (n : Int)) = ((a + n : Nat) : Int) by omega]
  simp only [Int.toNat_natCast]
theorem lastP_sub (s : ByteArray) (m : Nat) : ∀ p ∈ lastP s m, p ∈ pieces s := fun _ h => List.mem_of_mem_drop h
theorem firstP_sub (s : ByteArray) (m : Nat) : ∀ p ∈ firstP s m, p ∈ pieces s := fun _ h => List.mem_of_mem_take h
theorem awake_eq (k : Nat) (hk : 2 ≤ k) : cognatelaw24_awake.f k = some true := by
  unfold cognatelaw24_awake.f
  rw [corpusLine_eq _ _ k hk, show lineB (⟨#[120, 10, 121, 10]⟩ : ByteArray) 2 = (2, 1, 0) by decide +kernel]
  rfl

theorem r_ext {a b : ByteArray} (h : a.data.toList = b.data.toList) : a = b := ByteArray.ext (Array.ext' h)
theorem r_cons (r : Int) (l : List Int) : runesBytes (r :: l) = Utf8.encode r ++ runesBytes l := by
  apply r_ext
  rw [runesBytes_data, ByteArray.data_append, Array.toList_append, runesBytes_data]
  rfl
theorem u8n (n : Nat) : (UInt8.ofNat n).toNat = n % 256 := rfl
-- bytes to runes and back
theorem extract_list (s : ByteArray) (i : Nat) : ∀ n, i + n ≤ s.size → (s.extract i (i + n)).data.toList = (List.range n).map (fun k => s.get! (i + k)) := fun n hn => by
  have hs : s.size = s.data.size := rfl
  rw [Lib.extract_data, show i + n - i = n by omega]
  apply List.ext_getElem
  · simp; omega
  · intro k h1 h2
    simp only [List.length_map, List.length_range] at h2
    simp only [List.getElem_take, List.getElem_drop, List.getElem_map, List.getElem_range]
    show _ = s.data[i + k]!
    rw [getElem!_pos s.data (i + k) (by omega)]
    simp
theorem ofNat_toNat (b : UInt8) (n : Nat) (h : n = b.toNat) : UInt8.ofNat n = b := by
  subst h
  apply UInt8.toNat_inj.1
  rw [u8n]
  have := b.toNat_lt
  omega
theorem dec_cases (n b0 b1 b2 b3 : Nat) (h : ¬ ((Lib.decodeN n b0 b1 b2 b3).1 = 65533 ∧ (Lib.decodeN n b0 b1 b2 b3).2 = 1)) :
    (Lib.decodeN n b0 b1 b2 b3 = (b0, 1) ∧ b0 < 128) ∨ (Lib.decodeN n b0 b1 b2 b3 = (b0 % 32 * 64 + b1 % 64, 2) ∧ b0 / 32 = 6 ∧ b1 / 64 = 2 ∧ b0 % 32 * 64 + b1 % 64 ≥ 128) ∨
    (Lib.decodeN n b0 b1 b2 b3 = (b0 % 16 * 4096 + b1 % 64 * 64 + b2 % 64, 3) ∧ b0 / 16 = 14 ∧ b1 / 64 = 2 ∧ b2 / 64 = 2 ∧ b0 % 16 * 4096 + b1 % 64 * 64 + b2 % 64 ≥ 2048) ∨
    (Lib.decodeN n b0 b1 b2 b3 = (b0 % 8 * 262144 + b1 % 64 * 4096 + b2 % 64 * 64 + b3 % 64, 4) ∧ b0 / 8 = 30 ∧ b1 / 64 = 2 ∧ b2 / 64 = 2 ∧ b3 / 64 = 2 ∧ b0 % 8 * 262144 + b1 % 64 * 4096 + b2 % 64 * 64 + b3 % 64 ≥ 65536) := by
  unfold Lib.decodeN at h ⊢
  by_cases p0 : b0 < 128
  · rw [if_pos p0]; exact .inl ⟨rfl, p0⟩
  rw [if_neg p0] at h ⊢
  by_cases p1 : b0 / 32 = 6 ∧ (1 < n ∧ b1 / 64 = 2)
  · rw [if_pos p1] at h ⊢
    by_cases q : b0 % 32 * 64 + b1 % 64 ≥ 128
    · rw [if_pos q]; exact .inr (.inl ⟨rfl, p1.1, p1.2.2, q⟩)
    · rw [if_neg q] at h; exact absurd ⟨rfl, rfl⟩ h
  rw [if_neg p1] at h ⊢
  by_cases p2 : b0 / 16 = 14 ∧ (1 < n ∧ b1 / 64 = 2) ∧ (2 < n ∧ b2 / 64 = 2)
  · rw [if_pos p2] at h ⊢
    split at h
    · rename_i q
      rw [if_pos q]; exact .inr (.inr (.inl ⟨rfl, p2.1, p2.2.1.2, p2.2.2.2, q.1⟩))
    · exact absurd ⟨rfl, rfl⟩ h
  rw [if_neg p2] at h ⊢
  by_cases p3 : b0 / 8 = 30 ∧ (1 < n ∧ b1 / 64 = 2) ∧ (2 < n ∧ b2 / 64 = 2) ∧ (3 < n ∧ b3 / 64 = 2)
  · rw [if_pos p3] at h ⊢
    split at h
    · rename_i q
      rw [if_pos q]; exact .inr (.inr (.inr ⟨rfl, p3.1, p3.2.1.2, p3.2.2.1.2, p3.2.2.2.2, q.1⟩))
    · exact absurd ⟨rfl, rfl⟩ h
  · rw [if_neg p3] at h; exact absurd ⟨rfl, rfl⟩ h
theorem dec_enc (s : ByteArray) (i : Nat) (hi : i < s.size) (h : ¬ ((Utf8.decode s i).1 = 65533 ∧ (Utf8.decode s i).2 = 1)) : s.extract i (i + (Utf8.decode s i).2) = Utf8.encode ((Utf8.decode s i).1 : Int) := by
  have hv := ((decode_valid s i).resolve_left h).2
  have hle := (decode_le65 s i hi)
  have hE : ∀ c : Nat, Utf8.valid (c : Int) = true → (Utf8.encode (c : Int)).data.toList = (if c < 0x80 then ([UInt8.ofNat c] : List UInt8)
      else if c < 0x800 then [UInt8.ofNat (0xC0 + c / 64), UInt8.ofNat (0x80 + c % 64)]
      else if c < 0x10000 then [UInt8.ofNat (0xE0 + c / 4096), UInt8.ofNat (0x80 + c / 64 % 64), UInt8.ofNat (0x80 + c % 64)]
      else [UInt8.ofNat (0xF0 + c / 262144), UInt8.ofNat (0x80 + c / 4096 % 64), UInt8.ofNat (0x80 + c / 64 % 64), UInt8.ofNat (0x80 + c % 64)]) := fun c hc => by
    unfold Utf8.encode
    simp only [hc, if_true, Int.toNat_natCast]
    by_cases c1 : c < 0x80
    · rw [if_pos c1, if_pos c1]
    · rw [if_neg c1, if_neg c1]
      by_cases c2 : c < 0x800
      · rw [if_pos c2, if_pos c2]
      · rw [if_neg c2, if_neg c2]
        by_cases c3 : c < 0x10000
        · rw [if_pos c3, if_pos c3]
        · rw [if_neg c3, if_neg c3]
  have hd := Lib.decode_at s i
  have l1 : (s.get! (i + 1)).toNat ≤ 255 := Nat.le_of_lt_succ (s.get! (i + 1)).toNat_lt
  have l2 : (s.get! (i + 2)).toNat ≤ 255 := Nat.le_of_lt_succ (s.get! (i + 2)).toNat_lt
  have l3 : (s.get! (i + 3)).toNat ≤ 255 := Nat.le_of_lt_succ (s.get! (i + 3)).toNat_lt
  have q0 := ofNat_toNat (s.get! i)
  have q1 := ofNat_toNat (s.get! (i + 1))
  have q2 := ofNat_toNat (s.get! (i + 2))
  have q3 := ofNat_toNat (s.get! (i + 3))
  have hx := extract_list s i (Utf8.decode s i).2 hle.2
  apply r_ext
  rw [hx, hE _ hv]
  clear hE hx
  rw [hd] at h hv hle ⊢
  rcases dec_cases _ _ _ _ _ h with ⟨e, c1⟩ | ⟨e, c1, c2, c3⟩ | ⟨e, c1, c2, c3, c4⟩ | ⟨e, c1, c2, c3, c4, c5⟩
  · rw [e]
    dsimp only
    rw [if_pos (by omega), q0 _ rfl]
    rfl
  · rw [e] at hle ⊢
    dsimp only at hle ⊢
    rw [if_neg (by omega), if_pos (by omega), q0 _ (by omega), q1 _ (by omega)]
    rfl
  · rw [e] at hle ⊢
    dsimp only at hle ⊢
    rw [if_neg (by omega), if_neg (by omega), if_pos (by omega), q0 _ (by omega), q1 _ (by omega), q2 _ (by omega)]
    rfl
  · rw [e] at hle ⊢
    dsimp only at hle ⊢
    rw [if_neg (by omega), if_neg (by omega), if_neg (by omega), q0 _ (by omega), q1 _ (by omega), q2 _ (by omega), q3 _ (by omega)]
    rfl
theorem ext_cat (s : ByteArray) (i j : Nat) (h1 : i ≤ j) (h2 : j ≤ s.size) : s.extract i j ++ s.extract j s.size = s.extract i s.size := by
  apply r_ext
  rw [ByteArray.data_append, Array.toList_append, Lib.extract_data, Lib.extract_data, Lib.extract_data]
  have e : s.data.toList.drop j = (s.data.toList.drop i).drop (j - i) := by rw [List.drop_drop]; congr 1; omega
  have hl : s.data.toList.length = s.size := by rw [Array.length_toList]; rfl
  rw [e, List.take_of_length_le (l := ((s.data.toList.drop i).drop (j - i))) (by simp; omega), List.take_append_drop, List.take_of_length_le (by simp)]
theorem pcs_back (s : ByteArray) : ∀ f i, i ≤ s.size → s.size ≤ i + f → (∀ p ∈ pcs s f i, p.f3 = false) → runesBytes ((pcs s f i).map (·.f0)) = s.extract i s.size
  | 0, i, h0, h1, _ => by
    apply r_ext
    rw [Lib.extract_data, List.drop_of_length_le (by rw [Array.length_toList]; show s.size ≤ i; omega), List.take_nil]
    rfl
  | f + 1, i, h0, h1, h2 => by
    by_cases hi : i < s.size
    · have hw := Lib.decode_width_pos s i hi
      have hle := (decode_le65 s i hi).2
      have e : pcs s (f + 1) i = pcAt s i :: pcs s f (i + (Utf8.decode s i).2) := by rw [pcs, if_pos hi]
      rw [e] at h2 ⊢
      have hb : ¬ ((Utf8.decode s i).1 = 65533 ∧ (Utf8.decode s i).2 = 1) := by
        have := h2 _ (List.mem_cons_self ..)
        simpa [pcAt] using this
      rw [List.map_cons, r_cons, pcs_back s f _ hle (by omega) (fun p hp => h2 p (List.mem_cons_of_mem _ hp)), ← ext_cat s i (i + (Utf8.decode s i).2) (by omega) hle, dec_enc s i hi hb]
      rfl
    · rw [pcs_end s _ _ hi]
      apply r_ext
      rw [Lib.extract_data, List.drop_of_length_le (by rw [Array.length_toList]; show s.size ≤ i; omega), List.take_nil]
      rfl
theorem pieces_back (s : ByteArray) (h : ∀ p ∈ pieces s, p.f3 = false) : runesBytes ((pieces s).map (·.f0)) = s := by
  have := pcs_back s s.size 0 (Nat.zero_le _) (by omega) h
  rw [show (pieces s) = pcs s s.size 0 from rfl, this]
  apply r_ext
  rw [Lib.extract_data, List.drop_zero, Nat.sub_zero, List.take_of_length_le (by rw [Array.length_toList]; exact Nat.le_refl _)]
-- letters of an alphabet that may be


-- lines, and texts where nothing is broken
theorem dec_tail (n b0 b1 b2 b3 : Nat) : (1 < (Lib.decodeN n b0 b1 b2 b3).2 → 128 ≤ b1) ∧ (2 < (Lib.decodeN n b0 b1 b2 b3).2 → 128 ≤ b2) ∧ (3 < (Lib.decodeN n b0 b1 b2 b3).2 → 128 ≤ b3) ∧ (Lib.decodeN n b0 b1 b2 b3).2 ≤ 4 ∧ (b0 < 128 → (Lib.decodeN n b0 b1 b2 b3).2 = 1) := by
  unfold Lib.decodeN
  repeat' split
  all_goals (refine ⟨fun h => ?_, fun h => ?_, fun h => ?_, ?_, fun h => ?_⟩ <;> dsimp only at * <;> omega)
theorem tail_hi (s : ByteArray) (i p : Nat) (h1 : i < p) (h2 : p < i + (Utf8.decode s i).2) : 128 ≤ (s.get! p).toNat := by
  rw [Lib.decode_at] at h2
  obtain ⟨t1, t2, t3, t4, _⟩ := dec_tail (s.size - i) (s.get! i).toNat (s.get! (i + 1)).toNat (s.get! (i + 2)).toNat (s.get! (i + 3)).toNat
  generalize (Lib.decodeN (s.size - i) (s.get! i).toNat (s.get! (i + 1)).toNat (s.get! (i + 2)).toNat (s.get! (i + 3)).toNat).2 = w at *
  rcases (show p = i + 1 ∨ p = i + 2 ∨ p = i + 3 by omega) with rfl | rfl | rfl
  · exact t1 (by omega)
  · exact t2 (by omega)
  · exact t3 (by omega)
theorem small_one (s : ByteArray) (i : Nat) (h : (s.get! i).toNat < 128) : (Utf8.decode s i).2 = 1 := by
  rw [Lib.decode_at]
  exact (dec_tail _ _ _ _ _).2.2.2.2 h
/-- A small byte stands by itself. -/
theorem pcs_small (s : ByteArray) : ∀ f i p, i ≤ p → p < s.size → (s.get! p).toNat < 128 → s.size ≤ i + f → ∃ l f', pcs s f i = l ++ pcs s f' p ∧ s.size ≤ p + f' ∧ ∀ q ∈ l, q.f1 + q.f2 ≤ p
  | 0, i, p, h1, h2, h3, h4 => absurd h4 (by omega)
  | f + 1, i, p, h1, h2, h3, h4 => by
    by_cases e : i = p
    · subst e; exact ⟨[], f + 1, rfl, h4, by simp⟩
    · have hi : i < s.size := by omega
      have hw := Lib.decode_width_pos s i hi
      have hle : i + (Utf8.decode s i).2 ≤ p := by
        rcases Nat.lt_or_ge p (i + (Utf8.decode s i).2) with h | h
        · have := tail_hi s i p (by omega) h; omega
        · exact h
      obtain ⟨l, f', a, b, c⟩ := pcs_small s f (i + (Utf8.decode s i).2) p hle h2 h3 (by omega)
      refine ⟨pcAt s i :: l, f', by rw [pcs, if_pos hi, a]; rfl, b, fun q hq => ?_⟩
      rcases List.mem_cons.1 hq with rfl | hq
      · simp only [pcAt]; omega
      · exact c q hq
theorem pieces_small (s : ByteArray) (p : Nat) (h2 : p < s.size) (h3 : (s.get! p).toNat < 128) : ∃ l f', pieces s = l ++ pcs s f' p ∧ s.size ≤ p + f' ∧ ∀ q ∈ l, q.f1 + q.f2 ≤ p :=
  pcs_small s s.size 0 p (by omega) h2 h3 (by omega)
def unbroken (s : ByteArray) : Prop := ∀ p ∈ pieces s, p.f3 = false
theorem broken_no (s : ByteArray) (h : ¬ brokenAt (pieces s) ≥ 0) : unbroken s := by
  have hp : ∀ p ∈ pieces s, 0 ≤ p.f1 := fun p hp => by obtain ⟨j, _, rfl⟩ := pc_mem hp; simp only [pcAt]; omega
  unfold unbroken
  generalize pieces s = l at *
  induction l with
  | nil => simp
  | cons x l ih =>
    unfold brokenAt at h
    intro p hpm
    by_cases hx : x.f3 = true
    · rw [if_pos hx] at h
      exact absurd (hp x (List.mem_cons_self ..)) h
    · rw [if_neg hx] at h
      rcases List.mem_cons.1 hpm with rfl | hpm
      · simpa using hx
      · exact ih h (fun q hq => hp q (List.mem_cons_of_mem _ hq)) p hpm
theorem unbroken_nil : unbroken ⟨#[]⟩ := by intro p hp; cases hp
theorem unbroken_suffix (s : ByteArray) (b f' : Nat) (l : List S97) (h : pieces s = l ++ pcs s f' b) (hb : b ≤ s.size) (hf : s.size ≤ b + f') (hw : unbroken s) : unbroken (s.extract b s.size) := by
  have hz : (s.extract b s.size).size = s.size - b := by simp [ByteArray.size_extract]
  have hc := pcs_chain s f' b
  intro p hp
  unfold pieces at hp
  rw [pcs_shift s b s.size (Nat.le_refl _) f' _ 0 (pcs s f' b) [] (by simp) (fun q hq => (hc.2 q hq).2.1) (fun _ => by omega) (by simp) (by omega) (by omega) (by omega)] at hp
  obtain ⟨q, hq, rfl⟩ := List.mem_map.1 hp
  exact hw q (by rw [h]; exact List.mem_append_right _ hq)
theorem unbroken_prefix (s : ByteArray) (e f' : Nat) (l : List S97) (h : pieces s = l ++ pcs s f' e) (he : e ≤ s.size) (hl : ∀ q ∈ l, q.f1 + q.f2 ≤ e) (hw : unbroken s) : unbroken (s.extract 0 e) := by
  have hz : (s.extract 0 e).size = e := by simp [ByteArray.size_extract]; omega
  have hc := pcs_chain s f' e
  intro p hp
  unfold pieces at hp
  rw [pcs_shift s 0 e he s.size _ 0 l (pcs s f' e) (by simpa [pieces] using h) hl (fun _ => by omega) (fun q hq => (hc.2 q hq).1) (by omega) (by omega) (by omega)] at hp
  obtain ⟨q, hq, rfl⟩ := List.mem_map.1 hp
  exact hw q (by rw [h]; exact List.mem_append_left _ hq)
theorem take_back (s : ByteArray) : ∀ f i m, i ≤ s.size → s.size ≤ i + f → (∀ p ∈ pcs s f i, p.f3 = false) → ∃ j, i ≤ j ∧ j ≤ s.size ∧ runesBytes (((pcs s f i).take m).map (·.f0)) = s.extract i j
  | f, i, 0, h1, h2, h3 => ⟨i, Nat.le_refl _, h1, by simp [runesBytes_nil]; rfl⟩
  | 0, i, m + 1, h1, h2, h3 => ⟨i, Nat.le_refl _, h1, by simp [pcs, runesBytes_nil]; rfl⟩
  | f + 1, i, m + 1, h1, h2, h3 => by
    by_cases hi : i < s.size
    · have e : pcs s (f + 1) i = pcAt s i :: pcs s f (i + (Utf8.decode s i).2) := by rw [pcs, if_pos hi]
      have hw := Lib.decode_width_pos s i hi
      have hl := (decode_le65 s i hi).2
      rw [e] at h3 ⊢
      obtain ⟨j, a, b, c⟩ := take_back s f (i + (Utf8.decode s i).2) m hl (by omega) (fun p hp => h3 p (List.mem_cons_of_mem _ hp))
      have h0 := h3 _ (List.mem_cons_self ..)
      simp only [pcAt, decide_eq_false_iff_not] at h0
      refine ⟨j, by omega, b, ?_⟩
      rw [List.take_succ_cons, List.map_cons, show (pcAt s i).f0 :: ((pcs s f (i + (Utf8.decode s i).2)).take m).map (·.f0) = [(pcAt s i).f0] ++ ((pcs s f (i + (Utf8.decode s i).2)).take m).map (·.f0) from rfl, runesBytes_append, c]
      have h1' : runesBytes [(pcAt s i).f0] = s.extract i (i + (Utf8.decode s i).2) := by
        rw [dec_enc s i hi h0]
        apply ba_ext
        rw [runesBytes_data]
        simp [pcAt]
      rw [h1']
      apply ba_ext
      rw [ByteArray.data_append, Array.toList_append, Lib.extract_data, Lib.extract_data, Lib.extract_data]
      rw [show j - i = (Utf8.decode s i).2 + (j - (i + (Utf8.decode s i).2)) by omega, List.take_add, List.drop_drop, show i + (Utf8.decode s i).2 - i = (Utf8.decode s i).2 by omega]
    · rw [pcs_end s _ _ hi]
      exact ⟨i, Nat.le_refl _, h1, by simp [runesBytes_nil]; rfl⟩
theorem first_back (s : ByteArray) (m : Nat) (hw : unbroken s) : ∃ j, j ≤ s.size ∧ runesBytes ((firstP s m).map (·.f0)) = s.extract 0 j := by
  obtain ⟨j, _, b, c⟩ := take_back s s.size 0 m (by omega) (by omega) hw
  exact ⟨j, b, c⟩
theorem last_back (s : ByteArray) (m : Nat) (hw : unbroken s) : ∃ j, j ≤ s.size ∧ runesBytes ((lastP s m).map (·.f0)) = s.extract j s.size := by
  obtain ⟨f', i', a, b, c, _⟩ := pcs_drop s ((pieces s).length - m) s.size 0 (show _ ≤ (pieces s).length by omega) (by omega) (by omega)
  have h := pcs_back s f' i' c b (fun p hp => hw p (by
    rw [a] at hp
    exact List.mem_of_mem_drop hp))
  rw [a] at h
  exact ⟨i', c, h⟩
theorem back_whole (s : ByteArray) (hw : unbroken s) : backB s = s := pieces_back s hw
/-- What stands right behind a line's end begins a piece. -/
theorem get_bt (s : ByteArray) (i : Nat) (h : i < s.size) (hb : bt s (i : Int) = 10) : (s.get! i).toNat = 10 := by
  rw [bt_get s i h] at hb; omega
theorem unbroken_line (s : ByteArray) (b : Nat) (hb : b < s.size) (h10 : (s.get! b).toNat = 10) (hw : unbroken s) : unbroken (s.extract (b + 1) s.size) := by
  obtain ⟨l, f', h1, h2, _⟩ := pieces_small s b hb (by omega)
  obtain ⟨f, rfl⟩ : ∃ q, f' = q + 1 := ⟨f' - 1, by omega⟩
  rw [pcs, if_pos hb, small_one s b (by omega)] at h1
  exact unbroken_suffix s (b + 1) f (l ++ [pcAt s b]) (by rw [h1]; simp) (by omega) (by omega) hw
theorem unbroken_upto (s : ByteArray) (e : Nat) (he : e < s.size) (h10 : (s.get! e).toNat = 10) (hw : unbroken s) : unbroken (s.extract 0 e) := by
  obtain ⟨l, f', h1, _, h3⟩ := pieces_small s e he (by omega)
  exact unbroken_prefix s e f' l h1 (by omega) h3 hw
theorem lastIdx_bt (s : ByteArray) : ∀ i, i ≤ s.size → 0 ≤ Lib.lastIdx s 10 i → bt s (Lib.lastIdx s 10 i) = 10
  | 0, _, h => by simp [Lib.lastIdx] at h
  | i + 1, hi, h => by
    rw [lastIdx_succ s i (by omega)] at h ⊢
    split
    · assumption
    · rename_i q
      rw [if_neg q] at h
      exact lastIdx_bt s i (by omega) h
theorem nlAt_bt (s : ByteArray) : ∀ d i, i + d = s.size → nlAt s d i < s.size → bt s (nlAt s d i : Int) = 10
  | 0, i, h, h1 => by simp [nlAt] at h1; omega
  | d + 1, i, h, h1 => by
    unfold nlAt at h1 ⊢
    split
    · assumption
    · rename_i q
      rw [if_neg q] at h1
      exact nlAt_bt s d (i + 1) (by omega) h1
theorem ext_ext (s : ByteArray) (i j k l : Nat) (hj : j ≤ s.size) (hl : i + l ≤ j) : (s.extract i j).extract k l = s.extract (i + k) (i + l) := by
  rw [ByteArray.extract_extract]
  congr 1
  omega
theorem line_left (s : ByteArray) (a : Nat) (ha : a ≤ s.size) (hw : unbroken (s.extract 0 a)) : unbroken (s.extract (Lib.lastIdx s 10 a + 1).toNat a) := by
  have hz : (s.extract 0 a).size = a := by simp [ByteArray.size_extract]; omega
  have hr := lastIdx_range s 10 a
  by_cases h : 0 ≤ Lib.lastIdx s 10 a
  · have hb := lastIdx_bt s a ha h
    obtain ⟨p, hp⟩ := Int.eq_ofNat_of_zero_le h
    rw [hp] at hb hr ⊢
    have hps : p < s.size := by omega
    have hu := unbroken_line (s.extract 0 a) p (by omega) (by rw [get_cut s 0 a p (by omega) ha, Nat.zero_add]; exact get_bt s p hps hb) hw
    rw [hz, ext_ext s 0 a (p + 1) a ha (by omega), Nat.zero_add, Nat.zero_add] at hu
    exact hu
  · rw [show Lib.lastIdx s 10 a + 1 = 0 by omega]
    exact hw
theorem line_right (s : ByteArray) (b : Nat) (hb : b ≤ s.size) (hw : unbroken (s.extract b s.size)) : unbroken (s.extract b (nlAt s (s.size - b) b)) := by
  have hz : (s.extract b s.size).size = s.size - b := by simp [ByteArray.size_extract]
  have hr := nlAt_range s (s.size - b) b
  by_cases h : nlAt s (s.size - b) b < s.size
  · have hb2 := nlAt_bt s (s.size - b) b (by omega) h
    obtain ⟨e, he⟩ : ∃ e, nlAt s (s.size - b) b = b + e := ⟨nlAt s (s.size - b) b - b, by omega⟩
    rw [he] at hb2 h ⊢
    have hu := unbroken_upto (s.extract b s.size) e (by omega) (by rw [get_cut s b s.size e h (Nat.le_refl _)]; exact get_bt s (b + e) h hb2) hw
    rw [ext_ext s b s.size 0 e (Nat.le_refl _) (by omega), Nat.add_zero] at hu
    exact hu
  · rw [show nlAt s (s.size - b) b = s.size by omega]
    exact hw
theorem ext_join (s : ByteArray) (i j k : Nat) (h1 : i ≤ j) (h2 : j ≤ k) (h3 : k ≤ s.size) : s.extract i j ++ s.extract j k = s.extract i k := by
  apply ba_ext
  rw [ByteArray.data_append, Array.toList_append, Lib.extract_data, Lib.extract_data, Lib.extract_data]
  rw [show k - i = (j - i) + (k - j) by omega, List.take_add, List.drop_drop, show i + (j - i) = j by omega]
/-- What stands around a place where nothing is broken. -/
theorem around_whole (s : ByteArray) (a n m : Nat) (h1 : a + n ≤ s.size) (hA : unbroken (s.extract 0 a)) (hH : unbroken (s.extract a (a + n))) (hR : unbroken (s.extract (a + n) s.size)) :
    ∃ i j, i ≤ a ∧ a + n ≤ j ∧ j ≤ s.size ∧ runesBytes ((lastP (s.extract (Lib.lastIdx s 10 a + 1).toNat a) m).map (·.f0)) = s.extract i a ∧ backB (s.extract a (a + n)) = s.extract a (a + n) ∧
      runesBytes ((firstP (s.extract (a + n) (nlAt s (s.size - (a + n)) (a + n))) m).map (·.f0)) = s.extract (a + n) j := by
  have hr := lastIdx_range s 10 a
  have hn := nlAt_range s (s.size - (a + n)) (a + n)
  obtain ⟨i, hi, e1⟩ := last_back _ m (line_left s a (by omega) hA)
  obtain ⟨j, hj, e2⟩ := first_back _ m (line_right s (a + n) h1 hR)
  have z1 : (s.extract (Lib.lastIdx s 10 a + 1).toNat a).size = a - (Lib.lastIdx s 10 a + 1).toNat := by simp [ByteArray.size_extract]; omega
  have z2 : (s.extract (a + n) (nlAt s (s.size - (a + n)) (a + n))).size = nlAt s (s.size - (a + n)) (a + n) - (a + n) := by simp [ByteArray.size_extract]; omega
  refine ⟨(Lib.lastIdx s 10 a + 1).toNat + i, a + n + j, by omega, by omega, by omega, ?_, back_whole _ hH, ?_⟩
  · rw [e1, z1, ext_ext s _ a i _ (by omega) (by omega)]
    congr 1
    omega
  · rw [e2, ext_ext s (a + n) _ 0 j (by omega) (by omega), Nat.add_zero]
/-- Where lines begin, as far as a place. -/
def linesTo (s : ByteArray) : Nat → List Int
  | 0 => [0]
  | p + 1 => if bt s (p : Int) = 10 then linesTo s p ++ [((p + 1 : Nat) : Int)] else linesTo s p
structure LineAt (s : ByteArray) (p i : Nat) (x : Int) : Prop where
  r1 : 0 ≤ x
  r2 : x ≤ p
  cnt : cntN s x.toNat = i
  last : Lib.lastIdx s 10 x.toNat + 1 = x
  pos : 0 < i → 0 < x ∧ bt s (x - 1) = 10
theorem linesTo_ok (s : ByteArray) : ∀ p, p ≤ s.size → (linesTo s p).length = cntN s p + 1 ∧ (∀ i x, (linesTo s p)[i]? = some x → LineAt s p i x) ∧ (linesTo s p).Pairwise (· < ·)
  | 0, _ => by
    refine ⟨rfl, fun i x h => ?_, by simp [linesTo]⟩
    cases i with
    | zero =>
      simp only [linesTo, List.getElem?_cons_zero, Option.some.injEq] at h
      subst h
      exact ⟨by omega, by omega, rfl, rfl, fun h => absurd h (by omega)⟩
    | succ i => simp [linesTo] at h
  | p + 1, hp => by
    obtain ⟨h1, h2, h3⟩ := linesTo_ok s p (by omega)
    have hc := cntN_succ s p (by omega)
    have hl := lastIdx_succ s p (by omega)
    unfold linesTo
    by_cases q : bt s (p : Int) = 10
    · rw [if_pos q] at hc hl ⊢
      refine ⟨by simp [h1, hc], fun i x h => ?_, List.pairwise_append.2 ⟨h3, by simp, fun x hx y hy => ?_⟩⟩
      · by_cases hi : i < (linesTo s p).length
        · rw [List.getElem?_append_left hi] at h
          obtain ⟨a, b, c, d, e⟩ := h2 i x h
          exact ⟨a, by omega, c, d, e⟩
        · rw [List.getElem?_append_right (by omega)] at h
          have hi2 : i - (linesTo s p).length = 0 := by
            rcases Nat.eq_zero_or_pos (i - (linesTo s p).length) with z | z
            · exact z
            · rw [List.getElem?_eq_none (by simp only [List.length_singleton]; omega)] at h; cases h
          rw [hi2, List.getElem?_cons_zero, Option.some.injEq] at h
          subst h
          refine ⟨by omega, by omega, ?_, ?_, fun _ => ⟨by omega, ?_⟩⟩
          · rw [Int.toNat_natCast, hc]; omega
          · rw [Int.toNat_natCast, hl]; omega
          · rw [show ((p + 1 : Nat) : Int) - 1 = (p : Int) by omega]; exact q
      · obtain ⟨i, hi⟩ := List.getElem?_of_mem hx
        have := (h2 i x hi).r2
        simp only [List.mem_singleton] at hy
        omega
    · rw [if_neg q] at hc hl ⊢
      refine ⟨by rw [h1, hc], fun i x h => ?_, h3⟩
      obtain ⟨a, b, c, d, e⟩ := h2 i x h
      exact ⟨a, by omega, c, d, e⟩
theorem lines_l0 (s : ByteArray) (hs : s.size ≤ 65536) : ∀ d i, i + d = s.size → ∀ k, d + 1 ≤ k → corpus_Lines.l0 k s (linesTo s i) (s.size : Int) (i : Int) = some (linesTo s s.size, 0)
  | 0, i, h, k + 1, hk => by
    obtain rfl : i = s.size := by omega
    rw [corpus_Lines.l0, if_neg (by omega)]
  | d + 1, i, h, k + 1, hk => by
    have hi : i < s.size := by omega
    have ew : wrap64 ((i : Int) + 1) = ((i + 1 : Nat) : Int) := by rw [w64 (by omega) (by omega)]; omega
    have ih := lines_l0 s hs d (i + 1) (by omega) k (by omega)
    have hlen := (linesTo_ok s i (by omega)).1
    have hc := cntN_le s i
    have q1 : (i : Int) < (s.size : Int) := by omega
    rw [corpus_Lines.l0, if_pos q1, if_pos (by omega), if_pos q1, ew]
    by_cases q : bt s (i : Int) = 10
    · have e : linesTo s (i + 1) = linesTo s i ++ [((i + 1 : Nat) : Int)] := if_pos q
      have hl2 : (linesTo s i).length < 17592186044416 := by omega
      rw [if_pos q, if_pos hl2, ← e]
      exact ih
    · have e : linesTo s (i + 1) = linesTo s i := if_neg q
      rw [if_neg q, ← e]
      exact ih
theorem lines_eq (s : ByteArray) (hs : s.size ≤ 65536) (k : Nat) (hk : s.size + 1 ≤ k) : corpus_Lines.f k s = some (linesTo s s.size, 0) := by
  unfold corpus_Lines.f
  rw [text_eq, if_neg (by omega)]
  simp only [Option.bind_some]
  rw [if_pos trivial]
  exact lines_l0 s hs s.size 0 (by omega) k (by omega)
theorem lines_head (s : ByteArray) : ∀ p, (linesTo s p)[0]? = some 0
  | 0 => rfl
  | p + 1 => by
    have ih := lines_head s p
    unfold linesTo
    split
    · have : 0 < (linesTo s p).length := (List.getElem?_eq_some_iff.1 ih).1
      rw [List.getElem?_append_left this, ih]
    · exact ih
theorem line_at (s : ByteArray) (hs : s.size ≤ 65536) (i : Nat) (x : Int) (h : LineAt s s.size i x) : lineB s x = ((i : Int) + 1, 1, 0) := by
  obtain ⟨h1, h2, h3, h4, _⟩ := h
  unfold lineB
  rw [if_neg (by omega), if_neg (by omega), h3, h4]
  have hz : (s.extract x.toNat x.toNat).size = 0 := by simp [ByteArray.size_extract]
  have hp := pieces_len (s.extract x.toNat x.toNat)
  rw [show (pieces (s.extract x.toNat x.toNat)).length = 0 by omega]
  rfl
theorem broken_eq (s : ByteArray) (hs : s.size ≤ 65536) : runes_Broken.f s = some (brokenAt (pieces s), 0) := by
  unfold runes_Broken.f
  exact if_neg (by omega)
theorem rd_some {l : List Int} {i : Nat} {x : Int} (h : l[i]? = some x) : rd l (i : Int) = x := by
  simp [rd, List.getD_eq_getElem?_getD, h]
theorem ext_sz (s : ByteArray) (i j : Nat) (_ : i ≤ j) (hj : j ≤ s.size) : (s.extract i j).size = j - i := by simp [ByteArray.size_extract]; omega
theorem law_end (s : ByteArray) (hs : s.size ≤ 4000) (a n m : Int) (L : List Int) (k : Nat) (hk : 2 ≤ k) : cognatelaw24_CorpusLines.l0 k s a n m L (L.length : Int) = some true := by
  obtain ⟨k, rfl⟩ : ∃ q, k = q + 1 := ⟨k - 1, by omega⟩
  rw [cognatelaw24_CorpusLines.l0, if_neg (by omega), progAround_eq s a n m k (by omega)]
  rw [Option.bind_some]
  have hab : aroundB s a n m = if a < 0 ∨ (s.size : Int) < a ∨ n < 0 ∨ (s.size : Int) - a < n ∨ m < 0 ∨ 65536 < m then (⟨#[]⟩, ⟨#[]⟩, ⟨#[]⟩, 2) else
    (runesBytes ((lastP (s.extract (Lib.lastIdx s 10 a.toNat + 1).toNat a.toNat) m.toNat).map (·.f0)), backB (s.extract a.toNat (a + n).toNat), runesBytes ((firstP (s.extract (a + n).toNat (nlAt s (s.size - (a + n).toNat) (a + n).toNat)) m.toNat).map (·.f0)), 0) := if_neg (by omega)
  by_cases hor : a < 0 ∨ (s.size : Int) < a ∨ n < 0 ∨ (s.size : Int) - a < n ∨ m < 0 ∨ 65536 < m
  · have he : (⟨#[]⟩ : ByteArray).toList = [] := by decide +kernel
    rw [hab, if_pos hor, if_neg (by decide), if_pos he, if_pos he, he]
    rfl
  · rw [if_neg hor] at hab
    obtain ⟨a, rfl⟩ := Int.eq_ofNat_of_zero_le (show 0 ≤ a by omega)
    obtain ⟨n, rfl⟩ := Int.eq_ofNat_of_zero_le (show 0 ≤ n by omega)
    obtain ⟨m, rfl⟩ := Int.eq_ofNat_of_zero_le (show 0 ≤ m by omega)
    have ew : wrap64 ((a : Int) + (n : Int)) = ((a + n : Nat) : Int) := by rw [w64 (by omega) (by omega)]; omega
    have en : ((a : Int) + (n : Int)) = ((a + n : Nat) : Int) := by omega
    have han : a + n ≤ s.size := by omega
    rw [en] at hab
    simp only [Int.toNat_natCast] at hab
    have z : ∀ i j, (s.extract i j).size ≤ 65536 := fun i j => Nat.le_trans (ext_size s i j) (by omega)
    rw [hab, if_pos rfl, if_pos (by omega), if_pos (by omega), ew, Int.toNat_natCast, Int.toNat_natCast, broken_eq _ (z _ _), Option.bind_some]
    rw [if_pos (by omega), if_pos (by omega), broken_eq _ (z _ _), Option.bind_some, if_pos (by omega), broken_eq _ (z _ _), Option.bind_some]
    dsimp only
    by_cases p1 : brokenAt (pieces (s.extract 0 a)) ≥ 0
    · rw [if_pos p1]
    by_cases p2 : brokenAt (pieces (s.extract a (a + n))) ≥ 0
    · rw [if_neg p1, if_pos p2]
    by_cases p3 : brokenAt (pieces (s.extract (a + n) s.size)) ≥ 0
    · rw [if_neg p1, if_neg p2, if_pos p3]
    rw [if_neg p1, if_neg p2, if_neg p3]
    obtain ⟨i, j, hi, hj, hjs, e1, e2, e3⟩ := around_whole s a n m han (broken_no _ p1) (broken_no _ p2) (broken_no _ p3)
    rw [e1, e2, e3]
    clear e1 e2 e3 hab p1 p2 p3
    have c1 : (i : Int) ≥ 0 := by omega
    have c2 : (j : Int) ≤ (s.size : Int) := by omega
    have c3 : (i : Int) ≤ (j : Int) := by omega
    have c4 : a - i + n ≤ 9223372036854775807 := by omega
    have c5 : a + n - i + (j - (a + n)) ≤ 9223372036854775807 := by omega
    have c6 : wrap64 ((a : Int) - ((a - i : Nat) : Int)) = (i : Int) := by rw [w64 (by omega) (by omega)]; omega
    have c7 : wrap64 (((a + n : Nat) : Int) + ((j - (a + n) : Nat) : Int)) = (j : Int) := by rw [w64 (by omega) (by omega)]; omega
    have c8 : a ≤ a + n := by omega
    have c9 : i ≤ a + n := by omega
    have c10 : a ≤ s.size := by omega
    have c11 : a + n - a = n := by omega
    have z1 := ext_sz s i a hi c10
    have z2 : (s.extract a (a + n)).size = n := (ext_sz s a (a + n) c8 han).trans c11
    have z3 := ext_sz s (a + n) j hj hjs
    have z4 := ext_sz s i (a + n) c9 han
    have j1 := ext_join s i a (a + n) hi c8 han
    have j2 := ext_join s i (a + n) j c9 hj hjs
    have k1 : (s.extract i a).size + (s.extract a (a + n)).size ≤ 9223372036854775807 := by rw [z1, z2]; exact c4
    have k2 : (s.extract i (a + n)).size + (s.extract (a + n) j).size ≤ 9223372036854775807 := by rw [z3, z4]; exact c5
    have w1 : wrap64 ((a : Int) - ((s.extract i a).size : Int)) = (i : Int) := by rw [z1]; exact c6
    have w2 : wrap64 (((a + n : Nat) : Int) + ((s.extract (a + n) j).size : Int)) = (j : Int) := by rw [z3]; exact c7
    rw [w1, w2, if_pos c1, if_pos c2, if_pos c1, if_pos c3, if_pos k1, j1, if_pos k2, j2, Int.toNat_natCast, Int.toNat_natCast, if_pos rfl]
    simp
theorem law_l0 (s : ByteArray) (hs : s.size ≤ 4000) (a n m : Int) : ∀ d i, i + d = (linesTo s s.size).length → ∀ k, d + 2 ≤ k → cognatelaw24_CorpusLines.l0 k s a n m (linesTo s s.size) (i : Int) = some true
  | 0, i, h, k, hk => by
    obtain rfl : i = (linesTo s s.size).length := by omega
    exact law_end s hs a n m _ k hk
  | d + 1, i, h, 0, hk => absurd hk (by omega)
  | d + 1, i, h, k + 1, hk => by
    obtain ⟨ok1, ok2, ok3⟩ := linesTo_ok s s.size (Nat.le_refl _)
    have hc := cntN_le s s.size
    have ih := law_l0 s hs a n m d (i + 1) (by omega) k (by omega)
    have hi : i < (linesTo s s.size).length := by omega
    obtain ⟨x, hx⟩ : ∃ x, (linesTo s s.size)[i]? = some x := ⟨_, List.getElem?_eq_getElem hi⟩
    have hL := ok2 i x hx
    have ew : wrap64 ((i : Int) + 1) = ((i + 1 : Nat) : Int) := by rw [w64 (by omega) (by omega)]; omega
    rw [cognatelaw24_CorpusLines.l0, if_pos (by omega), if_pos (by omega), rd_some hx, corpusLine_eq s x k (by omega), line_at s (by omega) i x hL, Option.bind_some]
    dsimp only
    rw [if_pos rfl, ew, if_pos (by omega), if_pos rfl]
    by_cases h0 : i = 0
    · subst h0
      rw [if_neg (by omega)]
      exact ih
    · obtain ⟨j, rfl⟩ : ∃ j, i = j + 1 := ⟨i - 1, by omega⟩
      obtain ⟨y, hy⟩ : ∃ y, (linesTo s s.size)[j]? = some y := ⟨_, List.getElem?_eq_getElem (by omega)⟩
      have hw : wrap64 (((j + 1 : Nat) : Int) - 1) = (j : Int) := by rw [w64 (by omega) (by omega)]; omega
      have hlt : y < x := by
        have h1 := List.pairwise_iff_getElem.1 ok3 j (j + 1) (by omega) hi (by omega)
        rw [List.getElem?_eq_getElem (by omega)] at hy
        rw [List.getElem?_eq_getElem hi] at hx
        rw [← Option.some.inj hy, ← Option.some.inj hx]
        exact h1
      obtain ⟨p1, p2⟩ := hL.pos (by omega)
      have r2 := hL.r2
      have hw2 : wrap64 (x - 1) = x - 1 := w64 (by omega) (by omega)
      rw [if_pos (by omega), hw, if_pos (by omega), if_pos (by omega), rd_some hy, if_neg (by omega), hw2, if_pos (by omega), if_pos (by omega), if_pos p2]
      exact ih
theorem CorpusLines : ∀ (a0 : ByteArray) (a1 : Int) (a2 : Int) (a3 : Int), (a0.size ≤ 140737488351232) → ((Lit.int .i64 a1).wf = true) → ((Lit.int .i64 a2).wf = true) → ((Lit.int .i64 a3).wf = true) → ∃ k, cognatelaw24_CorpusLines.f k a0 a1 a2 a3 = some true := by
  intro a0 a1 a2 a3 _ _ _ _
  obtain ⟨k, hk⟩ : ∃ k, 3 * a0.size + 70000 ≤ k := ⟨_, Nat.le_refl _⟩
  refine ⟨k, ?_⟩
  unfold cognatelaw24_CorpusLines.f
  rw [awake_eq k (by omega)]
  rw [Option.bind_some, if_pos rfl]
  by_cases hs : a0.size ≤ 4000
  · have ok1 := (linesTo_ok a0 a0.size (Nat.le_refl _)).1
    have hc := cntN_le a0 a0.size
    rw [if_neg (by omega), lines_eq a0 (by omega) k (by omega), Option.bind_some]
    dsimp only
    have h0 : rd (linesTo a0 a0.size) 0 = 0 := rd_some (i := 0) (lines_head a0 a0.size)
    rw [if_pos rfl, if_neg (by omega), if_pos (by omega), h0]
    obtain ⟨k, rfl⟩ : ∃ q, k = q + 1 := ⟨k - 1, by omega⟩
    rw [cognatelaw24_CorpusLines.j0, if_neg (by decide)]
    exact law_l0 a0 hs a1 a2 a3 (linesTo a0 a0.size).length 0 (by omega) k (by omega)
  · rw [if_pos (by omega)]
end Go.Proofs.YtfpfdmenhgageaaDoor.Pure
