import Derived.Test.YtfpfdmenhgageaaDoorWRd
import Derived.Test.YtfpfdmenhgageaaDoorWx11
namespace Go.Proofs.YtfpfdmenhgageaaDoor.Pure
open Go.RowKit Go.Proofs.YtfpfdmenhgageaaDoor.W Go.Proofs.YtfpfdmenhgageaaDoorW.PrintWords Go.Proofs.YtfpfdmenhgageaaDoorW.PrintLast Go.Proofs.YtfpfdmenhgageaaDoorW.PrintMore
set_option linter.unusedVariables false
set_option linter.unusedSimpArgs false
theorem w64 {n : Int} (h0 : -9223372036854775808 ≤ n) (h1 : n ≤ 9223372036854775807) : wrap64 n = n := by unfold wrap64; omega
theorem lettersB_len (fs : List ByteArray) (ls : List S118) (s : ByteArray) : (lettersB fs ls s).1.length ≤ 64 := by
  have : ∀ (ps : List S97) (out : List Int), out.length ≤ 64 → (readP ls ps out).1.length ≤ 64 := by
    intro ps
    induction ps with
    | nil => intro out h; exact h
    | cons p ps ih =>
      intro out h
      unfold readP
      split
      · simp
      · split
        · simp
        · split
          · simp
          · exact ih _ (by simp; omega)
  unfold lettersB
  split
  · exact this _ _ (by simp)
  · simp
theorem fits_of {fs : List ByteArray} (h : ∀ y ∈ fs, y.size ≤ 140737488351232) : fitsS fs = true := by
  unfold fitsS
  exact List.all_eq_true.2 fun y hy => decide_eq_true (by have := h y hy; omega)
-- what is read of a text's beginning is what is read of all
theorem decode_cut (s : ByteArray) (n i : Nat) (h : i + 4 ≤ n) (hn : n ≤ s.size) : Utf8.decode (s.extract 0 n) i = Utf8.decode s i := by
  have hg : ∀ j, j < n → (s.extract 0 n).get! j = s.get! j := fun j hj => by
    show (s.extract 0 n).data[j]! = s.data[j]!
    simp only [ByteArray.data_extract, getElem!_def]
    rw [Array.getElem?_extract, if_pos (by have : s.data.size = s.size := rfl; omega), Nat.zero_add]
  have hsz : (s.extract 0 n).size = n := by simp [ByteArray.size_extract]; omega
  unfold Utf8.decode
  simp only [hsz, hg (i + 0) (by omega), hg (i + 1) (by omega), hg (i + 2) (by omega), hg (i + 3) (by omega), show (i + 1 < n) = True from eq_true (by omega), show (i + 2 < n) = True from eq_true (by omega), show (i + 3 < n) = True from eq_true (by omega), show (i + 1 < s.size) = True from eq_true (by omega), show (i + 2 < s.size) = True from eq_true (by omega), show (i + 3 < s.size) = True from eq_true (by omega)]
theorem width_le (s : ByteArray) (i : Nat) : (Utf8.decode s i).2 ≤ 4 := by
  unfold Utf8.decode
  simp only
  repeat' split
  all_goals simp
theorem read_cut (ls : List S118) (s : ByteArray) (hs : s.size > 65536) : ∀ m i f g out, out.length + m = 65 → out.length ≤ 64 → i + 4 * m ≤ 65532 → 65536 ≤ i + f → s.size ≤ i + g →
    readP ls (pcs (s.extract 0 65536) f i) out = readP ls (pcs s g i) out
  | 0, i, f, g, out, h0, h1, h2, h3, h4 => by omega
  | m + 1, i, f, g, out, h0, h1, h2, h3, h4 => by
    obtain ⟨f, rfl⟩ : ∃ q, f = q + 1 := ⟨f - 1, by omega⟩
    obtain ⟨g, rfl⟩ : ∃ q, g = q + 1 := ⟨g - 1, by omega⟩
    have hsz : (s.extract 0 65536).size = 65536 := by simp [ByteArray.size_extract]; omega
    have hd := decode_cut s 65536 i (by omega) (by omega)
    have hw := width_le s i
    have hw1 := Lib.decode_width_pos s i (by omega)
    rw [pcs, if_pos (by omega), pcs, if_pos (by omega)]
    have hp : pcAt (s.extract 0 65536) i = pcAt s i := by unfold pcAt; rw [hd]
    rw [hp, hd]
    simp only [readP]
    by_cases h64 : out.length = 64
    · rw [if_pos h64, if_pos h64]
    · rw [if_neg h64, if_neg h64, read_cut ls s hs m (i + (Utf8.decode s i).2) f g _ (by simp; omega) (by simp; omega) (by omega) (by omega) (by omega)]
theorem readP_cut (ls : List S118) (s : ByteArray) : readP ls (pieces (cut65 s)) [] = readP ls (pieces s) [] := by
  unfold cut65
  split
  · rename_i h
    unfold pieces
    have hsz : (s.extract 0 65536).size = 65536 := by simp [ByteArray.size_extract]; omega
    rw [hsz]
    exact read_cut ls s h 65 0 65536 s.size [] (by simp) (by simp) (by omega) (by omega) (by omega)
  · rfl
/-- Turned over. -/
def turnedB (fs : List ByteArray) (ls : List S118) (s : ByteArray) : ByteArray × Int := if (lettersB fs ls s).2 = 0 then (runesBytes (lettersB fs ls s).1.reverse, 0) else (⟨#[]⟩, (lettersB fs ls s).2)
theorem reverse_l0 (l : List Int) (hl : l.length ≤ 1000000) : ∀ d i x, i + i + d = l.length → x.length = l.length → (∀ j, j < i → x[j]? = l[l.length - 1 - j]? ∧ x[l.length - 1 - j]? = l[j]?) → (∀ j, i ≤ j → j < l.length - i → x[j]? = l[j]?) → ∀ k, d < k →
    slices_Reverse_rune_rune.l0 k x (i : Int) ((l.length : Int) - 1 - i) = some l.reverse
  | d, i, x, h0, h1, h2, h3, k + 1, hk => by
    unfold slices_Reverse_rune_rune.l0
    by_cases hlt : (i : Int) < (l.length : Int) - 1 - i
    · obtain ⟨d, rfl⟩ : ∃ q, d = q + 2 := ⟨d - 2, by omega⟩
      have ei : ((l.length : Int) - 1 - i).toNat = l.length - 1 - i := by omega
      rw [if_pos hlt, if_pos (by omega), if_pos (by omega), if_pos (by omega), if_pos (by omega), w64 (by omega) (by omega), w64 (by omega) (by omega), show ((i : Int) + 1) = ((i + 1 : Nat) : Int) by omega,
        show ((l.length : Int) - 1 - i - 1) = ((l.length : Int) - 1 - ((i + 1 : Nat) : Int)) by omega, ei, Int.toNat_natCast]
      have ra : rd x ((l.length : Int) - 1 - i) = (l[l.length - 1 - i]'(by omega)) := by
        unfold rd
        rw [ei, List.getD_eq_getElem?_getD, h3 _ (by omega) (by omega), List.getElem?_eq_getElem (by omega)]; rfl
      have rb : rd x (i : Int) = (l[i]'(by omega)) := by
        unfold rd
        rw [Int.toNat_natCast, List.getD_eq_getElem?_getD, h3 _ (by omega) (by omega), List.getElem?_eq_getElem (by omega)]; rfl
      rw [ra, rb]
      refine reverse_l0 l hl d (i + 1) _ (by omega) (by simp [h1]) (fun j hj => ?_) (fun j hj hj2 => ?_) k (by omega)
      · by_cases e : j = i
        · subst e
          constructor
          · rw [List.getElem?_set_ne (by omega), List.getElem?_set_self (by omega), List.getElem?_eq_getElem (by omega)]
          · rw [List.getElem?_set_self (by simp; omega), List.getElem?_eq_getElem (by omega)]
        · rw [List.getElem?_set_ne (by omega), List.getElem?_set_ne (by omega), List.getElem?_set_ne (by omega), List.getElem?_set_ne (by omega)]
          exact h2 j (by omega)
      · rw [List.getElem?_set_ne (by omega), List.getElem?_set_ne (by omega)]
        exact h3 j (by omega) (by omega)
    · rw [if_neg hlt]
      congr 1
      apply List.ext_getElem?
      intro j
      by_cases hj : j < l.length
      · rw [List.getElem?_reverse hj]
        by_cases h4 : j < i
        · exact (h2 j h4).1
        · by_cases h5 : j < l.length - i
          · rw [h3 j (by omega) h5]
            congr 1
            omega
          · have := (h2 (l.length - 1 - j) (by omega)).2
            rw [show l.length - 1 - (l.length - 1 - j) = j by omega] at this
            exact this
      · rw [List.getElem?_eq_none (by omega), List.getElem?_eq_none (by simp; omega)]
theorem reverse_eq (l : List Int) (hl : l.length ≤ 1000000) (k : Nat) (hk : l.length < k) : slices_Reverse_rune_rune.f k l = some l.reverse := by
  unfold slices_Reverse_rune_rune.f
  rw [w64 (by omega) (by omega)]
  have := reverse_l0 l hl l.length 0 l (by omega) rfl (fun j hj => by omega) (fun j _ _ => rfl) k hk
  simpa using this
theorem turned_eq (fs : List ByteArray) (ls : List S118) (s : ByteArray) (hf : fitsS fs = true) (k : Nat) (hk : 100 ≤ k) : word_Turned.f k fs ls s = some (turnedB fs ls s) := by
  unfold word_Turned.f turnedB word_Letters.f
  rw [if_pos hf]
  have hl := lettersB_len fs ls s
  simp only [Option.bind_some]
  generalize lettersB fs ls s = le at hl ⊢
  obtain ⟨l, e⟩ := le
  simp only at hl ⊢
  by_cases he : e = 0
  · subst he
    rw [if_pos rfl, if_pos rfl, reverse_eq l (by omega) k (by omega)]
    rfl
  · rw [if_neg he, if_neg he]
theorem awake_eq (k : Nat) (hk : 100 ≤ k) : cognatelaw03_awake.f k = some true := by
  unfold cognatelaw03_awake.f cognatelaw03_abc.f
  simp only [Option.bind_some]
  rw [turned_eq _ _ _ (by decide +kernel) k hk]
  simp only [Option.bind_some]
  decide +kernel
-- classes, peaks
theorem bits_and (x y : Int) : Go.bits .and .u32 x y = ((BitVec.ofInt 32 x &&& BitVec.ofInt 32 y).toNat : Int) := by
  have := (BitVec.ofInt 32 x &&& BitVec.ofInt 32 y).isLt
  show IntKind.u32.wrap (((BitVec.ofInt 32 x &&& BitVec.ofInt 32 y).toNat : Nat) : Int) = _
  generalize (BitVec.ofInt 32 x &&& BitVec.ofInt 32 y).toNat = n at this ⊢
  simp only [IntKind.wrap, IntKind.bits, IntKind.signed]
  simp
  omega
theorem bits_andNot (x y : Int) : Go.bits .andNot .u32 x y = ((BitVec.ofInt 32 x &&& ~~~ BitVec.ofInt 32 y).toNat : Int) := by
  have := (BitVec.ofInt 32 x &&& ~~~ BitVec.ofInt 32 y).isLt
  show IntKind.u32.wrap (((BitVec.ofInt 32 x &&& ~~~ BitVec.ofInt 32 y).toNat : Nat) : Int) = _
  generalize (BitVec.ofInt 32 x &&& ~~~ BitVec.ofInt 32 y).toNat = n at this ⊢
  simp only [IntKind.wrap, IntKind.bits, IntKind.signed]
  simp
  omega
theorem bv_sub (x y : BitVec 32) : x &&& y = y ↔ y &&& ~~~ x = 0#32 := by
  constructor
  · intro h
    apply BitVec.eq_of_getLsbD_eq
    intro i hi
    have := congrArg (fun z => z.getLsbD i) h
    simp at this ⊢
    intro h1
    simpa [hi, h1] using this
  · intro h
    apply BitVec.eq_of_getLsbD_eq
    intro i hi
    have := congrArg (fun z => z.getLsbD i) h
    simp [hi] at this ⊢
    exact this
theorem bits_sub (x p : Int) (h0 : 0 ≤ p) (h1 : p < 4294967296) : Go.bits .and .u32 x p = p ↔ Go.bits .andNot .u32 p x = 0 := by
  have hp : ((BitVec.ofInt 32 p).toNat : Int) = p := by
    rw [BitVec.toNat_ofInt]
    omega
  rw [bits_and, bits_andNot]
  have := bv_sub (BitVec.ofInt 32 x) (BitVec.ofInt 32 p)
  constructor
  · intro h
    have h2 : (BitVec.ofInt 32 x &&& BitVec.ofInt 32 p) = BitVec.ofInt 32 p := BitVec.eq_of_toNat_eq (by omega)
    rw [this.1 h2]; rfl
  · intro h
    have h2 : (BitVec.ofInt 32 p &&& ~~~ BitVec.ofInt 32 x) = 0#32 := BitVec.eq_of_toNat_eq (by simpa using h)
    rw [this.2 h2, hp]
def hasB (p m : Int) (l : S118) : Bool := decide (Go.bits .andNot .u32 p l.f1 = 0) && (Go.bits .andNot .u32 m l.f2 == 0)
def classL (ls : List S118) (p m : Int) : List Int := (ls.filter (hasB p m)).map (·.f0)
def classB (fs : List ByteArray) (ls : List S118) (p m : Int) : List Int × Int := if alphaB fs ls = false then ([], 7) else if withinB fs.length p m = true then (classL ls p m, 0) else ([], 20)
theorem like_eq (l : S118) (p m : Int) : feature_like.f l.f0 l.f1 l.f2 p m = some (hasB p m l) := by
  unfold feature_like.f hasB
  split <;> simp_all
theorem classL_cons (x : S118) (xs : List S118) (p m : Int) : classL (x :: xs) p m = if hasB p m x = true then x.f0 :: classL xs p m else classL xs p m := by
  unfold classL
  rw [List.filter_cons]
  split <;> simp
theorem class_l0 (ls : List S118) (p m : Int) (hn : ls.length ≤ 128) : ∀ d i out, ls.length = i + d → out.length ≤ i → ∀ k, d < k → feature_Class.l0 k p m out ls (ls.length : Int) (i : Int) = some (out ++ classL (ls.drop i) p m, 0)
  | 0, i, out, hi, ho, k + 1, hk => by
    unfold feature_Class.l0
    rw [if_neg (by omega), List.drop_of_length_le (by omega)]
    simp [classL]
  | d + 1, i, out, hi, ho, k + 1, hk => by
    have hd := drop_let ls i (by omega)
    unfold feature_Class.l0
    rw [if_pos (by omega), if_pos (by omega), if_pos (by omega), like_eq, hd, classL_cons, w64 (by omega) (by omega), show ((i : Int) + 1) = ((i + 1 : Nat) : Int) by omega]
    simp only [Option.bind_some]
    by_cases h : hasB p m (rd_T118 ls (i : Int)) = true
    · rw [if_pos h, if_pos h, if_pos (by omega), class_l0 ls p m hn d (i + 1) _ (by omega) (by simp; omega) k (by omega)]
      simp
    · rw [if_neg h, if_neg h, class_l0 ls p m hn d (i + 1) _ (by omega) (by omega) k (by omega)]
theorem class_eq (fs : List ByteArray) (ls : List S118) (p m : Int) (hf : fitsS fs = true) (k : Nat) (hk : 200 ≤ k) : feature_Class.f k fs ls p m = some (classB fs ls p m) := by
  unfold feature_Class.f classB feature_Check.f
  rw [if_pos hf]
  simp only [Option.bind_some]
  by_cases hal : alphaB fs ls = true
  · rw [if_pos hal, if_pos rfl, if_neg (c := alphaB fs ls = false) (by simp [hal]), within_eq]
    simp only [Option.bind_some]
    by_cases hw : withinB fs.length p m = true
    · rw [if_pos hw, if_pos hw]
      have := class_l0 ls p m (alpha_parts hal).1 ls.length 0 [] (by omega) (by simp) k (by have := (alpha_parts hal).1; omega)
      rw [show ((0 : Nat) : Int) = 0 from rfl] at this
      rw [this]; rfl
    · rw [if_neg hw, if_neg hw]
  · rw [if_neg hal, if_neg (by omega), if_pos (by simpa using hal)]
/-- The letters of a class, by their numbers. -/
def pk (has : Int → Bool) : Int → List Int → List Int
  | _, [] => []
  | i, r :: rs => if has r = true then i :: pk has (i + 1) rs else pk has (i + 1) rs
def hasR (ls : List S118) (p m : Int) (r : Int) : Bool := (classL ls p m).any fun x => decide (x = r)
theorem index_l0 (l : List Int) (hl : l.length ≤ 1000000) (r : Int) : ∀ d i, l.length = i + d → ∀ k, d < k → ∃ j : Int, slices_Index_rune_rune.l0 k l r (l.length : Int) (i : Int) = some j ∧ decide (j ≥ 0) = (l.drop i).any fun x => decide (x = r)
  | 0, i, hi, k + 1, hk => by
    refine ⟨-1, ?_, ?_⟩
    · unfold slices_Index_rune_rune.l0
      rw [if_neg (by omega)]
    · rw [List.drop_of_length_le (by omega)]; rfl
  | d + 1, i, hi, k + 1, hk => by
    have hd : l.drop i = rd l (i : Int) :: l.drop (i + 1) := by
      rw [List.drop_eq_getElem_cons (by omega)]
      simp [rd, List.getD_eq_getElem?_getD, List.getElem?_eq_getElem (show i < l.length by omega)]
    obtain ⟨j, h1, h2⟩ := index_l0 l hl r d (i + 1) (by omega) k (by omega)
    unfold slices_Index_rune_rune.l0
    rw [if_pos (by omega), if_pos (by omega), if_pos (by omega), w64 (by omega) (by omega), show ((i : Int) + 1) = ((i + 1 : Nat) : Int) by omega, hd, List.any_cons]
    by_cases h : r = rd l (i : Int)
    · rw [if_pos h]
      exact ⟨(i : Int), rfl, by rw [decide_eq_true (p := rd l (i : Int) = r) h.symm, decide_eq_true (by omega)]; rfl⟩
    · rw [if_neg h, decide_eq_false (p := rd l (i : Int) = r) (fun e => h e.symm)]
      exact ⟨j, h1, h2⟩
theorem contains_eq (l : List Int) (hl : l.length ≤ 1000000) (r : Int) (k : Nat) (hk : l.length < k) : slices_Contains_rune_rune.f k l r = some (l.any fun x => decide (x = r)) := by
  unfold slices_Contains_rune_rune.f slices_Index_rune_rune.f
  obtain ⟨j, h1, h2⟩ := index_l0 l hl r l.length 0 (by omega) k hk
  rw [show ((0 : Nat) : Int) = 0 from rfl] at h1
  rw [h1]
  simp only [Option.bind_some]
  rw [h2, List.drop_zero]
theorem peaks_l0 (cl l : List Int) (hc : cl.length ≤ 1000) (hl : l.length ≤ 1000) : ∀ d i out, l.length = i + d → out.length ≤ i → ∀ k, d + 2000 < k → word_Peaks.l0 k cl out l (l.length : Int) (i : Int) = some (out ++ pk (fun r => cl.any fun x => decide (x = r)) (i : Int) (l.drop i), 0)
  | 0, i, out, hi, ho, k + 1, hk => by
    unfold word_Peaks.l0
    rw [if_neg (by omega), List.drop_of_length_le (by omega)]
    simp [pk]
  | d + 1, i, out, hi, ho, k + 1, hk => by
    have hd : l.drop i = rd l (i : Int) :: l.drop (i + 1) := by
      rw [List.drop_eq_getElem_cons (by omega)]
      simp [rd, List.getD_eq_getElem?_getD, List.getElem?_eq_getElem (show i < l.length by omega)]
    unfold word_Peaks.l0
    rw [if_pos (by omega), if_pos (by omega), if_pos (by omega), contains_eq cl (by omega) _ k (by omega), hd, w64 (by omega) (by omega), show ((i : Int) + 1) = ((i + 1 : Nat) : Int) by omega]
    simp only [Option.bind_some, pk]
    by_cases h : (cl.any fun x => decide (x = rd l (i : Int))) = true
    · rw [if_pos h, if_pos h, if_pos (by omega), peaks_l0 cl l hc hl d (i + 1) _ (by omega) (by simp; omega) k (by omega)]
      simp
    · rw [if_neg h, if_neg h, peaks_l0 cl l hc hl d (i + 1) _ (by omega) (by omega) k (by omega)]
      simp
def peaksB (fs : List ByteArray) (ls : List S118) (s : ByteArray) (p m : Int) : List Int × Int :=
  if (lettersB fs ls s).2 ≠ 0 then ([], (lettersB fs ls s).2) else if (classB fs ls p m).2 ≠ 0 then ([], (classB fs ls p m).2) else (pk (hasR ls p m) 0 (lettersB fs ls s).1, 0)
theorem lettersB_ok {fs : List ByteArray} {ls : List S118} {s : ByteArray} (h : (lettersB fs ls s).2 = 0) : alphaB fs ls = true := by
  unfold lettersB at h
  split at h
  · assumption
  · exact absurd h (by simp)
theorem classB_1 {fs : List ByteArray} {ls : List S118} {p m : Int} (h : (classB fs ls p m).2 = 0) : (classB fs ls p m).1 = classL ls p m := by
  unfold classB at h ⊢
  split
  · rename_i h1; rw [if_pos h1] at h; exact absurd h (by simp)
  · rename_i h1
    rw [if_neg h1] at h
    split
    · rfl
    · rename_i h2; rw [if_neg h2] at h; exact absurd h (by simp)
theorem classL_len (ls : List S118) (p m : Int) : (classL ls p m).length ≤ ls.length := by
  unfold classL
  rw [List.length_map]
  exact List.length_filter_le _ _
theorem peaks_eq (fs : List ByteArray) (ls : List S118) (s : ByteArray) (p m : Int) (hf : fitsS fs = true) (k : Nat) (hk : 4000 ≤ k) : word_Peaks.f k fs ls s p m = some (peaksB fs ls s p m) := by
  unfold word_Peaks.f peaksB word_Letters.f
  rw [if_pos hf, class_eq fs ls p m hf k (by omega)]
  simp only [Option.bind_some]
  by_cases h0 : (lettersB fs ls s).2 = 0
  · rw [if_pos h0, if_neg (c := (lettersB fs ls s).2 ≠ 0) (by simpa using h0)]
    by_cases h1 : (classB fs ls p m).2 = 0
    · rw [if_pos h1, if_neg (c := (classB fs ls p m).2 ≠ 0) (by simpa using h1), classB_1 h1]
      have hal := (alpha_parts (lettersB_ok h0)).1
      have := peaks_l0 (classL ls p m) (lettersB fs ls s).1 (by have := classL_len ls p m; omega) (by have := lettersB_len fs ls s; omega) (lettersB fs ls s).1.length 0 [] (by omega) (by simp) k (by have := lettersB_len fs ls s; omega)
      rw [show ((0 : Nat) : Int) = 0 from rfl] at this
      rw [this]; rfl
    · rw [if_neg h1, if_pos h1]
  · rw [if_neg h0, if_pos h0]
theorem rank_at {ls : List S118} {r : Int} {i : Nat} (h : rankOf ls r = some i) : ∃ x, ls[i]? = some x ∧ x.f0 = r ∧ i < ls.length := by
  unfold rankOf at h
  obtain ⟨h1, h2, _⟩ := List.findIdx?_eq_some_iff_getElem.1 h
  exact ⟨ls[i], List.getElem?_eq_getElem h1, by simpa using h2, h1⟩
theorem rank_only {fs : List ByteArray} {ls : List S118} (hal : alphaB fs ls = true) {r : Int} {i : Nat} (h : rankOf ls r = some i) : ∀ y ∈ ls, y.f0 = r → ls[i]? = some y := by
  intro y hy hr
  obtain ⟨j, hj⟩ := List.getElem?_of_mem hy
  have hls := (alpha_parts hal).2
  obtain ⟨x, hx, hxr, hi⟩ := rank_at h
  have hjl : j < ls.length := (List.getElem?_eq_some_iff.1 hj).1
  rcases Nat.lt_trichotomy i j with hlt | heq | hgt
  · have := (lets_fresh j y hls hj).2 x (List.mem_of_getElem? (by rw [List.getElem?_take, if_pos hlt]; exact hx))
    exact absurd (hxr.trans hr.symm) this
  · subst heq; exact hj
  · have := (lets_fresh i x hls hx).2 y (List.mem_of_getElem? (by rw [List.getElem?_take, if_pos hgt]; exact hj))
    exact absurd (hr.trans hxr.symm) this
theorem hasR_rank {fs : List ByteArray} {ls : List S118} (hal : alphaB fs ls = true) (p m r : Int) : hasR ls p m r = match rankOf ls r with | some i => hasB p m (rd_T118 ls (i : Int)) | none => false := by
  unfold hasR classL
  cases h : rankOf ls r with
  | none =>
    simp only
    rw [List.any_eq_false]
    intro x hx
    obtain ⟨y, hy, rfl⟩ := List.mem_map.1 hx
    have hy1 := (List.mem_filter.1 hy).1
    unfold rankOf at h
    rw [List.findIdx?_eq_none_iff] at h
    simpa using h y hy1
  | some i =>
    obtain ⟨x, hx, hxr, hi⟩ := rank_at h
    have hrd : rd_T118 ls (i : Int) = x := by
      unfold rd_T118
      rw [Int.toNat_natCast, List.getD_eq_getElem?_getD, hx]; rfl
    simp only
    rw [hrd, Bool.eq_iff_iff, List.any_eq_true]
    constructor
    · rintro ⟨z, hz, hzr⟩
      obtain ⟨y, hy, rfl⟩ := List.mem_map.1 hz
      have hym := List.mem_filter.1 hy
      have := rank_only hal h y hym.1 (of_decide_eq_true hzr)
      rw [hx] at this
      injection this with this
      rw [this]; exact hym.2
    · intro hb
      exact ⟨x.f0, List.mem_map.2 ⟨x, List.mem_filter.2 ⟨List.mem_of_getElem? hx, hb⟩, rfl⟩, decide_eq_true hxr⟩
-- syllables
theorem pk_range (has : Int → Bool) : ∀ (l : List Int) (i : Int), (∀ x ∈ pk has i l, i ≤ x ∧ x < i + l.length) ∧ (pk has i l).Pairwise (· < ·)
  | [], i => by simp [pk]
  | r :: rs, i => by
    obtain ⟨h1, h2⟩ := pk_range has rs (i + 1)
    unfold pk
    split
    · refine ⟨fun x hx => ?_, List.pairwise_cons.2 ⟨fun x hx => ?_, h2⟩⟩
      · rcases List.mem_cons.1 hx with rfl | hx
        · simp; omega
        · have := h1 x hx; simp; omega
      · have := h1 x hx; omega
    · refine ⟨fun x hx => ?_, h2⟩
      have := h1 x hx; simp; omega
def syS (n : Int) : Int → Int → List Int → List S57
  | fr, _, [] => [⟨fr, n⟩]
  | fr, prev, x :: xs => ⟨fr, mx (x - 1) (prev + 1)⟩ :: syS n (mx (x - 1) (prev + 1)) x xs
theorem count_from (s : ByteArray) : ∀ f i, Lib.runeCountFrom s f i = (pcs s f i).length
  | 0, _ => rfl
  | f + 1, i => by
    unfold Lib.runeCountFrom pcs
    split
    · rw [count_from s f]; simp; omega
    · rfl
theorem readP_len (ls : List S118) : ∀ (ps : List S97) (out l : List Int), readP ls ps out = (l, 0) → l.length = out.length + ps.length
  | [], out, l, h => by simp only [readP, Prod.mk.injEq] at h; rw [← h.1]; simp
  | q :: ps, out, l, h => by
    unfold readP at h
    split at h
    · simp at h
    · split at h
      · simp at h
      · split at h
        · simp at h
        · have := readP_len ls ps _ l h
          simp at this ⊢; omega
theorem count_letters {fs : List ByteArray} {ls : List S118} {s : ByteArray} (h : (lettersB fs ls s).2 = 0) : Lib.runeCount s = (lettersB fs ls s).1.length := by
  have hal := lettersB_ok h
  unfold lettersB at h ⊢
  rw [if_pos hal, readP_cut] at h ⊢
  have := readP_len ls (pieces s) [] (readP ls (pieces s) []).1 (Prod.ext rfl h)
  rw [this]
  unfold Lib.runeCount pieces
  rw [count_from]; simp
def sylB (fs : List ByteArray) (ls : List S118) (s : ByteArray) (p m : Int) : List S57 × Int :=
  if (peaksB fs ls s p m).2 ≠ 0 then ([], (peaksB fs ls s p m).2) else match (peaksB fs ls s p m).1 with
    | [] => ([], 0)
    | x :: xs => (syS ((lettersB fs ls s).1.length : Int) 0 x xs, 0)
theorem peaksB_ok {fs : List ByteArray} {ls : List S118} {s : ByteArray} {p m : Int} (h : (peaksB fs ls s p m).2 = 0) : (lettersB fs ls s).2 = 0 ∧ (peaksB fs ls s p m).1 = pk (hasR ls p m) 0 (lettersB fs ls s).1 := by
  unfold peaksB at h ⊢
  by_cases h0 : (lettersB fs ls s).2 ≠ 0
  · rw [if_pos h0] at h; exact absurd h h0
  · rw [if_neg h0] at h ⊢
    by_cases h1 : (classB fs ls p m).2 ≠ 0
    · rw [if_pos h1] at h; exact absurd h h1
    · rw [if_neg h1]
      exact ⟨by simpa using h0, rfl⟩
theorem pk_len (has : Int → Bool) : ∀ (l : List Int) (i : Int), (pk has i l).length ≤ l.length
  | [], i => by simp [pk]
  | r :: rs, i => by
    unfold pk
    have := pk_len has rs (i + 1)
    split <;> simp <;> omega
theorem sylB_len (fs : List ByteArray) (ls : List S118) (s : ByteArray) (p m : Int) : (sylB fs ls s p m).1.length ≤ 64 := by
  have hy : ∀ (xs : List Int) (n fr x : Int), (syS n fr x xs).length = xs.length + 1 := by
    intro xs
    induction xs with
    | nil => intro n fr x; rfl
    | cons a xs ih => intro n fr x; simp [syS, ih]
  unfold sylB
  by_cases h0 : (peaksB fs ls s p m).2 = 0
  · obtain ⟨hl, hpp⟩ := peaksB_ok h0
    rw [if_neg (c := (peaksB fs ls s p m).2 ≠ 0) (by simpa using h0)]
    have hlen := pk_len (hasR ls p m) (lettersB fs ls s).1 0
    have hl64 := lettersB_len fs ls s
    rw [← hpp] at hlen
    generalize (peaksB fs ls s p m).1 = q at hlen ⊢
    match q, hlen with
    | [], _ => simp
    | x :: xs, hlen => simp only [hy]; simp at hlen; omega
  · rw [if_pos h0]; simp
theorem peaksB_len (fs : List ByteArray) (ls : List S118) (s : ByteArray) (p m : Int) : (peaksB fs ls s p m).1.length ≤ 64 := by
  unfold peaksB
  split
  · simp
  · split
    · simp
    · exact Nat.le_trans (pk_len _ _ _) (lettersB_len fs ls s)

theorem syll_one (s : ByteArray) (p l : List Int) (n : Int) (hn : n = l.length) (hp : p.length ≤ 64) (hb : ∀ x ∈ p, 0 ≤ x ∧ x < 100) (hs : p.Pairwise (· < ·)) :
    ∀ (d i : Nat) (out : List S57) (fr : Int), p.length = i + d → out.length + 1 = i → ∀ k1, d < k1 → word_Syllables.l0 k1 p l out fr (i : Int) = some (out ++ syS n fr (rd p ((i : Int) - 1)) (p.drop i), 0)
  | 0, i, out, fr, hi, ho, k1 + 1, _ => by
    rw [List.drop_of_length_le (by omega)]
    unfold word_Syllables.l0
    rw [if_neg (by omega), if_pos (by omega), hn]; rfl
  | d + 1, i, out, fr, hi, ho, k1 + 1, hk1 => by
    have hi1 : i < p.length := by omega
    have h0 : i - 1 < p.length := by omega
    have ra : rd p (i : Int) = p[i] := by unfold rd; simp [List.getD_eq_getElem?_getD, List.getElem?_eq_getElem hi1]
    have rb : rd p ((i : Int) - 1) = p[i - 1] := by unfold rd; rw [show ((i : Int) - 1).toNat = i - 1 by omega]; simp [List.getD_eq_getElem?_getD, List.getElem?_eq_getElem h0]
    have hlt : p[i - 1] < p[i] := List.pairwise_iff_getElem.1 hs (i - 1) i h0 hi1 (by omega)
    have b1 := hb _ (List.getElem_mem hi1)
    have b0 := hb _ (List.getElem_mem h0)
    have hdp : p.drop i = p[i] :: p.drop (i + 1) := List.drop_eq_getElem_cons hi1
    have rc : rd p (((i + 1 : Nat) : Int) - 1) = p[i] := by rw [show (((i + 1 : Nat) : Int) - 1) = (i : Int) by omega]; exact ra
    have q1 : (i : Int) < (p.length : Int) := by omega
    have q2 : 0 ≤ (i : Int) := by omega
    have q3 : 0 ≤ (i : Int) - 1 := by omega
    have q4 : (i : Int) - 1 < (p.length : Int) := by omega
    have q5 : out.length < 8796093022208 := by omega
    have q6 : (i : Int) > 0 := by omega
    have ih := fun fr' out' h => syll_one s p l n hn hp hb hs d (i + 1) out' fr' (by omega) h k1 (by omega)
    have e1 : wrap64 ((i : Int) - 1) = (i : Int) - 1 := w64 (by omega) (by omega)
    have e2 : wrap64 ((i : Int) + 1) = ((i + 1 : Nat) : Int) := by rw [w64 (by omega) (by omega)]; omega
    have e3 : wrap64 (p[i] - 1) = p[i] - 1 := w64 (by omega) (by omega)
    have e4 : wrap64 (p[i - 1] + 1) = p[i - 1] + 1 := w64 (by omega) (by omega)
    unfold word_Syllables.l0
    rw [if_pos q1, if_pos q2, e1, if_pos q3, if_pos q4, if_pos q5, ra, rb, e2, e3, e4, hdp]
    have := ih (mx (p[i] - 1) (p[i - 1] + 1)) (out ++ [⟨fr, mx (p[i] - 1) (p[i - 1] + 1)⟩]) (by rw [List.length_append, List.length_singleton]; omega)
    rw [rc, List.append_assoc] at this
    simp only [syS]
    exact this
theorem syl_eq (fs : List ByteArray) (ls : List S118) (s : ByteArray) (p m : Int) (hs : s.size ≤ 140737488351232) (hf : fitsS fs = true) (k : Nat) (hk : 4000 ≤ k) : word_Syllables.f k fs ls s p m = some (sylB fs ls s p m) := by
  unfold word_Syllables.f sylB
  rw [peaks_eq fs ls s p m hf k hk]
  simp only [Option.bind_some]
  by_cases h0 : (peaksB fs ls s p m).2 = 0
  · obtain ⟨hl, hp⟩ := peaksB_ok h0
    rw [if_pos h0, if_neg (c := (peaksB fs ls s p m).2 ≠ 0) (by simpa using h0), h0]
    have hr := pk_range (hasR ls p m) (lettersB fs ls s).1 0
    have hlen := pk_len (hasR ls p m) (lettersB fs ls s).1 0
    rw [← hp] at hr hlen
    generalize (peaksB fs ls s p m).1 = q at hr hlen ⊢
    have hl64 := lettersB_len fs ls s
    obtain ⟨k, rfl⟩ : ∃ j, k = j + 1 := ⟨k - 1, by omega⟩
    unfold word_Syllables.j0
    match q, hr, hlen with
    | [], _, _ => simp
    | x :: xs, hr, hlen =>
      have hb : ((((x :: xs).length : Nat) : Int) == 0) = false := beq_eq_false_iff_ne.2 (by simp; omega)
      rw [hb]
      simp only [Bool.false_eq_true, if_false]
      have e : word_Letters.f fs ls s = some (lettersB fs ls s) := by unfold word_Letters.f; rw [if_pos hf]
      rw [e]
      simp only [Option.bind_some]
      have := syll_one s (x :: xs) (lettersB fs ls s).1 _ rfl (by omega) (fun y hy => by have := hr.1 y hy; omega) hr.2 xs.length 1 [] 0 (by simp; omega) rfl k (by simp at hlen; omega)
      simpa [rd] using this
  · rw [if_neg h0, if_pos h0]
    obtain ⟨k, rfl⟩ : ∃ j, k = j + 1 := ⟨k - 1, by omega⟩
    simp [word_Syllables.j0]
theorem dropc {α : Type} {l : List α} {i : Nat} {a : α} {t : List α} (h : l.drop i = a :: t) : l[i]? = some a ∧ i < l.length ∧ l.drop (i + 1) = t := by
  have hi : i < l.length := by
    rcases Nat.lt_or_ge i l.length with h1 | h1
    · exact h1
    · rw [List.drop_of_length_le h1] at h; cases h
  rw [List.drop_eq_getElem_cons hi] at h
  injection h with h1 h2
  exact ⟨by rw [List.getElem?_eq_getElem hi, h1], hi, h2⟩
theorem peaksB_within {fs : List ByteArray} {ls : List S118} {s : ByteArray} {p m : Int} (h : (peaksB fs ls s p m).2 = 0) : withinB fs.length p m = true := by
  unfold peaksB at h
  split at h
  · rename_i h0; exact absurd h h0
  · split at h
    · rename_i h1; exact absurd h h1
    · rename_i h1
      unfold classB at h1
      by_cases h2 : withinB fs.length p m = true
      · exact h2
      · exfalso; apply h1
        rw [if_neg h2]
        split <;> simp
theorem peaksB_err {fs : List ByteArray} {ls : List S118} {s : ByteArray} {p m : Int} (h : (peaksB fs ls s p m).2 ≠ 0) : (peaksB fs ls s p m).1 = [] := by
  unfold peaksB at h ⊢
  split
  · rfl
  · split
    · rfl
    · rename_i h0 h1; rw [if_neg h0, if_neg h1] at h; exact absurd rfl h
theorem readP_ranked (ls : List S118) : ∀ (ps : List S97) (out l : List Int), readP ls ps out = (l, 0) → (∀ r ∈ out, (rankOf ls r).isSome = true) → ∀ r ∈ l, (rankOf ls r).isSome = true
  | [], out, l, h, ho => by simp only [readP, Prod.mk.injEq] at h; rw [← h.1]; exact ho
  | q :: ps, out, l, h, ho => by
    unfold readP at h
    split at h
    · simp at h
    · split at h
      · simp at h
      · rename_i hr
        split at h
        · simp at h
        · refine readP_ranked ls ps _ l h (fun r hm => ?_)
          rcases List.mem_append.1 hm with hm | hm
          · exact ho r hm
          · simp only [List.mem_singleton] at hm; subst hm; exact Option.isSome_iff_ne_none.2 (by simpa using hr)
theorem letters_ranked {fs : List ByteArray} {ls : List S118} {s : ByteArray} (h : (lettersB fs ls s).2 = 0) : ∀ r ∈ (lettersB fs ls s).1, (rankOf ls r).isSome = true := by
  have hal := lettersB_ok h
  unfold lettersB at h ⊢
  rw [if_pos hal] at h ⊢
  exact readP_ranked ls _ [] _ (Prod.ext rfl h) (by simp)
theorem has_eq {fs : List ByteArray} {ls : List S118} (hfit : fitsS fs = true) (hal : alphaB fs ls = true) {p m : Int} (hw : withinB fs.length p m = true) {r : Int} (hr : (rankOf ls r).isSome = true) : feature_Has.f fs ls r p m = some (hasR ls p m r, 0) := by
  obtain ⟨i, hi⟩ := Option.isSome_iff_exists.1 hr
  obtain ⟨x, hx, hxr, hil⟩ := rank_at hi
  have hf : ls.find? (fun l => decide (l.f0 = r)) = some x := by
    cases hf : ls.find? (fun l => decide (l.f0 = r)) with
    | none =>
      rw [List.find?_eq_none] at hf
      exact absurd (decide_eq_true hxr) (hf x (List.mem_of_getElem? hx))
    | some y =>
      have := rank_only hal hi y (List.mem_of_find?_eq_some hf) (by simpa using List.find?_some hf)
      rw [hx] at this; exact this.symm
  have hrd : rd_T118 ls (i : Int) = x := by
    unfold rd_T118
    rw [Int.toNat_natCast, List.getD_eq_getElem?_getD, hx]; rfl
  unfold feature_Has.f feature_Of.f ofB
  rw [if_pos hfit, if_pos hal, hf]
  simp only [Option.bind_some]
  rw [if_pos trivial, within_eq, hw]
  simp only [Option.bind_some]
  rw [if_pos trivial, like_eq, hasR_rank hal, hi]
  simp only [Option.bind_some, hrd]
theorem pk_any (has : Int → Bool) : ∀ (l : List Int) (i0 : Int) (n : Nat), n < l.length → (pk has i0 l).any (fun y => y == i0 + (n : Int)) = has (rd l (n : Int))
  | [], _, _, h => by simp at h
  | r :: rs, i0, 0, _ => by
    have hn : (pk has (i0 + 1) rs).any (fun y => y == i0 + ((0 : Nat) : Int)) = false := by
      rw [List.any_eq_false]
      intro y hy e
      have := ((pk_range has rs (i0 + 1)).1 y hy).1
      have e := eq_of_beq e
      omega
    unfold pk
    have : rd (r :: rs) ((0 : Nat) : Int) = r := rfl
    rw [this]
    cases h : has r
    · simpa using hn
    · simp
  | r :: rs, i0, n + 1, h => by
    have ih := pk_any has rs (i0 + 1) n (by simpa using h)
    have e : rd (r :: rs) ((n + 1 : Nat) : Int) = rd rs (n : Int) := by
      unfold rd
      rw [Int.toNat_natCast, Int.toNat_natCast]; rfl
    rw [e, ← ih, show i0 + 1 + (n : Int) = i0 + ((n + 1 : Nat) : Int) by omega, show pk has i0 (r :: rs) = if has r = true then i0 :: pk has (i0 + 1) rs else pk has (i0 + 1) rs from rfl]
    split
    · rw [List.any_cons, beq_eq_false_iff_ne.2 (show i0 ≠ i0 + ((n + 1 : Nat) : Int) by omega), Bool.false_or]
    · rfl
theorem sylw_l1 (p m : Int) (l P : List Int) (S : List S57) (i : Int) (has : Bool) (fs : List ByteArray) (ls : List S118) (hP : P.length ≤ 64) : ∀ (d j : Nat) (b : Bool), P.length = j + d → ∀ k, cognatelaw03_WordSyllables.l1 (k + d + 1) p m l P S i has 0 b (j : Int) fs ls = if (has != (b || (P.drop j).any (fun y => y == i))) = true then some false else cognatelaw03_WordSyllables.l0 k p m l P S (wrap64 (i + 1)) fs ls
  | 0, j, b, h, k => by
    unfold cognatelaw03_WordSyllables.l1
    rw [if_neg (by omega), if_pos rfl, List.drop_of_length_le (by omega), List.any_nil, Bool.or_false]
  | d + 1, j, b, h, k => by
    have hj : j < P.length := by omega
    have hd := List.drop_eq_getElem_cons hj
    have hr : rd P (j : Int) = P[j] := by unfold rd; simp [List.getD_eq_getElem?_getD, List.getElem?_eq_getElem hj]
    have ih := fun b => sylw_l1 p m l P S i has fs ls hP d (j + 1) b (by omega) k
    unfold cognatelaw03_WordSyllables.l1
    rw [if_pos (by omega), w64 (by omega) (by omega), show ((j : Int) + 1) = ((j + 1 : Nat) : Int) by omega, hd, List.any_cons]
    cases b
    · rw [if_neg (by simp), if_pos (by omega), hr]
      exact (ih _).trans (by rw [Bool.false_or])
    · rw [if_pos rfl]
      exact (ih _).trans (by rw [Bool.true_or, Bool.true_or])
theorem sylw_l0 (p m : Int) (l P : List Int) (S : List S57) (fs : List ByteArray) (ls : List S118) (hP : P.length ≤ 64) (hl : l.length ≤ 64) (hpk : P = pk (hasR ls p m) 0 l) (hhas : ∀ r ∈ l, feature_Has.f fs ls r p m = some (hasR ls p m r, 0)) (h2 : ∀ k, 200 ≤ k → cognatelaw03_WordSyllables.l2 k l P S 0 0 = some true) : ∀ (d i : Nat), l.length = i + d → ∀ k, 201 + d * 100 ≤ k → cognatelaw03_WordSyllables.l0 k p m l P S (i : Int) fs ls = some true
  | 0, i, h, k + 1, hk => by
    unfold cognatelaw03_WordSyllables.l0
    rw [if_neg (by omega)]
    exact h2 k (by omega)
  | d + 1, i, h, k + 1, hk => by
    have hi : i < l.length := by omega
    have hm : rd l (i : Int) ∈ l := by unfold rd; simp [List.getD_eq_getElem?_getD, List.getElem?_eq_getElem hi]
    unfold cognatelaw03_WordSyllables.l0
    rw [if_pos (by omega), if_pos (by omega), hhas _ hm]
    simp only [Option.bind_some]
    obtain ⟨k', rfl⟩ : ∃ k', k = k' + P.length + 1 := ⟨k - P.length - 1, by omega⟩
    have e := sylw_l1 p m l P S (i : Int) (hasR ls p m (rd l (i : Int))) fs ls hP P.length 0 false (by omega) k'
    have ha := pk_any (hasR ls p m) l 0 i hi
    rw [← hpk, Int.zero_add] at ha
    rw [List.drop_zero, Bool.false_or, ha, if_neg (by simp), w64 (by omega) (by omega), show ((i : Int) + 1) = ((i + 1 : Nat) : Int) by omega] at e
    exact e.trans (sylw_l0 p m l P S fs ls hP hl hpk hhas h2 d (i + 1) (by omega) k' (by omega))
theorem sylw_l2 (l P : List Int) (S : List S57) (hl : l.length ≤ 64) (hS : S.length = P.length) (hP : P.length ≤ 64) : ∀ (xs : List Int) (fr prev : Int) (i : Nat), S.drop i = syS (l.length : Int) fr prev xs → P.drop i = prev :: xs → (prev :: xs).Pairwise (· < ·) → (∀ y ∈ prev :: xs, 0 ≤ y ∧ y < (l.length : Int)) → 0 ≤ fr → fr ≤ prev → (0 < i → prev - fr ≤ 1) → ∀ k, xs.length + 2 < k → cognatelaw03_WordSyllables.l2 k l P S fr (i : Int) = some true
  | [], fr, prev, i, hs, hp, hsort, hb, h0, h1, h2, k + 2, hk => by
    obtain ⟨a1, a2, a3⟩ := dropc hs
    obtain ⟨b1, b2, b3⟩ := dropc hp
    have hr : rd P (i : Int) = prev := by unfold rd; simp [List.getD_eq_getElem?_getD, b1]
    have ht : rd_T57 S (i : Int) = ⟨fr, (l.length : Int)⟩ := by unfold rd_T57; simp [List.getD_eq_getElem?_getD, a1]
    have hy := hb prev (by simp)
    have hn : P.length = i + 1 := by
      have := congrArg List.length hp
      simp at this; omega
    unfold cognatelaw03_WordSyllables.l2
    rw [if_pos (by omega), if_pos (by omega), hr, ht, if_pos rfl, if_pos (by omega), if_neg (by simp only; omega), if_neg (by simp only; omega), w64 (by simp only; omega) (by simp only; omega), w64 (by omega) (by omega)]
    have : cognatelaw03_WordSyllables.l2 (k + 1) l P S (l.length : Int) ((i : Int) + 1) = some true := by
      unfold cognatelaw03_WordSyllables.l2
      rw [if_neg (by omega), if_neg (by omega)]; simp
    by_cases hi : (i : Int) > 0
    · rw [if_pos hi, if_neg (by have := h2 (by omega); simp only; omega)]; exact this
    · rw [if_neg hi]; exact this
  | x :: xs, fr, prev, i, hs, hp, hsort, hb, h0, h1, h2, k + 1, hk => by
    obtain ⟨a1, a2, a3⟩ := dropc (show S.drop i = ⟨fr, mx (x - 1) (prev + 1)⟩ :: syS (l.length : Int) (mx (x - 1) (prev + 1)) x xs from hs)
    obtain ⟨b1, b2, b3⟩ := dropc hp
    have hr : rd P (i : Int) = prev := by unfold rd; simp [List.getD_eq_getElem?_getD, b1]
    have ht : rd_T57 S (i : Int) = ⟨fr, mx (x - 1) (prev + 1)⟩ := by unfold rd_T57; simp [List.getD_eq_getElem?_getD, a1]
    have hy := hb prev (by simp)
    have hx := hb x (by simp)
    have hlt : prev < x := (List.pairwise_cons.1 hsort).1 x (by simp)
    have hm : prev + 1 ≤ mx (x - 1) (prev + 1) ∧ x - 1 ≤ mx (x - 1) (prev + 1) ∧ mx (x - 1) (prev + 1) ≤ x := by unfold mx; omega
    have ih := sylw_l2 l P S hl hS hP xs (mx (x - 1) (prev + 1)) x (i + 1) a3 b3 (List.pairwise_cons.1 hsort).2 (fun y h => hb y (List.mem_cons_of_mem _ h)) (by omega) hm.2.2 (fun _ => by omega) k (by simp at hk; omega)
    generalize mx (x - 1) (prev + 1) = f1 at ht hm ih
    unfold cognatelaw03_WordSyllables.l2
    rw [if_pos (by omega), if_pos (by omega), hr, ht, if_pos rfl, if_pos (by omega), if_neg (by simp only; omega), if_neg (by simp only; omega), w64 (by simp only; omega) (by simp only; omega), w64 (by omega) (by omega), show ((i : Int) + 1) = ((i + 1 : Nat) : Int) by omega]
    by_cases hi : (i : Int) > 0
    · rw [if_pos hi, if_neg (by have := h2 (by omega); simp only; omega)]; exact ih
    · rw [if_neg hi]; exact ih
theorem syS_len : ∀ (xs : List Int) (n fr x : Int), (syS n fr x xs).length = xs.length + 1
  | [], _, _, _ => rfl
  | a :: xs, n, fr, x => by simp [syS, syS_len xs]
theorem WordSyllables : ∀ (l0_0 : List ByteArray) (l0_1 : List (S118)) (a1 : ByteArray) (a2 : Int) (a3 : Int), (l0_0.length * 16 ≤ 140737488351232 ∧ ∀ y ∈ l0_0, y.size ≤ 140737488351232) → (l0_1.length * 12 ≤ 140737488351232 ∧ ∀ y ∈ l0_1, wfS118 y) → (a1.size ≤ 140737488351232) → ((Lit.int .u32 a2).wf = true) → ((Lit.int .u32 a3).wf = true) → ∃ k, cognatelaw03_WordSyllables.f k l0_0 l0_1 a1 a2 a3 = some true := by
  intro fs ls s p m hf hl hs hp hm
  have hfit := fits_of hf.2
  obtain ⟨K, hK⟩ : ∃ K : Nat, K = 19999 := ⟨_, rfl⟩
  refine ⟨K + 1, ?_⟩
  unfold cognatelaw03_WordSyllables.f
  rw [awake_eq _ (by omega)]
  simp only [Option.bind_some, if_true]
  have e : word_Letters.f fs ls s = some (lettersB fs ls s) := by unfold word_Letters.f; rw [if_pos hfit]
  rw [e, peaks_eq fs ls s p m hfit _ (by omega), syl_eq fs ls s p m hs hfit _ (by omega)]
  simp only [Option.bind_some]
  by_cases h0 : (peaksB fs ls s p m).2 = 0
  · obtain ⟨hlt, hpp⟩ := peaksB_ok h0
    have hal := lettersB_ok hlt
    have hs2 : (sylB fs ls s p m).2 = 0 := by
      unfold sylB
      rw [if_neg (by simpa using h0)]
      split <;> rfl
    have hlen := lettersB_len fs ls s
    have hpl := peaksB_len fs ls s p m
    have hsl : (sylB fs ls s p m).1.length = (peaksB fs ls s p m).1.length := by
      unfold sylB
      rw [if_neg (by simpa using h0)]
      split
      · rename_i e; rw [e]; rfl
      · rename_i x xs e; rw [e]; exact syS_len xs _ _ _
    rw [if_pos h0, hs2]
    unfold cognatelaw03_WordSyllables.j0
    dsimp only
    rw [if_neg (by simp), if_pos hlt, if_pos (by omega)]
    refine sylw_l0 p m _ _ _ fs ls hpl hlen hpp (fun r hr => has_eq hfit hal (peaksB_within h0) (letters_ranked hlt r hr)) ?_ (lettersB fs ls s).1.length 0 (by omega) K (by omega)
    intro k hk
    have hrg := pk_range (hasR ls p m) (lettersB fs ls s).1 0
    rw [← hpp] at hrg
    cases hq : (peaksB fs ls s p m).1 with
    | nil =>
      have hz : (sylB fs ls s p m).1 = [] := List.eq_nil_of_length_eq_zero (by rw [hsl, hq]; rfl)
      rw [hz]
      obtain ⟨k, rfl⟩ : ∃ j, k = j + 1 := ⟨k - 1, by omega⟩
      unfold cognatelaw03_WordSyllables.l2
      simp
    | cons x xs =>
      have hz : (sylB fs ls s p m).1 = syS ((lettersB fs ls s).1.length : Int) 0 x xs := by
        unfold sylB
        rw [if_neg (by simpa using h0), hq]
      rw [hq] at hrg hpl
      have := sylw_l2 (lettersB fs ls s).1 (x :: xs) (sylB fs ls s p m).1 hlen (by rw [hsl, hq]) hpl xs 0 x 0 (by rw [hz]; rfl) rfl hrg.2 (fun y hy => by have := hrg.1 y hy; omega) (by omega) (by have := hrg.1 x (by simp); omega) (fun h => absurd h (by omega)) k (by simp at hpl; omega)
      exact this
  · have h1 := peaksB_err h0
    have hs2 : sylB fs ls s p m = ([], (peaksB fs ls s p m).2) := by unfold sylB; rw [if_pos h0]
    rw [if_neg h0, hs2, h1]
    unfold cognatelaw03_WordSyllables.j0
    simp
end Go.Proofs.YtfpfdmenhgageaaDoor.Pure
