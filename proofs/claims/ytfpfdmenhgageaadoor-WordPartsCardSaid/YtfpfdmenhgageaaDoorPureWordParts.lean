import Derived.Test.YtfpfdmenhgageaaDoorWRd
import Derived.Test.YtfpfdmenhgageaaDoorWx9
namespace Go.Proofs.YtfpfdmenhgageaaDoor.Pure
open Go.RowKit Go.Proofs.YtfpfdmenhgageaaDoor.W Go.Proofs.YtfpfdmenhgageaaDoorW.PrintWords Go.Proofs.YtfpfdmenhgageaaDoorW.PrintLast Go.Proofs.YtfpfdmenhgageaaDoorW.PrintMore
set_option linter.unusedVariables false
set_option linter.unusedSimpArgs false
theorem w64 {n : Int} (h0 : -9223372036854775808 ≤ n) (h1 : n ≤ 9223372036854775807) : wrap64 n = n := by unfold wrap64; omega
theorem lettersB_len (fs : List ByteArray) (ls : List S118) (s : ByteArray) : (lettersB fs ls s).1.length ≤ 64 := by
  have : ∀ (ps : List S97) (out : List Int), out.length ≤ 64 → (readP ls ps out).1.length ≤ 64 := by
    intro ps
    induction ps with
    | nil => intro out h; exact h
    | cons p ps ih =>
      intro out h
      unfold readP
      split
      · simp
      · split
        · simp
        · split
          · simp
          · exact ih _ (by simp; omega)
  unfold lettersB
  split
  · exact this _ _ (by simp)
  · simp
theorem fits_of {fs : List ByteArray} (h : ∀ y ∈ fs, y.size ≤ 140737488351232) : fitsS fs = true := by
  unfold fitsS
  exact List.all_eq_true.2 fun y hy => decide_eq_true (by have := h y hy; omega)
-- what is read of a text's beginning is what is read of all
theorem decode_cut (s : ByteArray) (n i : Nat) (h : i + 4 ≤ n) (hn : n ≤ s.size) : Utf8.decode (s.extract 0 n) i = Utf8.decode s i := by
  have hg : ∀ j, j < n → (s.extract 0 n).get! j = s.get! j := fun j hj => by
    show (s.extract 0 n).data[j]! = s.data[j]!
    simp only [ByteArray.data_extract, getElem!_def]
    rw [Array.getElem?_extract, if_pos (by have : s.data.size = s.size := rfl; omega), Nat.zero_add]
  have hsz : (s.extract 0 n).size = n := by simp [ByteArray.size_extract]; omega
  unfold Utf8.decode
  simp only [hsz, hg (i + 0) (by omega), hg (i + 1) (by omega), hg (i + 2) (by omega), hg (i + 3) (by omega), show (i + 1 < n) = True from eq_true (by omega), show (i + 2 < n) = True from eq_true (by omega), show (i + 3 < n) = True from eq_true (by omega), show (i + 1 < s.size) = True from eq_true (by omega), show (i + 2 < s.size) = True from eq_true (by omega), show (i + 3 < s.size) = True from eq_true (by omega)]
theorem width_le (s : ByteArray) (i : Nat) : (Utf8.decode s i).2 ≤ 4 := by
  unfold Utf8.decode
  simp only
  repeat' split
  all_goals simp
theorem read_cut (ls : List S118) (s : ByteArray) (hs : s.size > 65536) : ∀ m i f g out, out.length + m = 65 → out.length ≤ 64 → i + 4 * m ≤ 65532 → 65536 ≤ i + f → s.size ≤ i + g →
    readP ls (pcs (s.extract 0 65536) f i) out = readP ls (pcs s g i) out
  | 0, i, f, g, out, h0, h1, h2, h3, h4 => by omega
  | m + 1, i, f, g, out, h0, h1, h2, h3, h4 => by
    obtain ⟨f, rfl⟩ : ∃ q, f = q + 1 := ⟨f - 1, by omega⟩
    obtain ⟨g, rfl⟩ : ∃ q, g = q + 1 := ⟨g - 1, by omega⟩
    have hsz : (s.extract 0 65536).size = 65536 := by simp [ByteArray.size_extract]; omega
    have hd := decode_cut s 65536 i (by omega) (by omega)
    have hw := width_le s i
    have hw1 := Lib.decode_width_pos s i (by omega)
    rw [pcs, if_pos (by omega), pcs, if_pos (by omega)]
    have hp : pcAt (s.extract 0 65536) i = pcAt s i := by unfold pcAt; rw [hd]
    rw [hp, hd]
    simp only [readP]
    by_cases h64 : out.length = 64
    · rw [if_pos h64, if_pos h64]
    · rw [if_neg h64, if_neg h64, read_cut ls s hs m (i + (Utf8.decode s i).2) f g _ (by simp; omega) (by simp; omega) (by omega) (by omega) (by omega)]
theorem readP_cut (ls : List S118) (s : ByteArray) : readP ls (pieces (cut65 s)) [] = readP ls (pieces s) [] := by
  unfold cut65
  split
  · rename_i h
    unfold pieces
    have hsz : (s.extract 0 65536).size = 65536 := by simp [ByteArray.size_extract]; omega
    rw [hsz]
    exact read_cut ls s h 65 0 65536 s.size [] (by simp) (by simp) (by omega) (by omega) (by omega)
  · rfl
-- runes to bytes and back
theorem r_ext {a b : ByteArray} (h : a.data.toList = b.data.toList) : a = b := ByteArray.ext (Array.ext' h)
theorem r_foldl : ∀ (ns : List Int) (s : ByteArray), (ns.foldl (fun r n => r ++ Utf8.encode n) s).data.toList = s.data.toList ++ ns.flatMap (fun n => (Utf8.encode n).data.toList)
  | [], s => by simp
  | n :: ns, s => by
    rw [List.foldl_cons, r_foldl ns]
    simp
theorem r_data (ns : List Int) : (runesBytes ns).data.toList = ns.flatMap (fun n => (Utf8.encode n).data.toList) := by
  unfold runesBytes
  rw [r_foldl]
  rfl
theorem r_cons (r : Int) (l : List Int) : runesBytes (r :: l) = Utf8.encode r ++ runesBytes l := by
  apply r_ext
  rw [r_data, ByteArray.data_append, Array.toList_append, r_data]
  rfl
theorem get_app (a b : ByteArray) (i : Nat) (h : i < a.size) : (a ++ b).get! i = a.get! i := by
  have hs : a.size = a.data.size := rfl
  show (a ++ b).data[i]! = a.data[i]!
  rw [ByteArray.data_append, getElem!_pos _ i (by simp; omega), getElem!_pos a.data i (by omega), Array.getElem_append_left (by omega)]
def goodR (r : Int) : Prop := Utf8.valid r = true ∧ r ≠ 65533
theorem r_valid (q : Int) : Utf8.valid q = true ↔ (0 ≤ q ∧ q < 55296) ∨ (57344 ≤ q ∧ q ≤ 1114111) := by
  unfold Utf8.valid
  simp
theorem u8n (n : Nat) : (UInt8.ofNat n).toNat = n % 256 := rfl
theorem enc_dec (r : Int) (t : ByteArray) (h : Utf8.valid r = true) : Utf8.decode (Utf8.encode r ++ t) 0 = (r.toNat, (Utf8.encode r).size) ∧ 0 < (Utf8.encode r).size := by
  have hv := (r_valid r).1 h
  obtain ⟨c, rfl⟩ := Int.eq_ofNat_of_zero_le (show 0 ≤ r by omega)
  have he : Utf8.encode (c : Int) = (if c < 0x80 then (⟨#[UInt8.ofNat c]⟩ : ByteArray)
      else if c < 0x800 then ⟨#[UInt8.ofNat (0xC0 + c / 64), UInt8.ofNat (0x80 + c % 64)]⟩
      else if c < 0x10000 then ⟨#[UInt8.ofNat (0xE0 + c / 4096), UInt8.ofNat (0x80 + c / 64 % 64), UInt8.ofNat (0x80 + c % 64)]⟩
      else ⟨#[UInt8.ofNat (0xF0 + c / 262144), UInt8.ofNat (0x80 + c / 4096 % 64), UInt8.ofNat (0x80 + c / 64 % 64), UInt8.ofNat (0x80 + c % 64)]⟩) := by
    unfold Utf8.encode
    simp only [h, if_true, Int.toNat_natCast]
  rw [he, Int.toNat_natCast]
  by_cases c1 : c < 0x80
  · rw [if_pos c1]
    have hsz : (⟨#[UInt8.ofNat c]⟩ : ByteArray).size = 1 := rfl
    refine ⟨?_, by rw [hsz]; decide⟩
    rw [Lib.decode_at, get_app _ t 0 (by rw [hsz]; decide), show (⟨#[UInt8.ofNat c]⟩ : ByteArray).get! 0 = UInt8.ofNat c from rfl, u8n]
    unfold Lib.decodeN
    have e : c % 256 = c := by omega
    rw [if_pos (by omega), e]
    rfl
  rw [if_neg c1]
  by_cases c2 : c < 0x800
  · rw [if_pos c2]
    generalize hA : (⟨#[UInt8.ofNat (0xC0 + c / 64), UInt8.ofNat (0x80 + c % 64)]⟩ : ByteArray) = A
    have hsz : A.size = 2 := by rw [← hA]; rfl
    have hap : (A ++ t).size = 2 + t.size := by rw [ByteArray.size_append, hsz]
    refine ⟨?_, by rw [hsz]; decide⟩
    rw [Lib.decode_at, Nat.sub_zero, hap, Nat.zero_add, get_app A t 0 (by omega), get_app A t 1 (by omega), show A.get! 0 = UInt8.ofNat (0xC0 + c / 64) by rw [← hA]; rfl, show A.get! 1 = UInt8.ofNat (0x80 + c % 64) by rw [← hA]; rfl, u8n, u8n, hsz]
    unfold Lib.decodeN
    rw [if_neg (by omega), if_pos (by omega), if_pos (by omega)]
    exact Prod.ext (by dsimp only; omega) rfl
  rw [if_neg c2]
  by_cases c3 : c < 0x10000
  · rw [if_pos c3]
    generalize hA : (⟨#[UInt8.ofNat (0xE0 + c / 4096), UInt8.ofNat (0x80 + c / 64 % 64), UInt8.ofNat (0x80 + c % 64)]⟩ : ByteArray) = A
    have hsz : A.size = 3 := by rw [← hA]; rfl
    have hap : (A ++ t).size = 3 + t.size := by rw [ByteArray.size_append, hsz]
    refine ⟨?_, by rw [hsz]; decide⟩
    rw [Lib.decode_at, Nat.sub_zero, hap, Nat.zero_add, Nat.zero_add, get_app A t 0 (by omega), get_app A t 1 (by omega), get_app A t 2 (by omega), show A.get! 0 = UInt8.ofNat (0xE0 + c / 4096) by rw [← hA]; rfl, show A.get! 1 = UInt8.ofNat (0x80 + c / 64 % 64) by rw [← hA]; rfl, show A.get! 2 = UInt8.ofNat (0x80 + c % 64) by rw [← hA]; rfl, u8n, u8n, u8n, hsz]
    unfold Lib.decodeN
    rw [if_neg (by omega), if_neg (by omega), if_pos (by omega), if_pos (by omega)]
    exact Prod.ext (by dsimp only; omega) rfl
  · rw [if_neg c3]
    generalize hA : (⟨#[UInt8.ofNat (0xF0 + c / 262144), UInt8.ofNat (0x80 + c / 4096 % 64), UInt8.ofNat (0x80 + c / 64 % 64), UInt8.ofNat (0x80 + c % 64)]⟩ : ByteArray) = A
    have hsz : A.size = 4 := by rw [← hA]; rfl
    have hap : (A ++ t).size = 4 + t.size := by rw [ByteArray.size_append, hsz]
    refine ⟨?_, by rw [hsz]; decide⟩
    rw [Lib.decode_at, Nat.sub_zero, hap, Nat.zero_add, Nat.zero_add, Nat.zero_add, get_app A t 0 (by omega), get_app A t 1 (by omega), get_app A t 2 (by omega), get_app A t 3 (by omega), show A.get! 0 = UInt8.ofNat (0xF0 + c / 262144) by rw [← hA]; rfl, show A.get! 1 = UInt8.ofNat (0x80 + c / 4096 % 64) by rw [← hA]; rfl, show A.get! 2 = UInt8.ofNat (0x80 + c / 64 % 64) by rw [← hA]; rfl, show A.get! 3 = UInt8.ofNat (0x80 + c % 64) by rw [← hA]; rfl, u8n, u8n, u8n, u8n, hsz]
    unfold Lib.decodeN
    rw [if_neg (by omega), if_neg (by omega), if_neg (by omega), if_pos (by omega), if_pos (by omega)]
    exact Prod.ext (by dsimp only; omega) rfl
theorem app_tail (P X : ByteArray) : (P ++ X).extract P.size (P ++ X).size = X := by
  apply r_ext
  rw [Lib.extract_data, ByteArray.data_append, Array.toList_append]
  have h1 : P.data.toList.length = P.size := by rw [Array.length_toList]; rfl
  have h2 : X.data.toList.length = X.size := by rw [Array.length_toList]; rfl
  rw [← h1, List.drop_left, ByteArray.size_append, h1, show P.size + X.size - P.size = X.size by omega, ← h2, List.take_length]
/-- Runes read back. -/
theorem pcs_runes : ∀ (l : List Int) (P : ByteArray) (f : Nat), (∀ r ∈ l, goodR r) → (runesBytes l).size ≤ f → (pcs (P ++ runesBytes l) f P.size).map (fun p => (p.f0, p.f3)) = l.map (fun r => (r, false))
  | [], P, f, h, hf => by
    rw [pcs_end _ _ _ (by rw [ByteArray.size_append]; show ¬ P.size < P.size + 0; omega)]
    rfl
  | r :: l, P, f, h, hf => by
    have hg := h r (List.mem_cons_self ..)
    have hv := (r_valid r).1 hg.1
    obtain ⟨e1, e2⟩ := enc_dec r (runesBytes l) hg.1
    have hsz : (runesBytes (r :: l)).size = (Utf8.encode r).size + (runesBytes l).size := by rw [r_cons, ByteArray.size_append]
    have hd : Utf8.decode (P ++ runesBytes (r :: l)) P.size = (r.toNat, (Utf8.encode r).size) := by
      rw [← decode_tail, app_tail, r_cons, e1]
    obtain ⟨f, rfl⟩ : ∃ q, f = q + 1 := ⟨f - 1, by omega⟩
    rw [pcs, if_pos (by rw [ByteArray.size_append]; omega), List.map_cons, List.map_cons, hd]
    have ih := pcs_runes l (P ++ Utf8.encode r) f (fun x hx => h x (List.mem_cons_of_mem _ hx)) (by omega)
    have hcat : P ++ Utf8.encode r ++ runesBytes l = P ++ runesBytes (r :: l) := by rw [r_cons, ByteArray.append_assoc]
    rw [hcat, ByteArray.size_append] at ih
    rw [ih]
    congr 1
    unfold pcAt
    rw [hd]
    have hne : ¬ (r.toNat = 65533 ∧ (Utf8.encode r).size = 1) := fun q => hg.2 (by omega)
    rw [decide_eq_false hne]
    simp only [Prod.mk.injEq, and_true]
    omega
theorem pieces_runes (l : List Int) (h : ∀ r ∈ l, goodR r) : (pieces (runesBytes l)).map (fun p => (p.f0, p.f3)) = l.map (fun r => (r, false)) := by
  have := pcs_runes l ByteArray.empty (runesBytes l).size h (Nat.le_refl _)
  have e : ByteArray.empty ++ runesBytes l = runesBytes l := by apply r_ext; rw [ByteArray.data_append]; simp
  rw [e] at this
  exact this
/-- What is read of pieces hangs on their runes and marks alone. -/
theorem readP_list (ls : List S118) : ∀ (ps : List S97) (l out : List Int), ps.map (fun p => (p.f0, p.f3)) = l.map (fun r => (r, false)) → (∀ r ∈ l, (rankOf ls r).isSome = true) → out.length + l.length ≤ 64 → readP ls ps out = (out ++ l, 0)
  | [], l, out, h, h2, h3 => by
    cases l with
    | nil => simp [readP]
    | cons => simp at h
  | p :: ps, l, out, h, h2, h3 => by
    cases l with
    | nil => simp at h
    | cons r l =>
      simp only [List.map_cons, List.cons.injEq, Prod.mk.injEq] at h
      obtain ⟨⟨a, b⟩, c⟩ := h
      have hr := h2 r (List.mem_cons_self ..)
      simp only [List.length_cons] at h3
      rw [readP, if_neg (by rw [b]; simp), a, if_neg (by rw [hr]; simp), if_neg (by omega), readP_list ls ps l _ c (fun x hx => h2 x (List.mem_cons_of_mem _ hx)) (by simp; omega)]
      simp
theorem readP_inv (ls : List S118) : ∀ (ps : List S97) (out l : List Int), readP ls ps out = (l, 0) → ∃ m, l = out ++ m ∧ ps.map (fun p => (p.f0, p.f3)) = m.map (fun r => (r, false)) ∧ ∀ r ∈ m, (rankOf ls r).isSome = true
  | [], out, l, h => by
    simp only [readP, Prod.mk.injEq] at h
    exact ⟨[], by simp [h.1], rfl, by simp⟩
  | p :: ps, out, l, h => by
    unfold readP at h
    split at h
    · simp at h
    · split at h
      · simp at h
      · split at h
        · simp at h
        · rename_i h1 h2 h3
          obtain ⟨m, e1, e2, e3⟩ := readP_inv ls ps _ l h
          refine ⟨p.f0 :: m, by rw [e1]; simp, ?_, fun r hr => ?_⟩
          · simp only [List.map_cons, e2, List.cons.injEq, Prod.mk.injEq, true_and, and_true]
            simpa using h1
          · rcases List.mem_cons.1 hr with rfl | hr
            · cases hh : (rankOf ls p.f0).isSome with
              | true => rfl
              | false => exact absurd hh h2
            · exact e3 r hr
-- bytes to runes and back
theorem extract_list (s : ByteArray) (i : Nat) : ∀ n, i + n ≤ s.size → (s.extract i (i + n)).data.toList = (List.range n).map (fun k => s.get! (i + k)) := fun n hn => by
  have hs : s.size = s.data.size := rfl
  rw [Lib.extract_data, show i + n - i = n by omega]
  apply List.ext_getElem
  · simp; omega
  · intro k h1 h2
    simp only [List.length_map, List.length_range] at h2
    simp only [List.getElem_take, List.getElem_drop, List.getElem_map, List.getElem_range]
    show _ = s.data[i + k]!
    rw [getElem!_pos s.data (i + k) (by omega)]
    simp
theorem ofNat_toNat (b : UInt8) (n : Nat) (h : n = b.toNat) : UInt8.ofNat n = b := by
  subst h
  apply UInt8.toNat_inj.1
  rw [u8n]
  have := b.toNat_lt
  omega
theorem dec_cases (n b0 b1 b2 b3 : Nat) (h : ¬ ((Lib.decodeN n b0 b1 b2 b3).1 = 65533 ∧ (Lib.decodeN n b0 b1 b2 b3).2 = 1)) :
    (Lib.decodeN n b0 b1 b2 b3 = (b0, 1) ∧ b0 < 128) ∨ (Lib.decodeN n b0 b1 b2 b3 = (b0 % 32 * 64 + b1 % 64, 2) ∧ b0 / 32 = 6 ∧ b1 / 64 = 2 ∧ b0 % 32 * 64 + b1 % 64 ≥ 128) ∨
    (Lib.decodeN n b0 b1 b2 b3 = (b0 % 16 * 4096 + b1 % 64 * 64 + b2 % 64, 3) ∧ b0 / 16 = 14 ∧ b1 / 64 = 2 ∧ b2 / 64 = 2 ∧ b0 % 16 * 4096 + b1 % 64 * 64 + b2 % 64 ≥ 2048) ∨
    (Lib.decodeN n b0 b1 b2 b3 = (b0 % 8 * 262144 + b1 % 64 * 4096 + b2 % 64 * 64 + b3 % 64, 4) ∧ b0 / 8 = 30 ∧ b1 / 64 = 2 ∧ b2 / 64 = 2 ∧ b3 / 64 = 2 ∧ b0 % 8 * 262144 + b1 % 64 * 4096 + b2 % 64 * 64 + b3 % 64 ≥ 65536) := by
  unfold Lib.decodeN at h ⊢
  by_cases p0 : b0 < 128
  · rw [if_pos p0]; exact .inl ⟨rfl, p0⟩
  rw [if_neg p0] at h ⊢
  by_cases p1 : b0 / 32 = 6 ∧ (1 < n ∧ b1 / 64 = 2)
  · rw [if_pos p1] at h ⊢
    by_cases q : b0 % 32 * 64 + b1 % 64 ≥ 128
    · rw [if_pos q]; exact .inr (.inl ⟨rfl, p1.1, p1.2.2, q⟩)
    · rw [if_neg q] at h; exact absurd ⟨rfl, rfl⟩ h
  rw [if_neg p1] at h ⊢
  by_cases p2 : b0 / 16 = 14 ∧ (1 < n ∧ b1 / 64 = 2) ∧ (2 < n ∧ b2 / 64 = 2)
  · rw [if_pos p2] at h ⊢
    split at h
    · rename_i q
      rw [if_pos q]; exact .inr (.inr (.inl ⟨rfl, p2.1, p2.2.1.2, p2.2.2.2, q.1⟩))
    · exact absurd ⟨rfl, rfl⟩ h
  rw [if_neg p2] at h ⊢
  by_cases p3 : b0 / 8 = 30 ∧ (1 < n ∧ b1 / 64 = 2) ∧ (2 < n ∧ b2 / 64 = 2) ∧ (3 < n ∧ b3 / 64 = 2)
  · rw [if_pos p3] at h ⊢
    split at h
    · rename_i q
      rw [if_pos q]; exact .inr (.inr (.inr ⟨rfl, p3.1, p3.2.1.2, p3.2.2.1.2, p3.2.2.2.2, q.1⟩))
    · exact absurd ⟨rfl, rfl⟩ h
  · rw [if_neg p3] at h; exact absurd ⟨rfl, rfl⟩ h
theorem dec_enc (s : ByteArray) (i : Nat) (hi : i < s.size) (h : ¬ ((Utf8.decode s i).1 = 65533 ∧ (Utf8.decode s i).2 = 1)) : s.extract i (i + (Utf8.decode s i).2) = Utf8.encode ((Utf8.decode s i).1 : Int) := by
  have hv := ((decode_valid s i).resolve_left h).2
  have hle := (decode_le65 s i hi)
  have hE : ∀ c : Nat, Utf8.valid (c : Int) = true → (Utf8.encode (c : Int)).data.toList = (if c < 0x80 then ([UInt8.ofNat c] : List UInt8)
      else if c < 0x800 then [UInt8.ofNat (0xC0 + c / 64), UInt8.ofNat (0x80 + c % 64)]
      else if c < 0x10000 then [UInt8.ofNat (0xE0 + c / 4096), UInt8.ofNat (0x80 + c / 64 % 64), UInt8.ofNat (0x80 + c % 64)]
      else [UInt8.ofNat (0xF0 + c / 262144), UInt8.ofNat (0x80 + c / 4096 % 64), UInt8.ofNat (0x80 + c / 64 % 64), UInt8.ofNat (0x80 + c % 64)]) := fun c hc => by
    unfold Utf8.encode
    simp only [hc, if_true, Int.toNat_natCast]
    by_cases c1 : c < 0x80
    · rw [if_pos c1, if_pos c1]
    · rw [if_neg c1, if_neg c1]
      by_cases c2 : c < 0x800
      · rw [if_pos c2, if_pos c2]
      · rw [if_neg c2, if_neg c2]
        by_cases c3 : c < 0x10000
        · rw [if_pos c3, if_pos c3]
        · rw [if_neg c3, if_neg c3]
  have hd := Lib.decode_at s i
  have l1 : (s.get! (i + 1)).toNat ≤ 255 := Nat.le_of_lt_succ (s.get! (i + 1)).toNat_lt
  have l2 : (s.get! (i + 2)).toNat ≤ 255 := Nat.le_of_lt_succ (s.get! (i + 2)).toNat_lt
  have l3 : (s.get! (i + 3)).toNat ≤ 255 := Nat.le_of_lt_succ (s.get! (i + 3)).toNat_lt
  have q0 := ofNat_toNat (s.get! i)
  have q1 := ofNat_toNat (s.get! (i + 1))
  have q2 := ofNat_toNat (s.get! (i + 2))
  have q3 := ofNat_toNat (s.get! (i + 3))
  have hx := extract_list s i (Utf8.decode s i).2 hle.2
  apply r_ext
  rw [hx, hE _ hv]
  clear hE hx
  rw [hd] at h hv hle ⊢
  rcases dec_cases _ _ _ _ _ h with ⟨e, c1⟩ | ⟨e, c1, c2, c3⟩ | ⟨e, c1, c2, c3, c4⟩ | ⟨e, c1, c2, c3, c4, c5⟩
  · rw [e]
    dsimp only
    rw [if_pos (by omega), q0 _ rfl]
    rfl
  · rw [e] at hle ⊢
    dsimp only at hle ⊢
    rw [if_neg (by omega), if_pos (by omega), q0 _ (by omega), q1 _ (by omega)]
    rfl
  · rw [e] at hle ⊢
    dsimp only at hle ⊢
    rw [if_neg (by omega), if_neg (by omega), if_pos (by omega), q0 _ (by omega), q1 _ (by omega), q2 _ (by omega)]
    rfl
  · rw [e] at hle ⊢
    dsimp only at hle ⊢
    rw [if_neg (by omega), if_neg (by omega), if_neg (by omega), q0 _ (by omega), q1 _ (by omega), q2 _ (by omega), q3 _ (by omega)]
    rfl
theorem ext_cat (s : ByteArray) (i j : Nat) (h1 : i ≤ j) (h2 : j ≤ s.size) : s.extract i j ++ s.extract j s.size = s.extract i s.size := by
  apply r_ext
  rw [ByteArray.data_append, Array.toList_append, Lib.extract_data, Lib.extract_data, Lib.extract_data]
  have e : s.data.toList.drop j = (s.data.toList.drop i).drop (j - i) := by rw [List.drop_drop]; congr 1; omega
  have hl : s.data.toList.length = s.size := by rw [Array.length_toList]; rfl
  rw [e, List.take_of_length_le (l := ((s.data.toList.drop i).drop (j - i))) (by simp; omega), List.take_append_drop, List.take_of_length_le (by simp)]
theorem pcs_back (s : ByteArray) : ∀ f i, i ≤ s.size → s.size ≤ i + f → (∀ p ∈ pcs s f i, p.f3 = false) → runesBytes ((pcs s f i).map (·.f0)) = s.extract i s.size
  | 0, i, h0, h1, _ => by
    apply r_ext
    rw [Lib.extract_data, List.drop_of_length_le (by rw [Array.length_toList]; show s.size ≤ i; omega), List.take_nil]
    rfl
  | f + 1, i, h0, h1, h2 => by
    by_cases hi : i < s.size
    · have hw := Lib.decode_width_pos s i hi
      have hle := (decode_le65 s i hi).2
      have e : pcs s (f + 1) i = pcAt s i :: pcs s f (i + (Utf8.decode s i).2) := by rw [pcs, if_pos hi]
      rw [e] at h2 ⊢
      have hb : ¬ ((Utf8.decode s i).1 = 65533 ∧ (Utf8.decode s i).2 = 1) := by
        have := h2 _ (List.mem_cons_self ..)
        simpa [pcAt] using this
      rw [List.map_cons, r_cons, pcs_back s f _ hle (by omega) (fun p hp => h2 p (List.mem_cons_of_mem _ hp)), ← ext_cat s i (i + (Utf8.decode s i).2) (by omega) hle, dec_enc s i hi hb]
      rfl
    · rw [pcs_end s _ _ hi]
      apply r_ext
      rw [Lib.extract_data, List.drop_of_length_le (by rw [Array.length_toList]; show s.size ≤ i; omega), List.take_nil]
      rfl
theorem pieces_back (s : ByteArray) (h : ∀ p ∈ pieces s, p.f3 = false) : runesBytes ((pieces s).map (·.f0)) = s := by
  have := pcs_back s s.size 0 (Nat.zero_le _) (by omega) h
  rw [show (pieces s) = pcs s s.size 0 from rfl, this]
  apply r_ext
  rw [Lib.extract_data, List.drop_zero, Nat.sub_zero, List.take_of_length_le (by rw [Array.length_toList]; exact Nat.le_refl _)]
-- letters of an alphabet that may be
theorem good_of {fs : List ByteArray} {ls : List S118} (hal : alphaB fs ls = true) {r : Int} (h : (rankOf ls r).isSome = true) : goodR r := by
  unfold rankOf at h
  rw [List.findIdx?_isSome, List.any_eq_true] at h
  obtain ⟨x, hx, e⟩ := h
  have hl := lets_lettered (alpha_parts hal).2 x hx
  rw [of_decide_eq_true e] at hl
  unfold letteredB at hl
  simp only [Bool.or_eq_true, Bool.and_eq_true, decide_eq_true_eq] at hl
  exact ⟨(r_valid r).2 (by omega), by omega⟩
theorem letters_of {fs : List ByteArray} {ls : List S118} (hal : alphaB fs ls = true) {l : List Int} (h : ∀ r ∈ l, (rankOf ls r).isSome = true) (hl : l.length ≤ 64) : lettersB fs ls (runesBytes l) = (l, 0) := by
  unfold lettersB
  rw [hal, if_pos rfl, readP_cut, readP_list ls _ l [] (pieces_runes l (fun r hr => good_of hal (h r hr))) h (by simpa using hl)]
  rfl
theorem letters_yes {fs : List ByteArray} {ls : List S118} {s : ByteArray} {l : List Int} (h : lettersB fs ls s = (l, 0)) : alphaB fs ls = true ∧ (∀ r ∈ l, (rankOf ls r).isSome = true) ∧ l.length ≤ 64 ∧ runesBytes l = s := by
  have hal : alphaB fs ls = true := letters_alpha (x := s) (by rw [h])
  have hlen := lettersB_len fs ls s
  rw [h] at hlen
  unfold lettersB at h
  rw [hal, if_pos rfl, readP_cut] at h
  obtain ⟨m, e1, e2, e3⟩ := readP_inv ls _ [] l h
  rw [List.nil_append] at e1
  subst e1
  refine ⟨hal, e3, hlen, ?_⟩
  have f0 : (pieces s).map (·.f0) = l := by
    have := congrArg (List.map Prod.fst) e2
    simpa [List.map_map, Function.comp_def] using this
  have f3 : ∀ p ∈ pieces s, p.f3 = false := fun p hp => by
    have : (p.f0, p.f3) ∈ l.map (fun r => (r, false)) := by rw [← e2]; exact List.mem_map.2 ⟨p, hp, rfl⟩
    obtain ⟨r, _, hr⟩ := List.mem_map.1 this
    exact (Prod.mk.inj hr).2.symm
  rw [← f0]
  exact pieces_back s f3
/-- Turned over. -/
def turnedB (fs : List ByteArray) (ls : List S118) (s : ByteArray) : ByteArray × Int := if (lettersB fs ls s).2 = 0 then (runesBytes (lettersB fs ls s).1.reverse, 0) else (⟨#[]⟩, (lettersB fs ls s).2)
theorem reverse_l0 (l : List Int) (hl : l.length ≤ 1000000) : ∀ d i x, i + i + d = l.length → x.length = l.length → (∀ j, j < i → x[j]? = l[l.length - 1 - j]? ∧ x[l.length - 1 - j]? = l[j]?) → (∀ j, i ≤ j → j < l.length - i → x[j]? = l[j]?) → ∀ k, d < k →
    slices_Reverse_rune_rune.l0 k x (i : Int) ((l.length : Int) - 1 - i) = some l.reverse
  | d, i, x, h0, h1, h2, h3, k + 1, hk => by
    unfold slices_Reverse_rune_rune.l0
    by_cases hlt : (i : Int) < (l.length : Int) - 1 - i
    · obtain ⟨d, rfl⟩ : ∃ q, d = q + 2 := ⟨d - 2, by omega⟩
      have ei : ((l.length : Int) - 1 - i).toNat = l.length - 1 - i := by omega
      rw [if_pos hlt, if_pos (by omega), if_pos (by omega), if_pos (by omega), if_pos (by omega), w64 (by omega) (by omega), w64 (by omega) (by omega), show ((i : Int) + 1) = ((i + 1 : Nat) : Int) by omega,
        show ((l.length : Int) - 1 - i - 1) = ((l.length : Int) - 1 - ((i + 1 : Nat) : Int)) by omega, ei, Int.toNat_natCast]
      have ra : rd x ((l.length : Int) - 1 - i) = (l[l.length - 1 - i]'(by omega)) := by
        unfold rd
        rw [ei, List.getD_eq_getElem?_getD, h3 _ (by omega) (by omega), List.getElem?_eq_getElem (by omega)]; rfl
      have rb : rd x (i : Int) = (l[i]'(by omega)) := by
        unfold rd
        rw [Int.toNat_natCast, List.getD_eq_getElem?_getD, h3 _ (by omega) (by omega), List.getElem?_eq_getElem (by omega)]; rfl
      rw [ra, rb]
      refine reverse_l0 l hl d (i + 1) _ (by omega) (by simp [h1]) (fun j hj => ?_) (fun j hj hj2 => ?_) k (by omega)
      · by_cases e : j = i
        · subst e
          constructor
          · rw [List.getElem?_set_ne (by omega), List.getElem?_set_self (by omega), List.getElem?_eq_getElem (by omega)]
          · rw [List.getElem?_set_self (by simp; omega), List.getElem?_eq_getElem (by omega)]
        · rw [List.getElem?_set_ne (by omega), List.getElem?_set_ne (by omega), List.getElem?_set_ne (by omega), List.getElem?_set_ne (by omega)]
          exact h2 j (by omega)
      · rw [List.getElem?_set_ne (by omega), List.getElem?_set_ne (by omega)]
        exact h3 j (by omega) (by omega)
    · rw [if_neg hlt]
      congr 1
      apply List.ext_getElem?
      intro j
      by_cases hj : j < l.length
      · rw [List.getElem?_reverse hj]
        by_cases h4 : j < i
        · exact (h2 j h4).1
        · by_cases h5 : j < l.length - i
          · rw [h3 j (by omega) h5]
            congr 1
            omega
          · have := (h2 (l.length - 1 - j) (by omega)).2
            rw [show l.length - 1 - (l.length - 1 - j) = j by omega] at this
            exact this
      · rw [List.getElem?_eq_none (by omega), List.getElem?_eq_none (by simp; omega)]
theorem reverse_eq (l : List Int) (hl : l.length ≤ 1000000) (k : Nat) (hk : l.length < k) : slices_Reverse_rune_rune.f k l = some l.reverse := by
  unfold slices_Reverse_rune_rune.f
  rw [w64 (by omega) (by omega)]
  have := reverse_l0 l hl l.length 0 l (by omega) rfl (fun j hj => by omega) (fun j _ _ => rfl) k hk
  simpa using this
theorem turned_eq (fs : List ByteArray) (ls : List S118) (s : ByteArray) (hf : fitsS fs = true) (k : Nat) (hk : 100 ≤ k) : word_Turned.f k fs ls s = some (turnedB fs ls s) := by
  unfold word_Turned.f turnedB word_Letters.f
  rw [if_pos hf]
  have hl := lettersB_len fs ls s
  simp only [Option.bind_some]
  generalize lettersB fs ls s = le at hl ⊢
  obtain ⟨l, e⟩ := le
  simp only at hl ⊢
  by_cases he : e = 0
  · subst he
    rw [if_pos rfl, if_pos rfl, reverse_eq l (by omega) k (by omega)]
    rfl
  · rw [if_neg he, if_neg he]
theorem letters_err {fs : List ByteArray} {ls : List S118} {s : ByteArray} (h : (lettersB fs ls s).2 ≠ 0) : (lettersB fs ls s).1 = [] := by
  unfold lettersB at h ⊢
  split
  · rename_i hal
    rw [if_pos hal] at h
    exact readP_err ls _ _ h
  · rfl
section
variable {fs : List ByteArray} {ls : List S118} {s : ByteArray} {l : List Int}
theorem wl_eq (hf : fitsS fs = true) (s : ByteArray) : word_Letters.f fs ls s = some (lettersB fs ls s) := by
  unfold word_Letters.f; rw [if_pos hf]
theorem wt_eq (hf : fitsS fs = true) (h : lettersB fs ls s = (l, 0)) (k : Nat) (hk : 100 ≤ k) : word_Turned.f k fs ls s = some (runesBytes l.reverse, 0) := by
  rw [turned_eq fs ls s hf k hk]
  unfold turnedB
  rw [h, if_pos rfl]
theorem wp_eq (hf : fitsS fs = true) (h : lettersB fs ls s = (l, 0)) (lo hi : Nat) (h1 : lo ≤ hi) (h2 : hi ≤ l.length) : word_Part.f fs ls s (lo : Int) (hi : Int) = some (runesBytes ((l.take hi).drop lo), 0) := by
  unfold word_Part.f partB
  have hor : ¬ ((lo : Int) < 0 ∨ (hi : Int) < lo ∨ ((l.length : Int)) < hi) := by omega
  rw [if_pos hf, h]
  dsimp only
  rw [if_neg (by decide), if_neg hor, Int.toNat_natCast, Int.toNat_natCast]
theorem wj_eq (hf : fitsS fs = true) {x y : ByteArray} {lx ly : List Int} (hx : lettersB fs ls x = (lx, 0)) (hy : lettersB fs ls y = (ly, 0)) : word_Join.f fs ls [x, y] = some (runesBytes (lx ++ ly), 0) := by
  have ax := letters_yes hx
  have ay := letters_yes hy
  have rx : readP ls (pieces (cut65 x)) [] = (lx, 0) := by
    have := hx; unfold lettersB at this; rwa [ax.1, if_pos rfl] at this
  have ry : readP ls (pieces (cut65 y)) [] = (ly, 0) := by
    have := hy; unfold lettersB at this; rwa [ax.1, if_pos rfl] at this
  have hall : allB fs ls [x, y] = 0 := by
    unfold allB
    rw [ax.1, if_neg (by decide), if_neg (by simp)]
    simp only [allE, rx, ry]
    rfl
  have hfl : [x, y].flatMap (lettersOf ls) = lx ++ ly := by
    simp [lettersOf, rx, ry]
  unfold word_Join.f joinW
  rw [if_pos hf, hall, hfl, if_neg (by decide), if_neg (by have := ax.2.2.1; have := ay.2.2.1; simp; omega)]
theorem wx_eq (hf : fitsS fs = true) (h : lettersB fs ls s = (l, 0)) : word_Text.f fs ls l = some (s, 0) := by
  obtain ⟨hal, hr, hl, hb⟩ := letters_yes h
  have hw := (letters_wf fs ls s).1
  rw [h] at hw
  have hR : fitsR l = true := List.all_eq_true.2 hw
  have : word_Text.f fs ls l = some (textB fs ls l) := by unfold word_Text.f; rw [hf, hR]; rfl
  rw [this]
  unfold textB
  rw [hal, if_neg (by decide), if_neg (by omega), if_pos (List.all_eq_true.2 hr), hb]
theorem wc_eq (hf : fitsS fs = true) {x y : ByteArray} {lx ly : List Int} (hx : lettersB fs ls x = (lx, 0)) (hy : lettersB fs ls y = (ly, 0)) : word_Common.f fs ls x y = some ((comPre lx ly : Int), 0) := by
  unfold word_Common.f comB bothB
  rw [if_pos hf, hx, hy]
  rfl
theorem sub_letters (h : lettersB fs ls s = (l, 0)) (m : List Int) (hm : ∀ r ∈ m, r ∈ l) (hl : m.length ≤ 64) : lettersB fs ls (runesBytes m) = (m, 0) := by
  obtain ⟨hal, hr, _, _⟩ := letters_yes h
  exact letters_of hal (fun r hrm => hr r (hm r hrm)) hl
end
theorem comPre_spec : ∀ xs ys : List Int, comPre xs ys ≤ xs.length ∧ comPre xs ys ≤ ys.length ∧ xs.take (comPre xs ys) = ys.take (comPre xs ys) ∧ (comPre xs ys < xs.length → comPre xs ys < ys.length → xs[comPre xs ys]? ≠ ys[comPre xs ys]?)
  | [], ys => by simp [comPre]
  | x :: xs, [] => by simp [comPre]
  | x :: xs, y :: ys => by
    rw [comPre_cons]
    obtain ⟨a, b, c, d⟩ := comPre_spec xs ys
    by_cases h : x = y
    · rw [if_pos h]
      subst h
      refine ⟨by simp; omega, by simp; omega, by simp [c], fun h1 h2 => ?_⟩
      simp only [List.length_cons] at h1 h2
      simpa using d (by omega) (by omega)
    · rw [if_neg h]
      refine ⟨by simp, by simp, by simp, fun _ _ => ?_⟩
      simpa using h
theorem awake_eq (k : Nat) (hk : 100 ≤ k) : cognatelaw03_awake.f k = some true := by
  unfold cognatelaw03_awake.f cognatelaw03_abc.f
  simp only [Option.bind_some]
  rw [turned_eq _ _ _ (by decide +kernel) k hk]
  simp only [Option.bind_some]
  decide +kernel
theorem parts_j3 {fs : List ByteArray} {ls : List S118} {w : ByteArray} {lw : List Int} (hf : fitsS fs = true) (hw : lettersB fs ls w = (lw, 0)) (c : Nat) (hc : c ≤ lw.length) (k : Nat) (hk : 1 ≤ k) : cognatelaw03_WordParts.j3 k w (c : Int) lw false fs ls = some true := by
  obtain ⟨k, rfl⟩ : ∃ q, k = q + 1 := ⟨k - 1, by omega⟩
  obtain ⟨hal, hr, hl, hb⟩ := letters_yes hw
  have h1 : word_Part.f fs ls w (0 : Int) (c : Int) = some (runesBytes ((lw.take c).drop 0), 0) := wp_eq hf hw 0 c (by omega) hc
  have h2 := wp_eq hf hw c lw.length hc (Nat.le_refl _)
  rw [List.drop_zero] at h1
  rw [List.take_length] at h2
  have a1 := sub_letters hw (lw.take c) (fun r hr => List.mem_of_mem_take hr) (by simp; omega)
  have a2 := sub_letters hw (lw.drop c) (fun r hr => List.mem_of_mem_drop hr) (by simp; omega)
  have h3 := wj_eq hf a1 a2
  rw [List.take_append_drop, hb] at h3
  rw [cognatelaw03_WordParts.j3, if_neg Bool.false_ne_true, h1, Option.bind_some, h2, Option.bind_some]
  dsimp only
  rw [h3, Option.bind_some]
  dsimp only
  rw [if_pos rfl, if_pos rfl, if_pos rfl]
  simp
theorem parts_j2 {fs : List ByteArray} {ls : List S118} {w : ByteArray} {lw : List Int} (hf : fitsS fs = true) (hw : lettersB fs ls w = (lw, 0)) (c : Int) (k : Nat) (hk : 2 ≤ k) : cognatelaw03_WordParts.j2 k w c lw fs ls = some true := by
  obtain ⟨k, rfl⟩ : ∃ q, k = q + 1 := ⟨k - 1, by omega⟩
  have jt : cognatelaw03_WordParts.j3 k w c lw true fs ls = some true := by
    obtain ⟨k, rfl⟩ : ∃ q, k = q + 1 := ⟨k - 1, by omega⟩
    rw [cognatelaw03_WordParts.j3, if_pos rfl]
  rw [cognatelaw03_WordParts.j2]
  by_cases h0 : c < 0
  · rw [if_pos h0, jt]
  rw [if_neg h0]
  by_cases h1 : (lw.length : Int) < c
  · rw [decide_eq_true (show c > (lw.length : Int) from h1), jt]
  rw [decide_eq_false (show ¬ c > (lw.length : Int) from h1)]
  obtain ⟨n, rfl⟩ := Int.eq_ofNat_of_zero_le (show 0 ≤ c by omega)
  exact parts_j3 hf hw n (by omega) k (by omega)
theorem parts_j1 {fs : List ByteArray} {ls : List S118} {w v : ByteArray} {lw lv : List Int} (hf : fitsS fs = true) (hw : lettersB fs ls w = (lw, 0)) (hv : lettersB fs ls v = (lv, 0)) (c : Int) (k : Nat) (hk : 120 ≤ k) :
    cognatelaw03_WordParts.j1 k w v c lw lv (runesBytes lw.reverse) (runesBytes lv.reverse) false fs ls = some true := by
  obtain ⟨k, rfl⟩ : ∃ q, k = q + 1 := ⟨k - 1, by omega⟩
  obtain ⟨hal, hr, hl, hb⟩ := letters_yes hw
  obtain ⟨_, hr2, hl2, hb2⟩ := letters_yes hv
  rw [cognatelaw03_WordParts.j1, if_neg Bool.false_ne_true, wj_eq hf hw hv, Option.bind_some]
  dsimp only
  rw [if_pos rfl]
  have ew : wrap64 ((lw.length : Int) + (lv.length : Int)) = ((lw.length + lv.length : Nat) : Int) := by rw [w64 (by omega) (by omega)]; omega
  rw [ew]
  by_cases h : lw.length + lv.length ≤ 64
  · have a1 : lettersB fs ls (runesBytes (lw ++ lv)) = (lw ++ lv, 0) := letters_of hal (fun r hr' => by rcases List.mem_append.1 hr' with q | q; exact hr r q; exact hr2 r q) (by simpa using h)
    have a2 := sub_letters hv lv.reverse (fun r hr => List.mem_reverse.1 hr) (by simpa using hl2)
    have a3 := sub_letters hw lw.reverse (fun r hr => List.mem_reverse.1 hr) (by simpa using hl)
    rw [if_pos (by omega), wt_eq hf a1 k (by omega), Option.bind_some, wj_eq hf a2 a3, Option.bind_some]
    dsimp only
    rw [if_pos rfl, if_pos rfl, List.reverse_append, if_pos rfl, parts_j2 hf hw c k (by omega)]
  · rw [if_neg (by omega), parts_j2 hf hw c k (by omega)]
theorem WordParts : ∀ (l0_0 : List ByteArray) (l0_1 : List (S118)) (a1 : ByteArray) (a2 : ByteArray) (a3 : Int), (l0_0.length * 16 ≤ 140737488351232 ∧ ∀ y ∈ l0_0, y.size ≤ 140737488351232) → (l0_1.length * 12 ≤ 140737488351232 ∧ ∀ y ∈ l0_1, wfS118 y) → (a1.size ≤ 140737488351232) → (a2.size ≤ 140737488351232) → ((Lit.int .i64 a3).wf = true) → ∃ k, cognatelaw03_WordParts.f k l0_0 l0_1 a1 a2 a3 = some true := by
  intro fs ls w v c hf _ _ _ _
  have hfit := fits_of hf.2
  obtain ⟨k, hk⟩ : ∃ k : Nat, 200 ≤ k := ⟨200, Nat.le_refl _⟩
  refine ⟨k, ?_⟩
  unfold cognatelaw03_WordParts.f
  rw [awake_eq k (by omega), Option.bind_some, if_pos rfl, wl_eq hfit, Option.bind_some, wl_eq hfit, Option.bind_some]
  obtain ⟨k, rfl⟩ : ∃ q, k = q + 1 := ⟨k - 1, by omega⟩
  by_cases h1 : (lettersB fs ls w).2 = 0
  · rw [if_pos h1]
    by_cases h2 : (lettersB fs ls v).2 = 0
    · have hw : lettersB fs ls w = ((lettersB fs ls w).1, 0) := Prod.ext rfl h1
      have hv : lettersB fs ls v = ((lettersB fs ls v).1, 0) := Prod.ext rfl h2
      generalize (lettersB fs ls w).1 = lw at *
      generalize (lettersB fs ls v).1 = lv at *
      rw [hw, hv]
      dsimp only
      obtain ⟨hal, hr, hl, hb⟩ := letters_yes hw
      obtain ⟨_, hr2, hl2, hb2⟩ := letters_yes hv
      have a3 := sub_letters hw lw.reverse (fun r hr => List.mem_reverse.1 hr) (by simpa using hl)
      have a4 := wt_eq hfit a3 k (by omega)
      rw [List.reverse_reverse, hb] at a4
      obtain ⟨p1, p2, p3, p4⟩ := comPre_spec lw lv
      have c1 : word_Part.f fs ls w (0 : Int) (comPre lw lv : Int) = some (runesBytes ((lw.take (comPre lw lv)).drop 0), 0) := wp_eq hfit hw 0 (comPre lw lv) (by omega) p1
      have c2 : word_Part.f fs ls v (0 : Int) (comPre lw lv : Int) = some (runesBytes ((lv.take (comPre lw lv)).drop 0), 0) := wp_eq hfit hv 0 (comPre lw lv) (by omega) p2
      rw [List.drop_zero] at c1 c2
      have j1 := parts_j1 hfit hw hv c k (by omega)
      rw [show ((0 : Int) != 0) = false from rfl, cognatelaw03_WordParts.j0, if_neg Bool.false_ne_true, wx_eq hfit hw, Option.bind_some, wt_eq hfit hw k (by omega), Option.bind_some, wt_eq hfit hv k (by omega), Option.bind_some]
      dsimp only
      rw [a4, Option.bind_some]
      dsimp only
      rw [if_pos rfl, if_pos rfl, if_pos rfl, if_pos rfl, if_pos rfl, if_pos rfl, wc_eq hfit hw hv, Option.bind_some]
      dsimp only
      rw [c1, Option.bind_some, c2, Option.bind_some]
      dsimp only
      rw [p3, if_pos rfl, if_pos rfl, if_pos rfl, if_pos rfl]
      by_cases q1 : comPre lw lv < lw.length
      · rw [if_pos (by omega)]
        by_cases q2 : comPre lw lv < lv.length
        · have hne := p4 q1 q2
          rw [List.getElem?_eq_getElem q1, List.getElem?_eq_getElem q2] at hne
          have hb : (rd lw (comPre lw lv : Int) == rd lv (comPre lw lv : Int)) = false := by
            rw [beq_eq_false_iff_ne]
            unfold rd
            rw [Int.toNat_natCast, List.getD_eq_getElem?_getD, List.getD_eq_getElem?_getD, List.getElem?_eq_getElem q1, List.getElem?_eq_getElem q2]
            exact fun e => hne (congrArg some e)
          rw [if_pos (by omega), if_pos (by omega), hb, j1]
        · rw [if_neg (by omega), j1]
      · rw [if_neg (by omega), j1]
    · rw [show ((lettersB fs ls v).2 != 0) = true by simpa using h2, cognatelaw03_WordParts.j0, if_pos rfl, if_pos h1]
  · rw [if_neg h1, cognatelaw03_WordParts.j0, if_pos rfl, if_neg h1, letters_err h1]
    rfl
end Go.Proofs.YtfpfdmenhgageaaDoor.Pure
