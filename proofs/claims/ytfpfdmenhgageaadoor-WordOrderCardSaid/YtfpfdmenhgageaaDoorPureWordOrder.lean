import Derived.Test.YtfpfdmenhgageaaDoorSRd
import Derived.Test.YtfpfdmenhgageaaDoorSx11
namespace Go.Proofs.YtfpfdmenhgageaaDoor.Pure
open Go.RowKit Go.Proofs.YtfpfdmenhgageaaDoor.S Go.Proofs.YtfpfdmenhgageaaDoorW.PrintWords Go.Proofs.YtfpfdmenhgageaaDoorW.PrintLast Go.Proofs.YtfpfdmenhgageaaDoorW.PrintMore
set_option linter.unusedVariables false
set_option linter.unusedSimpArgs false
theorem w64 {n : Int} (h0 : -9223372036854775808 ≤ n) (h1 : n ≤ 9223372036854775807) : wrap64 n = n := by unfold wrap64; omega
theorem lettersB_len (fs : List ByteArray) (ls : List S118) (s : ByteArray) : (lettersB fs ls s).1.length ≤ 64 := by
  have : ∀ (ps : List S97) (out : List Int), out.length ≤ 64 → (readP ls ps out).1.length ≤ 64 := by
    intro ps
    induction ps with
    | nil => intro out h; exact h
    | cons p ps ih =>
      intro out h
      unfold readP
      split
      · simp
      · split
        · simp
        · split
          · simp
          · exact ih _ (by simp; omega)
  unfold lettersB
  split
  · exact this _ _ (by simp)
  · simp
theorem fits_of {fs : List ByteArray} (h : ∀ y ∈ fs, y.size ≤ 140737488351232) : fitsS fs = true := by
  unfold fitsS
  exact List.all_eq_true.2 fun y hy => decide_eq_true (by have := h y hy; omega)
-- what is read of a text's beginning is what is read of all
theorem decode_cut (s : ByteArray) (n i : Nat) (h : i + 4 ≤ n) (hn : n ≤ s.size) : Utf8.decode (s.extract 0 n) i = Utf8.decode s i := by
  have hg : ∀ j, j < n → (s.extract 0 n).get! j = s.get! j := fun j hj => by
    show (s.extract 0 n).data[j]! = s.data[j]!
    simp only [ByteArray.data_extract, getElem!_def]
    rw [Array.getElem?_extract, if_pos (by have : s.data.size = s.size := rfl; omega), Nat.zero_add]
  have hsz : (s.extract 0 n).size = n := by simp [ByteArray.size_extract]; omega
  unfold Utf8.decode
  simp only [hsz, hg (i + 0) (by omega), hg (i + 1) (by omega), hg (i + 2) (by omega), hg (i + 3) (by omega), show (i + 1 < n) = True from eq_true (by omega), show (i + 2 < n) = True from eq_true (by omega), show (i + 3 < n) = True from eq_true (by omega), show (i + 1 < s.size) = True from eq_true (by omega), show (i + 2 < s.size) = True from eq_true (by omega), show (i + 3 < s.size) = True from eq_true (by omega)]
theorem width_le (s : ByteArray) (i : Nat) : (Utf8.decode s i).2 ≤ 4 := by
  unfold Utf8.decode
  simp only
  repeat' split
  all_goals simp
theorem read_cut (ls : List S118) (s : ByteArray) (hs : s.size > 65536) : ∀ m i f g out, out.length + m = 65 → out.length ≤ 64 → i + 4 * m ≤ 65532 → 65536 ≤ i + f → s.size ≤ i + g →
    readP ls (pcs (s.extract 0 65536) f i) out = readP ls (pcs s g i) out
  | 0, i, f, g, out, h0, h1, h2, h3, h4 => by omega
  | m + 1, i, f, g, out, h0, h1, h2, h3, h4 => by
    obtain ⟨f, rfl⟩ : ∃ q, f = q + 1 := ⟨f - 1, by omega⟩
    obtain ⟨g, rfl⟩ : ∃ q, g = q + 1 := ⟨g - 1, by omega⟩
    have hsz : (s.extract 0 65536).size = 65536 := by simp [ByteArray.size_extract]; omega
    have hd := decode_cut s 65536 i (by omega) (by omega)
    have hw := width_le s i
    have hw1 := Lib.decode_width_pos s i (by omega)
    rw [pcs, if_pos (by omega), pcs, if_pos (by omega)]
    have hp : pcAt (s.extract 0 65536) i = pcAt s i := by unfold pcAt; rw [hd]
    rw [hp, hd]
    simp only [readP]
    by_cases h64 : out.length = 64
    · rw [if_pos h64, if_pos h64]
    · rw [if_neg h64, if_neg h64, read_cut ls s hs m (i + (Utf8.decode s i).2) f g _ (by simp; omega) (by simp; omega) (by omega) (by omega) (by omega)]
theorem readP_cut (ls : List S118) (s : ByteArray) : readP ls (pieces (cut65 s)) [] = readP ls (pieces s) [] := by
  unfold cut65
  split
  · rename_i h
    unfold pieces
    have hsz : (s.extract 0 65536).size = 65536 := by simp [ByteArray.size_extract]; omega
    rw [hsz]
    exact read_cut ls s h 65 0 65536 s.size [] (by simp) (by simp) (by omega) (by omega) (by omega)
  · rfl
-- runes to bytes and back
theorem r_ext {a b : ByteArray} (h : a.data.toList = b.data.toList) : a = b := ByteArray.ext (Array.ext' h)
theorem r_foldl : ∀ (ns : List Int) (s : ByteArray), (ns.foldl (fun r n => r ++ Utf8.encode n) s).data.toList = s.data.toList ++ ns.flatMap (fun n => (Utf8.encode n).data.toList)
  | [], s => by simp
  | n :: ns, s => by
    rw [List.foldl_cons, r_foldl ns]
    simp
theorem r_data (ns : List Int) : (runesBytes ns).data.toList = ns.flatMap (fun n => (Utf8.encode n).data.toList) := by
  unfold runesBytes
  rw [r_foldl]
  rfl
theorem r_cons (r : Int) (l : List Int) : runesBytes (r :: l) = Utf8.encode r ++ runesBytes l := by
  apply r_ext
  rw [r_data, ByteArray.data_append, Array.toList_append, r_data]
  rfl
theorem get_app (a b : ByteArray) (i : Nat) (h : i < a.size) : (a ++ b).get! i = a.get! i := by
  have hs : a.size = a.data.size := rfl
  show (a ++ b).data[i]! = a.data[i]!
  rw [ByteArray.data_append, getElem!_pos _ i (by simp; omega), getElem!_pos a.data i (by omega), Array.getElem_append_left (by omega)]
def goodR (r : Int) : Prop := Utf8.valid r = true ∧ r ≠ 65533
theorem r_valid (q : Int) : Utf8.valid q = true ↔ (0 ≤ q ∧ q < 55296) ∨ (57344 ≤ q ∧ q ≤ 1114111) := by
  unfold Utf8.valid
  simp
theorem u8n (n : Nat) : (UInt8.ofNat n).toNat = n % 256 := rfl
theorem enc_dec (r : Int) (t : ByteArray) (h : Utf8.valid r = true) : Utf8.decode (Utf8.encode r ++ t) 0 = (r.toNat, (Utf8.encode r).size) ∧ 0 < (Utf8.encode r).size := by
  have hv := (r_valid r).1 h
  obtain ⟨c, rfl⟩ := Int.eq_ofNat_of_zero_le (show 0 ≤ r by omega)
  have he : Utf8.encode (c : Int) = (if c < 0x80 then (⟨#[UInt8.ofNat c]⟩ : ByteArray)
      else if c < 0x800 then ⟨#[UInt8.ofNat (0xC0 + c / 64), UInt8.ofNat (0x80 + c % 64)]⟩
      else if c < 0x10000 then ⟨#[UInt8.ofNat (0xE0 + c / 4096), UInt8.ofNat (0x80 + c / 64 % 64), UInt8.ofNat (0x80 + c % 64)]⟩
      else ⟨#[UInt8.ofNat (0xF0 + c / 262144), UInt8.ofNat (0x80 + c / 4096 % 64), UInt8.ofNat (0x80 + c / 64 % 64), UInt8.ofNat (0x80 + c % 64)]⟩) := by
    unfold Utf8.encode
    simp only [h, if_true, Int.toNat_natCast]
  rw [he, Int.toNat_natCast]
  by_cases c1 : c < 0x80
  · rw [if_pos c1]
    have hsz : (⟨#[UInt8.ofNat c]⟩ : ByteArray).size = 1 := rfl
    refine ⟨?_, by rw [hsz]; decide⟩
    rw [Lib.decode_at, get_app _ t 0 (by rw [hsz]; decide), show (⟨#[UInt8.ofNat c]⟩ : ByteArray).get! 0 = UInt8.ofNat c from rfl, u8n]
    unfold Lib.decodeN
    have e : c % 256 = c := by omega
    rw [if_pos (by omega), e]
    rfl
  rw [if_neg c1]
  by_cases c2 : c < 0x800
  · rw [if_pos c2]
    generalize hA : (⟨#[UInt8.ofNat (0xC0 + c / 64), UInt8.ofNat (0x80 + c % 64)]⟩ : ByteArray) = A
    have hsz : A.size = 2 := by rw [← hA]; rfl
    have hap : (A ++ t).size = 2 + t.size := by rw [ByteArray.size_append, hsz]
    refine ⟨?_, by rw [hsz]; decide⟩
    rw [Lib.decode_at, Nat.sub_zero, hap, Nat.zero_add, get_app A t 0 (by omega), get_app A t 1 (by omega), show A.get! 0 = UInt8.ofNat (0xC0 + c / 64) by rw [← hA]; rfl, show A.get! 1 = UInt8.ofNat (0x80 + c % 64) by rw [← hA]; rfl, u8n, u8n, hsz]
    unfold Lib.decodeN
    rw [if_neg (by omega), if_pos (by omega), if_pos (by omega)]
    exact Prod.ext (by dsimp only; omega) rfl
  rw [if_neg c2]
  by_cases c3 : c < 0x10000
  · rw [if_pos c3]
    generalize hA : (⟨#[UInt8.ofNat (0xE0 + c / 4096), UInt8.ofNat (0x80 + c / 64 % 64), UInt8.ofNat (0x80 + c % 64)]⟩ : ByteArray) = A
    have hsz : A.size = 3 := by rw [← hA]; rfl
    have hap : (A ++ t).size = 3 + t.size := by rw [ByteArray.size_append, hsz]
    refine ⟨?_, by rw [hsz]; decide⟩
    rw [Lib.decode_at, Nat.sub_zero, hap, Nat.zero_add, Nat.zero_add, get_app A t 0 (by omega), get_app A t 1 (by omega), get_app A t 2 (by omega), show A.get! 0 = UInt8.ofNat (0xE0 + c / 4096) by rw [← hA]; rfl, show A.get! 1 = UInt8.ofNat (0x80 + c / 64 % 64) by rw [← hA]; rfl, show A.get! 2 = UInt8.ofNat (0x80 + c % 64) by rw [← hA]; rfl, u8n, u8n, u8n, hsz]
    unfold Lib.decodeN
    rw [if_neg (by omega), if_neg (by omega), if_pos (by omega), if_pos (by omega)]
    exact Prod.ext (by dsimp only; omega) rfl
  · rw [if_neg c3]
    generalize hA : (⟨#[UInt8.ofNat (0xF0 + c / 262144), UInt8.ofNat (0x80 + c / 4096 % 64), UInt8.ofNat (0x80 + c / 64 % 64), UInt8.ofNat (0x80 + c % 64)]⟩ : ByteArray) = A
    have hsz : A.size = 4 := by rw [← hA]; rfl
    have hap : (A ++ t).size = 4 + t.size := by rw [ByteArray.size_append, hsz]
    refine ⟨?_, by rw [hsz]; decide⟩
    rw [Lib.decode_at, Nat.sub_zero, hap, Nat.zero_add, Nat.zero_add, Nat.zero_add, get_app A t 0 (by omega), get_app A t 1 (by omega), get_app A t 2 (by omega), get_app A t 3 (by omega), show A.get! 0 = UInt8.ofNat (0xF0 + c / 262144) by rw [← hA]; rfl, show A.get! 1 = UInt8.ofNat (0x80 + c / 4096 % 64) by rw [← hA]; rfl, show A.get! 2 = UInt8.ofNat (0x80 + c / 64 % 64) by rw [← hA]; rfl, show A.get! 3 = UInt8.ofNat (0x80 + c % 64) by rw [← hA]; rfl, u8n, u8n, u8n, u8n, hsz]
    unfold Lib.decodeN
    rw [if_neg (by omega), if_neg (by omega), if_neg (by omega), if_pos (by omega), if_pos (by omega)]
    exact Prod.ext (by dsimp only; omega) rfl
theorem app_tail (P X : ByteArray) : (P ++ X).extract P.size (P ++ X).size = X := by
  apply r_ext
  rw [Lib.extract_data, ByteArray.data_append, Array.toList_append]
  have h1 : P.data.toList.length = P.size := by rw [Array.length_toList]; rfl
  have h2 : X.data.toList.length = X.size := by rw [Array.length_toList]; rfl
  rw [← h1, List.drop_left, ByteArray.size_append, h1, show P.size + X.size - P.size = X.size by omega, ← h2, List.take_length]
/-- Runes read back. -/
theorem pcs_runes : ∀ (l : List Int) (P : ByteArray) (f : Nat), (∀ r ∈ l, goodR r) → (runesBytes l).size ≤ f → (pcs (P ++ runesBytes l) f P.size).map (fun p => (p.f0, p.f3)) = l.map (fun r => (r, false))
  | [], P, f, h, hf => by
    rw [pcs_end _ _ _ (by rw [ByteArray.size_append]; show ¬ P.size < P.size + 0; omega)]
    rfl
  | r :: l, P, f, h, hf => by
    have hg := h r (List.mem_cons_self ..)
    have hv := (r_valid r).1 hg.1
    obtain ⟨e1, e2⟩ := enc_dec r (runesBytes l) hg.1
    have hsz : (runesBytes (r :: l)).size = (Utf8.encode r).size + (runesBytes l).size := by rw [r_cons, ByteArray.size_append]
    have hd : Utf8.decode (P ++ runesBytes (r :: l)) P.size = (r.toNat, (Utf8.encode r).size) := by
      rw [← decode_tail, app_tail, r_cons, e1]
    obtain ⟨f, rfl⟩ : ∃ q, f = q + 1 := ⟨f - 1, by omega⟩
    rw [pcs, if_pos (by rw [ByteArray.size_append]; omega), List.map_cons, List.map_cons, hd]
    have ih := pcs_runes l (P ++ Utf8.encode r) f (fun x hx => h x (List.mem_cons_of_mem _ hx)) (by omega)
    have hcat : P ++ Utf8.encode r ++ runesBytes l = P ++ runesBytes (r :: l) := by rw [r_cons, ByteArray.append_assoc]
    rw [hcat, ByteArray.size_append] at ih
    rw [ih]
    congr 1
    unfold pcAt
    rw [hd]
    have hne : ¬ (r.toNat = 65533 ∧ (Utf8.encode r).size = 1) := fun q => hg.2 (by omega)
    rw [decide_eq_false hne]
    simp only [Prod.mk.injEq, and_true]
    omega
theorem pieces_runes (l : List Int) (h : ∀ r ∈ l, goodR r) : (pieces (runesBytes l)).map (fun p => (p.f0, p.f3)) = l.map (fun r => (r, false)) := by
  have := pcs_runes l ByteArray.empty (runesBytes l).size h (Nat.le_refl _)
  have e : ByteArray.empty ++ runesBytes l = runesBytes l := by apply r_ext; rw [ByteArray.data_append]; simp
  rw [e] at this
  exact this
/-- What is read of pieces hangs on their runes and marks alone. -/
theorem readP_list (ls : List S118) : ∀ (ps : List S97) (l out : List Int), ps.map (fun p => (p.f0, p.f3)) = l.map (fun r => (r, false)) → (∀ r ∈ l, (rankOf ls r).isSome = true) → out.length + l.length ≤ 64 → readP ls ps out = (out ++ l, 0)
  | [], l, out, h, h2, h3 => by
    cases l with
    | nil => simp [readP]
    | cons => simp at h
  | p :: ps, l, out, h, h2, h3 => by
    cases l with
    | nil => simp at h
    | cons r l =>
      simp only [List.map_cons, List.cons.injEq, Prod.mk.injEq] at h
      obtain ⟨⟨a, b⟩, c⟩ := h
      have hr := h2 r (List.mem_cons_self ..)
      simp only [List.length_cons] at h3
      rw [readP, if_neg (by rw [b]; simp), a, if_neg (by rw [hr]; simp), if_neg (by omega), readP_list ls ps l _ c (fun x hx => h2 x (List.mem_cons_of_mem _ hx)) (by simp; omega)]
      simp
theorem readP_inv (ls : List S118) : ∀ (ps : List S97) (out l : List Int), readP ls ps out = (l, 0) → ∃ m, l = out ++ m ∧ ps.map (fun p => (p.f0, p.f3)) = m.map (fun r => (r, false)) ∧ ∀ r ∈ m, (rankOf ls r).isSome = true
  | [], out, l, h => by
    simp only [readP, Prod.mk.injEq] at h
    exact ⟨[], by simp [h.1], rfl, by simp⟩
  | p :: ps, out, l, h => by
    unfold readP at h
    split at h
    · simp at h
    · split at h
      · simp at h
      · split at h
        · simp at h
        · rename_i h1 h2 h3
          obtain ⟨m, e1, e2, e3⟩ := readP_inv ls ps _ l h
          refine ⟨p.f0 :: m, by rw [e1]; simp, ?_, fun r hr => ?_⟩
          · simp only [List.map_cons, e2, List.cons.injEq, Prod.mk.injEq, true_and, and_true]
            simpa using h1
          · rcases List.mem_cons.1 hr with rfl | hr
            · cases hh : (rankOf ls p.f0).isSome with
              | true => rfl
              | false => exact absurd hh h2
            · exact e3 r hr
-- bytes to runes and back
theorem extract_list (s : ByteArray) (i : Nat) : ∀ n, i + n ≤ s.size → (s.extract i (i + n)).data.toList = (List.range n).map (fun k => s.get! (i + k)) := fun n hn => by
  have hs : s.size = s.data.size := rfl
  rw [Lib.extract_data, show i + n - i = n by omega]
  apply List.ext_getElem
  · simp; omega
  · intro k h1 h2
    simp only [List.length_map, List.length_range] at h2
    simp only [List.getElem_take, List.getElem_drop, List.getElem_map, List.getElem_range]
    show _ = s.data[i + k]!
    rw [getElem!_pos s.data (i + k) (by omega)]
    simp
theorem ofNat_toNat (b : UInt8) (n : Nat) (h : n = b.toNat) : UInt8.ofNat n = b := by
  subst h
  apply UInt8.toNat_inj.1
  rw [u8n]
  have := b.toNat_lt
  omega
theorem dec_cases (n b0 b1 b2 b3 : Nat) (h : ¬ ((Lib.decodeN n b0 b1 b2 b3).1 = 65533 ∧ (Lib.decodeN n b0 b1 b2 b3).2 = 1)) :
    (Lib.decodeN n b0 b1 b2 b3 = (b0, 1) ∧ b0 < 128) ∨ (Lib.decodeN n b0 b1 b2 b3 = (b0 % 32 * 64 + b1 % 64, 2) ∧ b0 / 32 = 6 ∧ b1 / 64 = 2 ∧ b0 % 32 * 64 + b1 % 64 ≥ 128) ∨
    (Lib.decodeN n b0 b1 b2 b3 = (b0 % 16 * 4096 + b1 % 64 * 64 + b2 % 64, 3) ∧ b0 / 16 = 14 ∧ b1 / 64 = 2 ∧ b2 / 64 = 2 ∧ b0 % 16 * 4096 + b1 % 64 * 64 + b2 % 64 ≥ 2048) ∨
    (Lib.decodeN n b0 b1 b2 b3 = (b0 % 8 * 262144 + b1 % 64 * 4096 + b2 % 64 * 64 + b3 % 64, 4) ∧ b0 / 8 = 30 ∧ b1 / 64 = 2 ∧ b2 / 64 = 2 ∧ b3 / 64 = 2 ∧ b0 % 8 * 262144 + b1 % 64 * 4096 + b2 % 64 * 64 + b3 % 64 ≥ 65536) := by
  unfold Lib.decodeN at h ⊢
  by_cases p0 : b0 < 128
  · rw [if_pos p0]; exact .inl ⟨rfl, p0⟩
  rw [if_neg p0] at h ⊢
  by_cases p1 : b0 / 32 = 6 ∧ (1 < n ∧ b1 / 64 = 2)
  · rw [if_pos p1] at h ⊢
    by_cases q : b0 % 32 * 64 + b1 % 64 ≥ 128
    · rw [if_pos q]; exact .inr (.inl ⟨rfl, p1.1, p1.2.2, q⟩)
    · rw [if_neg q] at h; exact absurd ⟨rfl, rfl⟩ h
  rw [if_neg p1] at h ⊢
  by_cases p2 : b0 / 16 = 14 ∧ (1 < n ∧ b1 / 64 = 2) ∧ (2 < n ∧ b2 / 64 = 2)
  · rw [if_pos p2] at h ⊢
    split at h
    · rename_i q
      rw [if_pos q]; exact .inr (.inr (.inl ⟨rfl, p2.1, p2.2.1.2, p2.2.2.2, q.1⟩))
    · exact absurd ⟨rfl, rfl⟩ h
  rw [if_neg p2] at h ⊢
  by_cases p3 : b0 / 8 = 30 ∧ (1 < n ∧ b1 / 64 = 2) ∧ (2 < n ∧ b2 / 64 = 2) ∧ (3 < n ∧ b3 / 64 = 2)
  · rw [if_pos p3] at h ⊢
    split at h
    · rename_i q
      rw [if_pos q]; exact .inr (.inr (.inr ⟨rfl, p3.1, p3.2.1.2, p3.2.2.1.2, p3.2.2.2.2, q.1⟩))
    · exact absurd ⟨rfl, rfl⟩ h
  · rw [if_neg p3] at h; exact absurd ⟨rfl, rfl⟩ h
theorem dec_enc (s : ByteArray) (i : Nat) (hi : i < s.size) (h : ¬ ((Utf8.decode s i).1 = 65533 ∧ (Utf8.decode s i).2 = 1)) : s.extract i (i + (Utf8.decode s i).2) = Utf8.encode ((Utf8.decode s i).1 : Int) := by
  have hv := ((decode_valid s i).resolve_left h).2
  have hle := (decode_le65 s i hi)
  have hE : ∀ c : Nat, Utf8.valid (c : Int) = true → (Utf8.encode (c : Int)).data.toList = (if c < 0x80 then ([UInt8.ofNat c] : List UInt8)
      else if c < 0x800 then [UInt8.ofNat (0xC0 + c / 64), UInt8.ofNat (0x80 + c % 64)]
      else if c < 0x10000 then [UInt8.ofNat (0xE0 + c / 4096), UInt8.ofNat (0x80 + c / 64 % 64), UInt8.ofNat (0x80 + c % 64)]
      else [UInt8.ofNat (0xF0 + c / 262144), UInt8.ofNat (0x80 + c / 4096 % 64), UInt8.ofNat (0x80 + c / 64 % 64), UInt8.ofNat (0x80 + c % 64)]) := fun c hc => by
    unfold Utf8.encode
    simp only [hc, if_true, Int.toNat_natCast]
    by_cases c1 : c < 0x80
    · rw [if_pos c1, if_pos c1]
    · rw [if_neg c1, if_neg c1]
      by_cases c2 : c < 0x800
      · rw [if_pos c2, if_pos c2]
      · rw [if_neg c2, if_neg c2]
        by_cases c3 : c < 0x10000
        · rw [if_pos c3, if_pos c3]
        · rw [if_neg c3, if_neg c3]
  have hd := Lib.decode_at s i
  have l1 : (s.get! (i + 1)).toNat ≤ 255 := Nat.le_of_lt_succ (s.get! (i + 1)).toNat_lt
  have l2 : (s.get! (i + 2)).toNat ≤ 255 := Nat.le_of_lt_succ (s.get! (i + 2)).toNat_lt
  have l3 : (s.get! (i + 3)).toNat ≤ 255 := Nat.le_of_lt_succ (s.get! (i + 3)).toNat_lt
  have q0 := ofNat_toNat (s.get! i)
  have q1 := ofNat_toNat (s.get! (i + 1))
  have q2 := ofNat_toNat (s.get! (i + 2))
  have q3 := ofNat_toNat (s.get! (i + 3))
  have hx := extract_list s i (Utf8.decode s i).2 hle.2
  apply r_ext
  rw [hx, hE _ hv]
  clear hE hx
  rw [hd] at h hv hle ⊢
  rcases dec_cases _ _ _ _ _ h with ⟨e, c1⟩ | ⟨e, c1, c2, c3⟩ | ⟨e, c1, c2, c3, c4⟩ | ⟨e, c1, c2, c3, c4, c5⟩
  · rw [e]
    dsimp only
    rw [if_pos (by omega), q0 _ rfl]
    rfl
  · rw [e] at hle ⊢
    dsimp only at hle ⊢
    rw [if_neg (by omega), if_pos (by omega), q0 _ (by omega), q1 _ (by omega)]
    rfl
  · rw [e] at hle ⊢
    dsimp only at hle ⊢
    rw [if_neg (by omega), if_neg (by omega), if_pos (by omega), q0 _ (by omega), q1 _ (by omega), q2 _ (by omega)]
    rfl
  · rw [e] at hle ⊢
    dsimp only at hle ⊢
    rw [if_neg (by omega), if_neg (by omega), if_neg (by omega), q0 _ (by omega), q1 _ (by omega), q2 _ (by omega), q3 _ (by omega)]
    rfl
theorem ext_cat (s : ByteArray) (i j : Nat) (h1 : i ≤ j) (h2 : j ≤ s.size) : s.extract i j ++ s.extract j s.size = s.extract i s.size := by
  apply r_ext
  rw [ByteArray.data_append, Array.toList_append, Lib.extract_data, Lib.extract_data, Lib.extract_data]
  have e : s.data.toList.drop j = (s.data.toList.drop i).drop (j - i) := by rw [List.drop_drop]; congr 1; omega
  have hl : s.data.toList.length = s.size := by rw [Array.length_toList]; rfl
  rw [e, List.take_of_length_le (l := ((s.data.toList.drop i).drop (j - i))) (by simp; omega), List.take_append_drop, List.take_of_length_le (by simp)]
theorem pcs_back (s : ByteArray) : ∀ f i, i ≤ s.size → s.size ≤ i + f → (∀ p ∈ pcs s f i, p.f3 = false) → runesBytes ((pcs s f i).map (·.f0)) = s.extract i s.size
  | 0, i, h0, h1, _ => by
    apply r_ext
    rw [Lib.extract_data, List.drop_of_length_le (by rw [Array.length_toList]; show s.size ≤ i; omega), List.take_nil]
    rfl
  | f + 1, i, h0, h1, h2 => by
    by_cases hi : i < s.size
    · have hw := Lib.decode_width_pos s i hi
      have hle := (decode_le65 s i hi).2
      have e : pcs s (f + 1) i = pcAt s i :: pcs s f (i + (Utf8.decode s i).2) := by rw [pcs, if_pos hi]
      rw [e] at h2 ⊢
      have hb : ¬ ((Utf8.decode s i).1 = 65533 ∧ (Utf8.decode s i).2 = 1) := by
        have := h2 _ (List.mem_cons_self ..)
        simpa [pcAt] using this
      rw [List.map_cons, r_cons, pcs_back s f _ hle (by omega) (fun p hp => h2 p (List.mem_cons_of_mem _ hp)), ← ext_cat s i (i + (Utf8.decode s i).2) (by omega) hle, dec_enc s i hi hb]
      rfl
    · rw [pcs_end s _ _ hi]
      apply r_ext
      rw [Lib.extract_data, List.drop_of_length_le (by rw [Array.length_toList]; show s.size ≤ i; omega), List.take_nil]
      rfl
theorem pieces_back (s : ByteArray) (h : ∀ p ∈ pieces s, p.f3 = false) : runesBytes ((pieces s).map (·.f0)) = s := by
  have := pcs_back s s.size 0 (Nat.zero_le _) (by omega) h
  rw [show (pieces s) = pcs s s.size 0 from rfl, this]
  apply r_ext
  rw [Lib.extract_data, List.drop_zero, Nat.sub_zero, List.take_of_length_le (by rw [Array.length_toList]; exact Nat.le_refl _)]
-- letters of an alphabet that may be
theorem good_of {fs : List ByteArray} {ls : List S118} (hal : alphaB fs ls = true) {r : Int} (h : (rankOf ls r).isSome = true) : goodR r := by
  unfold rankOf at h
  rw [List.findIdx?_isSome, List.any_eq_true] at h
  obtain ⟨x, hx, e⟩ := h
  have hl := lets_lettered (alpha_parts hal).2 x hx
  rw [of_decide_eq_true e] at hl
  unfold letteredB at hl
  simp only [Bool.or_eq_true, Bool.and_eq_true, decide_eq_true_eq] at hl
  exact ⟨(r_valid r).2 (by omega), by omega⟩
theorem letters_of {fs : List ByteArray} {ls : List S118} (hal : alphaB fs ls = true) {l : List Int} (h : ∀ r ∈ l, (rankOf ls r).isSome = true) (hl : l.length ≤ 64) : lettersB fs ls (runesBytes l) = (l, 0) := by
  unfold lettersB
  rw [hal, if_pos rfl, readP_cut, readP_list ls _ l [] (pieces_runes l (fun r hr => good_of hal (h r hr))) h (by simpa using hl)]
  rfl
theorem letters_yes {fs : List ByteArray} {ls : List S118} {s : ByteArray} {l : List Int} (h : lettersB fs ls s = (l, 0)) : alphaB fs ls = true ∧ (∀ r ∈ l, (rankOf ls r).isSome = true) ∧ l.length ≤ 64 ∧ runesBytes l = s := by
  have hal : alphaB fs ls = true := letters_alpha (x := s) (by rw [h])
  have hlen := lettersB_len fs ls s
  rw [h] at hlen
  unfold lettersB at h
  rw [hal, if_pos rfl, readP_cut] at h
  obtain ⟨m, e1, e2, e3⟩ := readP_inv ls _ [] l h
  rw [List.nil_append] at e1
  subst e1
  refine ⟨hal, e3, hlen, ?_⟩
  have f0 : (pieces s).map (·.f0) = l := by
    have := congrArg (List.map Prod.fst) e2
    simpa [List.map_map, Function.comp_def] using this
  have f3 : ∀ p ∈ pieces s, p.f3 = false := fun p hp => by
    have : (p.f0, p.f3) ∈ l.map (fun r => (r, false)) := by rw [← e2]; exact List.mem_map.2 ⟨p, hp, rfl⟩
    obtain ⟨r, _, hr⟩ := List.mem_map.1 this
    exact (Prod.mk.inj hr).2.symm
  rw [← f0]
  exact pieces_back s f3
/-- Turned over. -/
def turnedB (fs : List ByteArray) (ls : List S118) (s : ByteArray) : ByteArray × Int := if (lettersB fs ls s).2 = 0 then (runesBytes (lettersB fs ls s).1.reverse, 0) else (⟨#[]⟩, (lettersB fs ls s).2)
theorem reverse_l0 (l : List Int) (hl : l.length ≤ 1000000) : ∀ d i x, i + i + d = l.length → x.length = l.length → (∀ j, j < i → x[j]? = l[l.length - 1 - j]? ∧ x[l.length - 1 - j]? = l[j]?) → (∀ j, i ≤ j → j < l.length - i → x[j]? = l[j]?) → ∀ k, d < k →
    slices_Reverse_rune_rune.l0 k x (i : Int) ((l.length : Int) - 1 - i) = some l.reverse
  | d, i, x, h0, h1, h2, h3, k + 1, hk => by
    unfold slices_Reverse_rune_rune.l0
    by_cases hlt : (i : Int) < (l.length : Int) - 1 - i
    · obtain ⟨d, rfl⟩ : ∃ q, d = q + 2 := ⟨d - 2, by omega⟩
      have ei : ((l.length : Int) - 1 - i).toNat = l.length - 1 - i := by omega
      rw [if_pos hlt, if_pos (by omega), if_pos (by omega), if_pos (by omega), if_pos (by omega), w64 (by omega) (by omega), w64 (by omega) (by omega), show ((i : Int) + 1) = ((i + 1 : Nat) : Int) by omega,
        show ((l.length : Int) - 1 - i - 1) = ((l.length : Int) - 1 - ((i + 1 : Nat) : Int)) by omega, ei, Int.toNat_natCast]
      have ra : rd x ((l.length : Int) - 1 - i) = (l[l.length - 1 - i]'(by omega)) := by
        unfold rd
        rw [ei, List.getD_eq_getElem?_getD, h3 _ (by omega) (by omega), List.getElem?_eq_getElem (by omega)]; rfl
      have rb : rd x (i : Int) = (l[i]'(by omega)) := by
        unfold rd
        rw [Int.toNat_natCast, List.getD_eq_getElem?_getD, h3 _ (by omega) (by omega), List.getElem?_eq_getElem (by omega)]; rfl
      rw [ra, rb]
      refine reverse_l0 l hl d (i + 1) _ (by omega) (by simp [h1]) (fun j hj => ?_) (fun j hj hj2 => ?_) k (by omega)
      · by_cases e : j = i
        · subst e
          constructor
          · rw [List.getElem?_set_ne (by omega), List.getElem?_set_self (by omega), List.getElem?_eq_getElem (by omega)]
          · rw [List.getElem?_set_self (by simp; omega), List.getElem?_eq_getElem (by omega)]
        · rw [List.getElem?_set_ne (by omega), List.getElem?_set_ne (by omega), List.getElem?_set_ne (by omega), List.getElem?_set_ne (by omega)]
          exact h2 j (by omega)
      · rw [List.getElem?_set_ne (by omega), List.getElem?_set_ne (by omega)]
        exact h3 j (by omega) (by omega)
    · rw [if_neg hlt]
      congr 1
      apply List.ext_getElem?
      intro j
      by_cases hj : j < l.length
      · rw [List.getElem?_reverse hj]
        by_cases h4 : j < i
        · exact (h2 j h4).1
        · by_cases h5 : j < l.length - i
          · rw [h3 j (by omega) h5]
            congr 1
            omega
          · have := (h2 (l.length - 1 - j) (by omega)).2
            rw [show l.length - 1 - (l.length - 1 - j) = j by omega] at this
            exact this
      · rw [List.getElem?_eq_none (by omega), List.getElem?_eq_none (by simp; omega)]
theorem reverse_eq (l : List Int) (hl : l.length ≤ 1000000) (k : Nat) (hk : l.length < k) : slices_Reverse_rune_rune.f k l = some l.reverse := by
  unfold slices_Reverse_rune_rune.f
  rw [w64 (by omega) (by omega)]
  have := reverse_l0 l hl l.length 0 l (by omega) rfl (fun j hj => by omega) (fun j _ _ => rfl) k hk
  simpa using this
theorem turned_eq (fs : List ByteArray) (ls : List S118) (s : ByteArray) (hf : fitsS fs = true) (k : Nat) (hk : 100 ≤ k) : word_Turned.f k fs ls s = some (turnedB fs ls s) := by
  unfold word_Turned.f turnedB word_Letters.f
  rw [if_pos hf]
  have hl := lettersB_len fs ls s
  simp only [Option.bind_some]
  generalize lettersB fs ls s = le at hl ⊢
  obtain ⟨l, e⟩ := le
  simp only at hl ⊢
  by_cases he : e = 0
  · subst he
    rw [if_pos rfl, if_pos rfl, reverse_eq l (by omega) k (by omega)]
    rfl
  · rw [if_neg he, if_neg he]
theorem awake_eq (k : Nat) (hk : 100 ≤ k) : cognatelaw03_awake.f k = some true := by
  unfold cognatelaw03_awake.f cognatelaw03_abc.f
  simp only [Option.bind_some]
  rw [turned_eq _ _ _ (by decide +kernel) k hk]
  simp only [Option.bind_some]
  decide +kernel
-- words stand in one row
theorem cmp_flip (ls : List S118) : ∀ x y, cmpL (cmpR ls) y x = - cmpL (cmpR ls) x y
  | [], [] => rfl
  | [], y :: ys => rfl
  | x :: xs, [] => rfl
  | x :: xs, y :: ys => by
    have h1 : ∀ (a : Int) (l1 : List Int) (b : Int) (l2 : List Int), cmpL (cmpR ls) (a :: l1) (b :: l2) = if cmpR ls a b ≠ 0 then cmpR ls a b else cmpL (cmpR ls) l1 l2 := fun _ _ _ _ => rfl
    have h2 : cmpR ls y x = - cmpR ls x y := by
      unfold cmpR
      repeat' split
      all_goals omega
    rw [h1, h1, h2]
    by_cases h : cmpR ls x y = 0
    · rw [if_neg (by omega), if_neg (by omega)]; exact cmp_flip ls xs ys
    · rw [if_pos (by omega), if_pos h]
theorem cmp_range (ls : List S118) : ∀ x y, -1 ≤ cmpL (cmpR ls) x y ∧ cmpL (cmpR ls) x y ≤ 1
  | [], [] => by show -1 ≤ (0 : Int) ∧ (0 : Int) ≤ 1; omega
  | [], y :: ys => by show -1 ≤ (-1 : Int) ∧ (-1 : Int) ≤ 1; omega
  | x :: xs, [] => by show -1 ≤ (1 : Int) ∧ (1 : Int) ≤ 1; omega
  | x :: xs, y :: ys => by
    have h1 : cmpL (cmpR ls) (x :: xs) (y :: ys) = if cmpR ls x y ≠ 0 then cmpR ls x y else cmpL (cmpR ls) xs ys := rfl
    rw [h1]
    split
    · unfold cmpR
      repeat' split
      all_goals omega
    · exact cmp_range ls xs ys
theorem cmp_zero {ls : List S118} {x y : List Int} (hx : rankedW ls x) (hy : rankedW ls y) : cmpL (cmpR ls) x y = 0 ↔ x = y := by
  rw [(cmpL_tri ls x y).2]
  exact ⟨rkL_inj ls x y hx hy, fun h => by rw [h]⟩
theorem cmp_trans (ls : List S118) {x y z : List Int} (h1 : cmpL (cmpR ls) x y ≤ 0) (h2 : cmpL (cmpR ls) y z ≤ 0) : cmpL (cmpR ls) x z ≤ 0 ∧ (cmpL (cmpR ls) x z = 0 → cmpL (cmpR ls) x y = 0 ∧ cmpL (cmpR ls) y z = 0) := by
  have le : ∀ a b, cmpL (cmpR ls) a b ≤ 0 ↔ rkL ls a ≤ rkL ls b := fun a b => by
    rw [← List.not_lt, ← cmpL_lt, cmp_flip ls a b]; omega
  have l1 := (le x y).1 h1
  have l2 := (le y z).1 h2
  refine ⟨(le x z).2 (List.le_trans l1 l2), fun h => ?_⟩
  have e := (cmpL_tri ls x z).2.1 h
  have l3 : rkL ls y ≤ rkL ls x := by rw [e]; exact l2
  have e1 := List.le_antisymm l1 l3
  exact ⟨(cmpL_tri ls x y).2.2 e1, (cmpL_tri ls y z).2.2 (by rw [← e1, e])⟩
theorem cmpB_no {fs : List ByteArray} {ls : List S118} {x y : ByteArray} (h : ¬ ((lettersB fs ls x).2 = 0 ∧ (lettersB fs ls y).2 = 0)) : (cmpB fs ls x y).1 = 0 ∧ (cmpB fs ls x y).2 ≠ 0 := by
  have hb : (bothB fs ls x y).2.2 ≠ 0 := by
    unfold bothB
    by_cases h1 : (lettersB fs ls x).2 = 0
    · have h2 : (lettersB fs ls y).2 ≠ 0 := fun q => h ⟨h1, q⟩
      rw [if_neg (by simpa using h1), if_pos h2]
      exact h2
    · rw [if_pos h1]
      exact h1
  unfold cmpB
  rw [if_pos hb]
  exact ⟨rfl, hb⟩
theorem cmpB_yes {fs : List ByteArray} {ls : List S118} {x y : ByteArray} {lx ly : List Int} (hx : lettersB fs ls x = (lx, 0)) (hy : lettersB fs ls y = (ly, 0)) : cmpB fs ls x y = (cmpL (cmpR ls) lx ly, 0) := by
  unfold cmpB bothB
  rw [hx, hy]
  rfl
theorem among_l0 (l : List ByteArray) (w : ByteArray) (hl : l.length ≤ 4096) : ∀ d i, i + d = l.length → (∃ j, i ≤ j ∧ l[j]? = some w) → ∀ k, d + 1 ≤ k → cognatelaw03_among.l0 k l w (i : Int) = some true
  | 0, i, h, ⟨j, hj, he⟩, k, _ => by
    rw [List.getElem?_eq_none (by omega)] at he; cases he
  | d + 1, i, h, ⟨j, hj, he⟩, k + 1, hk => by
    have ew : wrap64 ((i : Int) + 1) = ((i + 1 : Nat) : Int) := by rw [w64 (by omega) (by omega)]; omega
    have hi : i < l.length := by omega
    have er : rdOf ByteArray.empty l (i : Int) = l[i] := by simp [rdOf, List.getD_eq_getElem?_getD, List.getElem?_eq_getElem hi]
    rw [cognatelaw03_among.l0, if_pos (by omega), if_pos (by omega), er, ew]
    by_cases q : l[i].toList = w.toList
    · rw [if_pos q]
    · rw [if_neg q]
      refine among_l0 l w hl d (i + 1) (by omega) ⟨j, ?_, he⟩ k (by omega)
      rcases Nat.lt_or_ge i j with h1 | h1
      · exact h1
      · have e : i = j := by omega
        subst e
        rw [List.getElem?_eq_getElem hi] at he
        exact absurd (by rw [Option.some.inj he]) q
theorem among_eq (l : List ByteArray) (w : ByteArray) (hl : l.length ≤ 4096) (hm : w ∈ l) (k : Nat) (hk : l.length + 1 ≤ k) : cognatelaw03_among.f k l w = some true := by
  obtain ⟨j, hj⟩ := List.getElem?_of_mem hm
  exact among_l0 l w hl l.length 0 (by omega) ⟨j, by omega, hj⟩ k hk
-- the row that Sort gives
theorem readP_lettersB {fs : List ByteArray} {ls : List S118} (hal : alphaB fs ls = true) (s : ByteArray) : readP ls (pieces (cut65 s)) [] = lettersB fs ls s := by
  unfold lettersB
  rw [hal, if_pos rfl]
theorem allB_yes {fs : List ByteArray} {ls : List S118} {l : List ByteArray} (h : allB fs ls l = 0) : alphaB fs ls = true ∧ l.length ≤ 4096 ∧ ∀ s ∈ l, lettersB fs ls s = (lettersOf ls s, 0) := by
  unfold allB at h
  split at h
  · exact absurd h (by decide)
  · rename_i hal
    have hal : alphaB fs ls = true := by simpa using hal
    split at h
    · exact absurd h (by decide)
    · rename_i hlen
      refine ⟨hal, by omega, ?_⟩
      clear hlen
      induction l with
      | nil => simp
      | cons s l ih =>
        have hc : allE ls (s :: l) = if (readP ls (pieces (cut65 s)) []).2 ≠ 0 then (readP ls (pieces (cut65 s)) []).2 else allE ls l := rfl
        rw [hc] at h
        by_cases q : (readP ls (pieces (cut65 s)) []).2 = 0
        · rw [if_neg (by simpa using q)] at h
          intro t ht
          rcases List.mem_cons.1 ht with e | ht
          · rw [e, ← readP_lettersB hal s]; exact Prod.ext rfl q
          · exact ih h t ht
        · rw [if_pos q] at h; exact absurd h q
theorem allB_no {fs : List ByteArray} {ls : List S118} {l : List ByteArray} (hal : alphaB fs ls = true) (hl : l.length ≤ 4096) (h : ∀ s ∈ l, (lettersB fs ls s).2 = 0) : allB fs ls l = 0 := by
  unfold allB
  rw [if_neg (by rw [hal]; decide), if_neg (by omega)]
  clear hl
  induction l with
  | nil => rfl
  | cons s l ih =>
    have hc : allE ls (s :: l) = if (readP ls (pieces (cut65 s)) []).2 ≠ 0 then (readP ls (pieces (cut65 s)) []).2 else allE ls l := rfl
    have q : (readP ls (pieces (cut65 s)) []).2 = 0 := by rw [readP_lettersB hal s]; exact h s (List.mem_cons_self ..)
    rw [hc, if_neg (by simpa using q)]
    exact ih (fun t ht => h t (List.mem_cons_of_mem _ ht))
/-- The row of a list of words that may be. -/
structure RowOf (fs : List ByteArray) (ls : List S118) (l : List ByteArray) (us : List (List Int)) : Prop where
  sorted : us.Pairwise (ltW ls)
  letters : ∀ u ∈ us, lettersB fs ls (runesBytes u) = (u, 0)
  there : ∀ u ∈ us, runesBytes u ∈ l
  all : ∀ s ∈ l, ∃ u ∈ us, runesBytes u = s
theorem row_of {fs : List ByteArray} {ls : List S118} {l : List ByteArray} (h : allB fs ls l = 0) : RowOf fs ls l ((l.map (lettersOf ls)).foldr (insU ls) []) := by
  obtain ⟨hal, _, hl⟩ := allB_yes h
  have hr : ∀ x ∈ l.map (lettersOf ls), rankedW ls x := fun x hx => by
    obtain ⟨s, hs, rfl⟩ := List.mem_map.1 hx
    exact (letters_yes (hl s hs)).2.1
  obtain ⟨u1, u2⟩ := sortU_ok ls _ hr
  refine ⟨u1, fun u hu => ?_, fun u hu => ?_, fun s hs => ⟨lettersOf ls s, (u2 _).2 (List.mem_map_of_mem hs), (letters_yes (hl s hs)).2.2.2⟩⟩
  · obtain ⟨s, hs, rfl⟩ := List.mem_map.1 ((u2 u).1 hu)
    obtain ⟨_, a, b, _⟩ := letters_yes (hl s hs)
    exact letters_of hal a b
  · obtain ⟨s, hs, rfl⟩ := List.mem_map.1 ((u2 u).1 hu)
    rw [(letters_yes (hl s hs)).2.2.2]; exact hs
theorem insU_length (ls : List S118) (x : List Int) : ∀ l, (insU ls x l).length ≤ l.length + 1
  | [] => by simp [insU]
  | y :: ys => by
    rw [insU_cons]
    split
    · simp
    · split
      · simp
      · have := insU_length ls x ys
        simp only [List.length_cons]; omega
theorem sortU_length (ls : List S118) : ∀ ws : List (List Int), (ws.foldr (insU ls) []).length ≤ ws.length
  | [] => by simp
  | w :: ws => by
    have h1 := sortU_length ls ws
    have h2 := insU_length ls w (ws.foldr (insU ls) [])
    rw [List.foldr_cons, List.length_cons]; omega
theorem sort_again {fs : List ByteArray} {ls : List S118} {l : List ByteArray} {us : List (List Int)} (hal : alphaB fs ls = true) (h : RowOf fs ls l us) (hl : us.length ≤ 4096) : sortB fs ls (us.map runesBytes) = (us.map runesBytes, 0) := by
  have h0 : allB fs ls (us.map runesBytes) = 0 := allB_no hal (by simpa using hl) (fun s hs => by
    obtain ⟨u, hu, rfl⟩ := List.mem_map.1 hs
    rw [h.letters u hu])
  have he : (us.map runesBytes).map (lettersOf ls) = us := by
    rw [List.map_map]
    have : us.map (lettersOf ls ∘ runesBytes) = us.map id := List.map_congr_left (fun u hu => by
      show (readP ls (pieces (cut65 (runesBytes u))) []).1 = u
      rw [readP_lettersB hal, h.letters u hu])
    rw [this, List.map_id]
  have hr : ∀ x ∈ us, rankedW ls x := fun x hx => (letters_yes (h.letters x hx)).2.1
  obtain ⟨u1, u2⟩ := sortU_ok ls us hr
  unfold sortB
  rw [h0, if_neg (by simp), he, strict_unique ls _ us u1 h.sorted u2]
theorem order_l2 (m : List ByteArray) (hm : m.length ≤ 4096) : ∀ d i, i + d = m.length → ∀ k, d + 1 ≤ k → cognatelaw03_WordOrder.l2 k m m (i : Int) = some true
  | 0, i, h, k + 1, hk => by rw [cognatelaw03_WordOrder.l2, if_neg (by omega)]
  | d + 1, i, h, k + 1, hk => by
    have ew : wrap64 ((i : Int) + 1) = ((i + 1 : Nat) : Int) := by rw [w64 (by omega) (by omega)]; omega
    rw [cognatelaw03_WordOrder.l2, if_pos (by omega), if_pos (by omega), if_pos (by omega), if_pos rfl, ew]
    exact order_l2 m hm d (i + 1) (by omega) k (by omega)
theorem order_l1 {fs : List ByteArray} {ls : List S118} {l : List ByteArray} {us : List (List Int)} (hf : fitsS fs = true) (hal : alphaB fs ls = true) (h : RowOf fs ls l us) (hl : l.length ≤ 4096) (hu : us.length ≤ 4096) : ∀ d i, i + d = l.length → ∀ k, d + 5000 ≤ k →
    cognatelaw03_WordOrder.l1 k l (us.map runesBytes) (i : Int) fs ls = some true
  | 0, i, e, k, hk => by
    obtain ⟨k, rfl⟩ : ∃ q, k = q + 1 := ⟨k - 1, by omega⟩
    have e2 := sort_again hal h hu
    rw [cognatelaw03_WordOrder.l1, if_neg (by omega)]
    unfold word_Sort.f
    rw [if_pos hf, e2, Option.bind_some]
    dsimp only
    rw [if_pos rfl, if_pos rfl]
    exact order_l2 _ (by simpa using hu) (us.map runesBytes).length 0 (by omega) k (by simp; omega)
  | d + 1, i, e, k, hk => by
    obtain ⟨k, rfl⟩ : ∃ q, k = q + 1 := ⟨k - 1, by omega⟩
    have ew : wrap64 ((i : Int) + 1) = ((i + 1 : Nat) : Int) := by rw [w64 (by omega) (by omega)]; omega
    have hi : i < l.length := by omega
    have er : rdOf ByteArray.empty l (i : Int) = l[i] := by simp [rdOf, List.getD_eq_getElem?_getD, List.getElem?_eq_getElem hi]
    obtain ⟨u, hu1, hu2⟩ := h.all l[i] (List.getElem_mem hi)
    rw [cognatelaw03_WordOrder.l1, if_pos (by omega), if_pos (by omega), er, among_eq _ _ (by simpa using hu) (by rw [← hu2]; exact List.mem_map_of_mem hu1) k (by simp; omega), Option.bind_some, if_pos rfl, ew]
    exact order_l1 hf hal h hl hu d (i + 1) (by omega) k (by omega)
theorem order_l0 {fs : List ByteArray} {ls : List S118} {l : List ByteArray} {us : List (List Int)} (hf : fitsS fs = true) (hal : alphaB fs ls = true) (h : RowOf fs ls l us) (hl : l.length ≤ 4096) (hu : us.length ≤ 4096) : ∀ d i, i + d = us.length → ∀ k, d + 10000 ≤ k →
    cognatelaw03_WordOrder.l0 k l (us.map runesBytes) (i : Int) fs ls = some true
  | 0, i, e, k, hk => by
    obtain ⟨k, rfl⟩ : ∃ q, k = q + 1 := ⟨k - 1, by omega⟩
    rw [cognatelaw03_WordOrder.l0, if_neg (by simp; omega)]
    exact order_l1 hf hal h hl hu l.length 0 (by omega) k (by omega)
  | d + 1, i, e, k, hk => by
    obtain ⟨k, rfl⟩ : ∃ q, k = q + 1 := ⟨k - 1, by omega⟩
    have ew : wrap64 ((i : Int) + 1) = ((i + 1 : Nat) : Int) := by rw [w64 (by omega) (by omega)]; omega
    have hi : i < us.length := by omega
    have rdm : ∀ j (hj : j < us.length), rdOf ByteArray.empty (us.map runesBytes) (j : Int) = runesBytes us[j] := fun j hj => by simp [rdOf, List.getD_eq_getElem?_getD, List.getElem?_eq_getElem hj]
    have ham := among_eq l (runesBytes us[i]) hl (h.there _ (List.getElem_mem hi)) k (by omega)
    have ih := order_l0 hf hal h hl hu d (i + 1) (by omega) k (by omega)
    rw [cognatelaw03_WordOrder.l0, if_pos (by simp; omega)]
    by_cases h0 : i = 0
    · subst h0
      rw [if_neg (by omega), if_pos (by omega), rdm 0 hi, ham, Option.bind_some, if_pos rfl, ew]
      exact ih
    · obtain ⟨j, rfl⟩ : ∃ j, i = j + 1 := ⟨i - 1, by omega⟩
      have ew2 : wrap64 (((j + 1 : Nat) : Int) - 1) = (j : Int) := by rw [w64 (by omega) (by omega)]; omega
      have hlt : ltW ls us[j] us[j + 1] := List.pairwise_iff_getElem.1 h.sorted j (j + 1) (by omega) hi (by omega)
      have hcmp : cmpB fs ls (runesBytes us[j]) (runesBytes us[j + 1]) = (-1, 0) := by
        rw [cmpB_yes (h.letters _ (List.getElem_mem (by omega))) (h.letters _ (List.getElem_mem hi))]
        have hr := cmp_range ls us[j] us[j + 1]
        have hn : cmpL (cmpR ls) us[j] us[j + 1] < 0 := hlt
        rw [show cmpL (cmpR ls) us[j] us[j + 1] = -1 by omega]
      rw [if_pos (by omega), ew2, if_pos (by omega), if_pos (by simp; omega), if_pos (by omega), rdm j (by omega), rdm (j + 1) hi]
      unfold word_Cmp.f
      rw [if_pos hf, hcmp, Option.bind_some]
      dsimp only
      rw [if_pos rfl, if_pos rfl, ham, Option.bind_some, if_pos rfl, ew]
      exact ih
theorem order_j1 {fs : List ByteArray} {ls : List S118} (l : List ByteArray) (hf : fitsS fs = true) (hl : l.length ≤ 200) (k : Nat) (hk : 20000 ≤ k) : cognatelaw03_WordOrder.j1 k l false fs ls = some true := by
  obtain ⟨k, rfl⟩ : ∃ q, k = q + 1 := ⟨k - 1, by omega⟩
  rw [cognatelaw03_WordOrder.j1, if_neg (by decide)]
  unfold word_Sort.f
  rw [if_pos hf, Option.bind_some]
  by_cases e : allB fs ls l = 0
  · have es : sortB fs ls l = (((l.map (lettersOf ls)).foldr (insU ls) []).map runesBytes, 0) := by unfold sortB; exact if_neg (by simpa using e)
    obtain ⟨hal, _, _⟩ := allB_yes e
    have hr := row_of e
    have hle := sortU_length ls (l.map (lettersOf ls))
    rw [List.length_map] at hle
    rw [es]
    dsimp only
    rw [if_pos rfl]
    exact order_l0 hf hal hr (by omega) (by omega) _ 0 (Nat.zero_add _) k (by omega)
  · have es : sortB fs ls l = ([], allB fs ls l) := by unfold sortB; exact if_pos e
    rw [es]
    dsimp only
    rw [if_neg e]
    rfl
theorem order_j0 {fs : List ByteArray} {ls : List S118} (l : List ByteArray) (x y z : ByteArray) (hf : fitsS fs = true) (hl : l.length ≤ 200) (k : Nat) (hk : 20010 ≤ k) :
    cognatelaw03_WordOrder.j0 k l (cmpB fs ls x y).1 (cmpB fs ls x y).2 (cmpB fs ls y z).1 (cmpB fs ls y z).2 (cmpB fs ls x z).1 (cmpB fs ls x z).2 false fs ls = some true := by
  obtain ⟨k, rfl⟩ : ∃ q, k = q + 1 := ⟨k - 1, by omega⟩
  have hj := order_j1 (fs := fs) (ls := ls) l hf hl k (by omega)
  rw [cognatelaw03_WordOrder.j0, if_neg (by decide), hj]
  by_cases h1 : (cmpB fs ls x y).2 = 0
  · rw [if_pos h1]
    by_cases h2 : (cmpB fs ls y z).2 = 0
    · rw [if_pos h2]
      by_cases h3 : (cmpB fs ls x z).2 = 0
      · rw [if_pos h3]
        have hx : (lettersB fs ls x).2 = 0 ∧ (lettersB fs ls y).2 = 0 := Classical.byContradiction (fun q => (cmpB_no q).2 h1)
        have hz : (lettersB fs ls y).2 = 0 ∧ (lettersB fs ls z).2 = 0 := Classical.byContradiction (fun q => (cmpB_no q).2 h2)
        have ex : lettersB fs ls x = ((lettersB fs ls x).1, 0) := Prod.ext rfl hx.1
        have ey : lettersB fs ls y = ((lettersB fs ls y).1, 0) := Prod.ext rfl hx.2
        have ez : lettersB fs ls z = ((lettersB fs ls z).1, 0) := Prod.ext rfl hz.2
        rw [cmpB_yes ex ey, cmpB_yes ey ez, cmpB_yes ex ez]
        dsimp only
        generalize (lettersB fs ls x).1 = lx
        generalize (lettersB fs ls y).1 = ly
        generalize (lettersB fs ls z).1 = lz
        by_cases p : cmpL (cmpR ls) lx ly ≤ 0
        · rw [if_pos p]
          by_cases r : cmpL (cmpR ls) ly lz ≤ 0
          · obtain ⟨t1, t2⟩ := cmp_trans ls p r
            rw [if_pos r, if_neg (by omega)]
            by_cases s : cmpL (cmpR ls) lx lz = 0
            · obtain ⟨t3, t4⟩ := t2 s
              rw [if_pos s, if_pos t3, t4]
              exact hj
            · rw [if_neg s]
          · rw [if_neg r]
        · rw [if_neg p]
      · rw [if_neg h3]
    · rw [if_neg h2]
  · rw [if_neg h1]
theorem WordOrder : ∀ (l0_0 : List ByteArray) (l0_1 : List (S118)) (a1 : ByteArray) (a2 : ByteArray) (a3 : ByteArray) (l4 : List ByteArray), (l0_0.length * 16 ≤ 140737488351232 ∧ ∀ y ∈ l0_0, y.size ≤ 140737488351232) → (l0_1.length * 12 ≤ 140737488351232 ∧ ∀ y ∈ l0_1, wfS118 y) → (a1.size ≤ 140737488351232) → (a2.size ≤ 140737488351232) → (a3.size ≤ 140737488351232) → (l4.length * 16 ≤ 140737488351232 ∧ ∀ y ∈ l4, y.size ≤ 140737488351232) → ∃ k, cognatelaw03_WordOrder.f k l0_0 l0_1 a1 a2 a3 l4 = some true := by
  intro fs ls x y z l hf _ _ _ _ hll
  have hfit := fits_of hf.2
  obtain ⟨k, hk⟩ : ∃ k : Nat, 30000 ≤ k := ⟨30000, Nat.le_refl _⟩
  refine ⟨k, ?_⟩
  unfold cognatelaw03_WordOrder.f
  rw [awake_eq k (by omega), Option.bind_some, if_pos rfl]
  by_cases hl : l.length ≤ 200
  · have hc : ∀ a b, word_Cmp.f fs ls a b = some (cmpB fs ls a b) := fun a b => by unfold word_Cmp.f; exact if_pos hfit
    rw [if_neg (by omega), hc, Option.bind_some, hc, Option.bind_some, hc, Option.bind_some, hc, Option.bind_some]
    have hj := order_j0 (fs := fs) (ls := ls) l x y z hfit hl k (by omega)
    by_cases q : (lettersB fs ls x).2 = 0 ∧ (lettersB fs ls y).2 = 0
    · have ex : lettersB fs ls x = ((lettersB fs ls x).1, 0) := Prod.ext rfl q.1
      have ey : lettersB fs ls y = ((lettersB fs ls y).1, 0) := Prod.ext rfl q.2
      obtain ⟨_, rx, _, bx⟩ := letters_yes ex
      obtain ⟨_, ry, _, by'⟩ := letters_yes ey
      rw [cmpB_yes ex ey] at hj ⊢
      rw [cmpB_yes ey ex]
      have hr := cmp_range ls (lettersB fs ls x).1 (lettersB fs ls y).1
      have hz := cmp_zero (ls := ls) rx ry
      have hfl := cmp_flip ls (lettersB fs ls x).1 (lettersB fs ls y).1
      have hw : wrap64 (cmpL (cmpR ls) (lettersB fs ls x).1 (lettersB fs ls y).1 + cmpL (cmpR ls) (lettersB fs ls y).1 (lettersB fs ls x).1) = 0 := by rw [hfl, w64 (by omega) (by omega)]; omega
      have he : ((cmpL (cmpR ls) (lettersB fs ls x).1 (lettersB fs ls y).1 == 0) != (x.toList == y.toList)) = false := by
        have : (cmpL (cmpR ls) (lettersB fs ls x).1 (lettersB fs ls y).1 == 0) = (x.toList == y.toList) := by
          by_cases e : x = y
          · subst e
            rw [hz.2 rfl]; simp
          · have hne : x.toList ≠ y.toList := fun q => e (by
              apply r_ext
              rw [← ByteArray.toList_eq, ← ByteArray.toList_eq, q])
            have hn : cmpL (cmpR ls) (lettersB fs ls x).1 (lettersB fs ls y).1 ≠ 0 := fun q => e (by rw [← bx, ← by', hz.1 q])
            rw [beq_eq_false_iff_ne.2 hn, beq_eq_false_iff_ne.2 hne]
        rw [this]; simp
      dsimp only
      dsimp only at hj
      rw [if_neg (by simp), if_pos hw, if_neg (by omega), if_neg (by omega), if_pos rfl, he]
      exact hj
    · have q2 : ¬ ((lettersB fs ls y).2 = 0 ∧ (lettersB fs ls x).2 = 0) := fun h => q ⟨h.2, h.1⟩
      obtain ⟨a1, a2⟩ := cmpB_no q
      obtain ⟨b1, b2⟩ := cmpB_no q2
      have hb : ((((cmpB fs ls x y).2 == 0) != ((cmpB fs ls y x).2 == 0)) = true) = False := by
        rw [beq_eq_false_iff_ne.2 a2, beq_eq_false_iff_ne.2 b2]; simp
      rw [if_neg (by rw [hb]; exact id), a1, b1, if_pos (show wrap64 ((0 : Int) + 0) = 0 from by unfold wrap64; decide), if_neg (by decide), if_neg (by decide), if_neg a2]
      rw [a1] at hj
      exact hj
  · rw [if_pos (by omega)]
end Go.Proofs.YtfpfdmenhgageaaDoor.Pure
