import Derived.Test.YtfpfdmenhgageaaDoorPRd
import Derived.Test.YtfpfdmenhgageaaDoorPx17
namespace Go.Proofs.YtfpfdmenhgageaaDoor.Pure
open Go.RowKit Go.Proofs.YtfpfdmenhgageaaDoor.P Go.Proofs.YtfpfdmenhgageaaDoorW.PrintWords Go.Proofs.YtfpfdmenhgageaaDoorW.PrintLast Go.Proofs.YtfpfdmenhgageaaDoorW.PrintMore
theorem zb_ {α β : Type} (a : α) (f : α → Option β) : (some a).bind f = f a := rfl
theorem w64 {n : Int} (h0 : -9223372036854775808 ≤ n) (h1 : n ≤ 9223372036854775807) : wrap64 n = n := by unfold wrap64; omega
theorem z62_ (s : ByteArray) (i : Nat) (h : i < s.size) : bt s (i : Int) = ((s.data.toList[i]'(by simpa using h)).toNat : Int) := by
  unfold bt
  simp only [Int.toNat_natCast, h, dif_pos]
  rfl
theorem z61_ (s : ByteArray) (hs : s.size ≤ 32) : ∀ d i, s.size = i + d → ∀ k, d < k → cognateref02_name.l0 k s (i : Int) = some ((s.data.toList.drop i).all (fun b => decide (97 ≤ b.toNat ∧ b.toNat ≤ 122)))
  | 0, i, hi, k + 1, _ => by
    unfold cognateref02_name.l0
    rw [if_neg (by omega), List.drop_of_length_le (by have : s.data.toList.length = s.size := by simp
                                                      omega)]
    rfl
  | d + 1, i, hi, k + 1, hk => by
    have hlen : s.data.toList.length = s.size := by simp
    have hi2 : i < s.size := by omega
    unfold cognateref02_name.l0
    rw [if_pos (by omega), if_pos (by omega), z62_ s i hi2, w64 (by omega) (by omega), List.drop_eq_getElem_cons (by omega), List.all_cons]
    have ih := z61_ s hs d (i + 1) (by omega) k (by omega)
    rw [show ((i : Int) + 1) = ((i + 1 : Nat) : Int) by omega, ih]
    generalize (s.data.toList[i]'(by omega)).toNat = b
    by_cases h1 : (b : Int) < 97
    · rw [if_pos h1, decide_eq_false (by omega)]; rfl
    · rw [if_neg h1]
      by_cases h2 : (b : Int) > 122
      · rw [if_pos h2, decide_eq_false (by omega)]; rfl
      · rw [if_neg h2, decide_eq_true (by omega)]; rfl
theorem z53_ (s : ByteArray) (k : Nat) (hk : 40 ≤ k) : cognateref02_name.f k s = some (namedB s) := by
  obtain ⟨k, rfl⟩ : ∃ q, k = q + 1 := ⟨k - 1, by omega⟩
  unfold cognateref02_name.f namedB
  by_cases h0 : (s.size : Int) < 1
  · rw [if_pos h0]
    simp only [cognateref02_name.j0, if_true]
    rw [decide_eq_false (by omega)]; rfl
  · rw [if_neg h0, decide_eq_true (p := s.size ≠ 0) (by omega)]
    by_cases h1 : (s.size : Int) > 32
    · rw [decide_eq_true h1, decide_eq_false (p := s.size ≤ 32) (by omega)]
      simp only [cognateref02_name.j0, if_true]; rfl
    · rw [decide_eq_false h1, decide_eq_true (p := s.size ≤ 32) (by omega)]
      simp only [cognateref02_name.j0, Bool.false_eq_true, if_false]
      have := z61_ s (by omega) s.size 0 (by omega) k (by omega)
      rw [show ((0 : Nat) : Int) = 0 from rfl, List.drop_zero] at this
      rw [this]; rfl
theorem z32_ (r : Int) : cognateref02_letter.f r = some (letteredB r) := by
  unfold cognateref02_letter.f letteredB
  repeat' split
  all_goals first | (simp_all; done) | (simp_all; omega) | (rw [Option.some.injEq, Bool.eq_iff_iff]; simp_all; omega)
theorem z2_ (x y : Int) : 0 ≤ Go.bits .or .u32 x y ∧ Go.bits .or .u32 x y < 4294967296 := by
  unfold Go.bits
  simp only [IntKind.wrap, IntKind.bits, IntKind.signed]
  simp
  constructor <;> omega
theorem z0_ (x : Nat) (n : Nat) (hx : x < 4294967296) (hn : n ≤ 24) : Go.bits .and .u32 (x : Int) (((2 ^ n - 1 : Nat)) : Int) = ((x % 2 ^ n : Nat) : Int) := by
  unfold Go.bits
  have hp : 2 ^ n ≤ 2 ^ 24 := Nat.pow_le_pow_right (by omega) hn
  have hp2 : (2 : Nat) ^ 24 = 16777216 := by decide
  show IntKind.u32.wrap (((BitVec.ofInt 32 (x : Int) &&& BitVec.ofInt 32 ((2 ^ n - 1 : Nat) : Int)).toNat : Nat) : Int) = _
  rw [BitVec.toNat_and]
  simp only [BitVec.ofInt_natCast, BitVec.toNat_ofNat]
  rw [Nat.mod_eq_of_lt (by omega), Nat.mod_eq_of_lt (b := 2 ^ 32) (a := 2 ^ n - 1) (by omega), Nat.and_two_pow_sub_one_eq_mod]
  have := Nat.mod_lt x (Nat.two_pow_pos n)
  generalize x % 2 ^ n = y at this ⊢
  simp only [IntKind.wrap, IntKind.bits, IntKind.signed]
  simp
  omega
theorem z64_ (fs : List ByteArray) (ls : List S118) (p m : Int) (hn : fs.length ≤ 24) : cognateref02_May.f fs ls p m = some (withinB fs.length p m) := by
  unfold cognateref02_May.f cognateref02_all.f withinB
  have hw : IntKind.u64.wrap (fs.length : Int) = (fs.length : Int) := by simp [IntKind.wrap, IntKind.bits, IntKind.signed]; omega
  have hp : 2 ^ fs.length ≤ 2 ^ 24 := Nat.pow_le_pow_right (by omega) hn
  have hp1 : 0 < 2 ^ fs.length := Nat.two_pow_pos _
  have hp2 : (2 : Nat) ^ 24 = 16777216 := by decide
  rw [hw, if_pos (by omega)]
  obtain ⟨h0, h1⟩ := z2_ p m
  obtain ⟨x, hx⟩ : ∃ x : Nat, Go.bits .or .u32 p m = (x : Int) := ⟨(Go.bits .or .u32 p m).toNat, by omega⟩
  have hall : (shl .u32 1 (fs.length : Int) - 1) % 4294967296 = ((2 ^ fs.length - 1 : Nat) : Int) := by
    unfold shl
    rw [Int.toNat_natCast, Nat.min_eq_left (by simp [IntKind.bits]; omega)]
    simp only [IntKind.wrap, IntKind.bits, IntKind.signed]
    have : ((1 : Int) * 2 ^ fs.length) = ((2 ^ fs.length : Nat) : Int) := by simp
    rw [this]
    simp
    omega
  have hsh : shr .u32 (x : Int) (fs.length : Int) = ((x / 2 ^ fs.length : Nat) : Int) := by
    unfold shr
    rw [Int.toNat_natCast, Nat.min_eq_left (by simp [IntKind.bits]; omega)]
    simp
  simp only [zb_, hall, hx, hsh]
  rw [z0_ x _ (by omega) hn]
  by_cases h : x < 2 ^ fs.length
  · rw [Nat.mod_eq_of_lt h, if_pos rfl, Nat.div_eq_of_lt h]; simp
  · rw [if_neg (by have := Nat.mod_lt x hp1; omega)]
    have : x / 2 ^ fs.length ≠ 0 := by
      intro e
      have := (Nat.div_eq_zero_iff).1 e
      omega
    have hb : (((x / 2 ^ fs.length : Nat) : Int) == 0) = false := beq_eq_false_iff_ne.2 (by omega)
    rw [hb]; rfl
theorem z65_ (a b : ByteArray) : (a.toList != b.toList) = !(decide (a = b)) := by
  rw [ByteArray.toList_eq, ByteArray.toList_eq]
  by_cases h : a = b
  · subst h; simp
  · rw [decide_eq_false h]
    simp only [bne, Bool.not_false, Bool.not_eq_true']
    refine beq_eq_false_iff_ne.2 (fun e => h (ByteArray.ext (Array.ext' e)))
theorem z39_ (fs : List ByteArray) (ls : List S118) (i : Nat) (hi : i < fs.length) (hn : fs.length ≤ 24) (R : Option Int) (B : Nat) (hR : ∀ k, B ≤ k → cognateref02_Check.l0 k ((i + 1 : Nat) : Int) fs ls = R) :
    ∀ d j ok, i = j + d → ∀ k, B + 1 + d ≤ k → cognateref02_Check.l1 k (i : Int) ok (j : Int) fs ls =
      if ok = true ∧ (((fs.drop j).take d).any fun g => decide (g = rdOf ByteArray.empty fs (i : Int))) = false then R else some 7
  | 0, j, ok, hj, k + 1, hk => by
    unfold cognateref02_Check.l1
    rw [if_neg (by omega), w64 (by omega) (by omega), show ((i : Int) + 1) = ((i + 1 : Nat) : Int) by omega, hR k (by omega)]
    cases ok <;> simp
  | d + 1, j, ok, hj, k + 1, hk => by
    unfold cognateref02_Check.l1
    rw [if_pos (by omega), w64 (by omega) (by omega), show ((j : Int) + 1) = ((j + 1 : Nat) : Int) by omega]
    cases ok
    · simp only [Bool.false_eq_true, if_false, false_and]
      rw [z39_ fs ls i hi hn R B hR d (j + 1) false (by omega) k (by omega)]
      simp
    · simp only [if_true, true_and]
      rw [if_pos (by omega), if_pos (by omega), if_pos (by omega), if_pos (by omega), z65_, z39_ fs ls i hi hn R B hR d (j + 1) _ (by omega) k (by omega)]
      rw [show fs.drop j = rdOf ByteArray.empty fs (j : Int) :: fs.drop (j + 1) from drop_str fs j (by omega), List.take_succ_cons, List.any_cons]
      cases h : decide (rdOf ByteArray.empty fs (j : Int) = rdOf ByteArray.empty fs (i : Int)) <;> simp
theorem z50_ (fs : List ByteArray) (ls : List S118) (hn : fs.length ≤ 24) (B : Nat) (hB : 100 ≤ B) (b : Bool) (hR : ∀ k, B ≤ k → cognateref02_Check.l2 k 0 fs ls = some (if b = true then 0 else 7)) :
    ∀ d i, fs.length = i + d → ∀ k, B + 1 + d * 30 ≤ k → cognateref02_Check.l0 k (i : Int) fs ls = some (if (featsB (fs.take i) (fs.drop i) && b) = true then 0 else 7)
  | 0, i, hi, k + 1, hk => by
    unfold cognateref02_Check.l0
    rw [if_neg (by omega), hR k (by omega), List.drop_of_length_le (by omega)]
    simp [featsB]
  | d + 1, i, hi, k + 1, hk => by
    have ih := z50_ fs ls hn B hB b hR d (i + 1) (by omega)
    have hd := drop_str fs i (by omega)
    unfold cognateref02_Check.l0
    rw [if_pos (by omega), if_pos (by omega), z53_ _ _ (by omega)]
    simp only [zb_]
    have h1 := z39_ fs ls i (by omega) hn _ _ ih i 0 (namedB (rdOf ByteArray.empty fs (i : Int))) (by omega) k (by omega)
    rw [show ((0 : Nat) : Int) = 0 from rfl, List.drop_zero] at h1
    rw [h1, hd, take_snoc fs i _ hd, show featsB (fs.take i) (rdOf ByteArray.empty fs (i : Int) :: fs.drop (i + 1)) = (namedB (rdOf ByteArray.empty fs (i : Int)) && (!((fs.take i).any fun g => decide (g = rdOf ByteArray.empty fs (i : Int))) && featsB (fs.take i ++ [rdOf ByteArray.empty fs (i : Int)]) (fs.drop (i + 1)))) from rfl]
    have hA := Bool.eq_false_or_eq_true (namedB (rdOf ByteArray.empty fs (i : Int)))
    have hC := Bool.eq_false_or_eq_true ((fs.take i).any fun g => decide (g = rdOf ByteArray.empty fs (i : Int)))
    rcases hA with hA | hA <;> rcases hC with hC | hC <;> rw [hA, hC] <;> simp
theorem z35_ (fs : List ByteArray) (ls : List S118) (i : Nat) (hi : i < ls.length) (hn : ls.length ≤ 128) (r0 r1 r2 : Int) (R : Option Int) (B : Nat) (hR : ∀ k, B ≤ k → cognateref02_Check.l2 k ((i + 1 : Nat) : Int) fs ls = R) :
    ∀ d j ok, i = j + d → ∀ k, B + 1 + d ≤ k → cognateref02_Check.l3 k (i : Int) ok (j : Int) fs ls r0 r1 r2 =
      if ok = true ∧ (((ls.drop j).take d).any fun g => decide (g.f0 = r0)) = false then R else some 7
  | 0, j, ok, hj, k + 1, hk => by
    unfold cognateref02_Check.l3
    rw [if_neg (by omega), w64 (by omega) (by omega), show ((i : Int) + 1) = ((i + 1 : Nat) : Int) by omega, hR k (by omega)]
    cases ok <;> simp
  | d + 1, j, ok, hj, k + 1, hk => by
    unfold cognateref02_Check.l3
    rw [if_pos (by omega), w64 (by omega) (by omega), show ((j : Int) + 1) = ((j + 1 : Nat) : Int) by omega]
    cases ok
    · simp only [Bool.false_eq_true, if_false, false_and]
      rw [z35_ fs ls i hi hn r0 r1 r2 R B hR d (j + 1) false (by omega) k (by omega)]
      simp
    · simp only [if_true, true_and]
      rw [if_pos (by omega), if_pos (by omega), z35_ fs ls i hi hn r0 r1 r2 R B hR d (j + 1) _ (by omega) k (by omega)]
      rw [show ls.drop j = rd_T118 ls (j : Int) :: ls.drop (j + 1) from drop_let ls j (by omega), List.take_succ_cons, List.any_cons]
      by_cases h : (rd_T118 ls (j : Int)).f0 = r0
      · simp [h]
      · simp [h]
theorem z44_ (fs : List ByteArray) (ls : List S118) (hf : fs.length ≤ 24) (hn : ls.length ≤ 128) :
    ∀ d i, ls.length = i + d → ∀ k, 101 + d * 140 ≤ k → cognateref02_Check.l2 k (i : Int) fs ls = some (if letsB fs.length (ls.take i |>.map (·.f0)) (ls.drop i) = true then 0 else 7)
  | 0, i, hi, k + 1, hk => by
    unfold cognateref02_Check.l2
    rw [if_neg (by omega), List.drop_of_length_le (by omega)]
    simp [letsB]
  | d + 1, i, hi, k + 1, hk => by
    have ih := z44_ fs ls hf hn d (i + 1) (by omega)
    have hd := drop_let ls i (by omega)
    have h3 := fun ok => z35_ fs ls i (by omega) hn (rd_T118 ls (i : Int)).f0 (rd_T118 ls (i : Int)).f1 (rd_T118 ls (i : Int)).f2 _ _ ih i 0 ok (by omega) (k - 1) (by omega)
    simp only [show ((0 : Nat) : Int) = 0 from rfl, List.drop_zero] at h3
    have h4 : ∀ ok, cognateref02_Check.j4 k (i : Int) ok fs ls (rd_T118 ls (i : Int)).f0 (rd_T118 ls (i : Int)).f1 (rd_T118 ls (i : Int)).f2 = cognateref02_Check.l3 (k - 1) (i : Int) ok 0 fs ls (rd_T118 ls (i : Int)).f0 (rd_T118 ls (i : Int)).f1 (rd_T118 ls (i : Int)).f2 := fun ok => by
      obtain ⟨q, rfl⟩ : ∃ q, k = q + 1 := ⟨k - 1, by omega⟩
      rfl
    unfold cognateref02_Check.l2
    rw [if_pos (by omega), if_pos (by omega), z32_]
    simp only [zb_, z64_ fs ls _ _ hf, h4, h3]
    rw [hd, take_snoc ls i _ hd, List.map_append, show letsB fs.length ((ls.take i).map (·.f0)) (rd_T118 ls (i : Int) :: ls.drop (i + 1)) = (letteredB (rd_T118 ls (i : Int)).f0 && (!(((ls.take i).map (·.f0)).any fun g => decide (g = (rd_T118 ls (i : Int)).f0)) && (withinB fs.length (rd_T118 ls (i : Int)).f1 (rd_T118 ls (i : Int)).f2 && letsB fs.length ((ls.take i).map (·.f0) ++ [(rd_T118 ls (i : Int)).f0]) (ls.drop (i + 1))))) from rfl]
    have hany : (List.take i ls).any (fun g => decide (g.f0 = (rd_T118 ls (i : Int)).f0)) = ((ls.take i).map (·.f0)).any fun g => decide (g = (rd_T118 ls (i : Int)).f0) := by rw [List.any_map]; rfl
    rw [hany]
    have hA := Bool.eq_false_or_eq_true (letteredB (rd_T118 ls (i : Int)).f0)
    have hW := Bool.eq_false_or_eq_true (withinB fs.length (rd_T118 ls (i : Int)).f1 (rd_T118 ls (i : Int)).f2)
    have hC := Bool.eq_false_or_eq_true (((ls.take i).map (·.f0)).any fun g => decide (g = (rd_T118 ls (i : Int)).f0))
    rcases hA with hA | hA <;> rcases hW with hW | hW <;> rcases hC with hC | hC <;> rw [hA, hW, hC] <;> simp
theorem z51_ (fs : List ByteArray) (ls : List S118) (k : Nat) (hk : 30000 ≤ k) : cognateref02_Check.f k fs ls = some (if alphaB fs ls = true then 0 else 7) := by
  obtain ⟨k, rfl⟩ : ∃ q, k = q + 1 := ⟨k - 1, by omega⟩
  unfold cognateref02_Check.f alphaB
  by_cases h0 : (fs.length : Int) > 24
  · rw [if_pos h0, decide_eq_false (p := fs.length ≤ 24) (by omega)]; simp [cognateref02_Check.j0]
  · rw [if_neg h0, decide_eq_true (p := fs.length ≤ 24) (by omega)]
    by_cases h1 : (ls.length : Int) < 1
    · rw [if_pos h1, decide_eq_false (p := 1 ≤ ls.length) (by omega)]; simp [cognateref02_Check.j0]
    · rw [if_neg h1, decide_eq_true (p := 1 ≤ ls.length) (by omega)]
      by_cases h2 : (ls.length : Int) > 128
      · rw [decide_eq_true h2, decide_eq_false (p := ls.length ≤ 128) (by omega)]; simp [cognateref02_Check.j0]
      · rw [decide_eq_false h2, decide_eq_true (p := ls.length ≤ 128) (by omega)]
        simp only [cognateref02_Check.j0, Bool.false_eq_true, if_false]
        have e2 := z44_ fs ls (by omega) (by omega) ls.length 0 (by omega)
        simp only [show ((0 : Nat) : Int) = 0 from rfl, List.drop_zero, List.take_zero, List.map_nil] at e2
        have e1 := z50_ fs ls (by omega) 19000 (by omega) (letsB fs.length [] ls) (fun k hk => e2 k (by omega)) fs.length 0 (by omega) k (by omega)
        simp only [show ((0 : Nat) : Int) = 0 from rfl, List.drop_zero, List.take_zero] at e1
        rw [e1]; simp
def numB (ls : List S118) (r : Int) : Int := match rankOf ls r with | some i => (i : Int) | none => -1
theorem z28_ (fs : List ByteArray) (ls : List S118) (hn : ls.length ≤ 1000000) (r : Int) : ∀ d i, ls.length = i + d → ∀ k, d < k → cognateref03_Number.l0 k r (i : Int) fs ls = some (match (ls.drop i).findIdx? (fun l => decide (l.f0 = r)) with | some j => ((i + j : Nat) : Int) | none => -1)
  | 0, i, hi, k + 1, _ => by
    unfold cognateref03_Number.l0
    rw [if_neg (by omega), List.drop_of_length_le (by omega)]
    rfl
  | d + 1, i, hi, k + 1, hk => by
    have hd := drop_let ls i (by omega)
    unfold cognateref03_Number.l0
    rw [if_pos (by omega), if_pos (by omega), w64 (by omega) (by omega), show ((i : Int) + 1) = ((i + 1 : Nat) : Int) by omega, z28_ fs ls hn r d (i + 1) (by omega) k (by omega), hd, List.findIdx?_cons]
    by_cases h : (rd_T118 ls (i : Int)).f0 = r
    · rw [if_pos h]; simp [h]
    · rw [if_neg h]
      simp only [h, decide_false, Bool.false_eq_true, if_false]
      cases (ls.drop (i + 1)).findIdx? (fun l => decide (l.f0 = r)) with
      | none => rfl
      | some j =>
        show some (((i + 1 + j : Nat)) : Int) = some (((i + (j + 1) : Nat)) : Int)
        rw [show i + 1 + j = i + (j + 1) by omega]
theorem z21_ (fs : List ByteArray) (ls : List S118) (hn : ls.length ≤ 1000000) (r : Int) (k : Nat) (hk : ls.length < k) : cognateref03_Number.f k fs ls r = some (numB ls r) := by
  unfold cognateref03_Number.f
  have := z28_ fs ls hn r ls.length 0 (by omega) k hk
  rw [show ((0 : Nat) : Int) = 0 from rfl, List.drop_zero] at this
  rw [this]
  unfold numB rankOf
  cases ls.findIdx? (fun l => decide (l.f0 = r)) <;> simp
theorem z47_ (ls : List S118) (r : Int) : numB ls r < 0 ↔ (rankOf ls r).isSome = false := by
  unfold numB
  cases rankOf ls r with
  | none => simp
  | some i => simp
theorem z56_ (fs : List ByteArray) (ls : List S118) (hn : ls.length ≤ 1000000) (s : ByteArray) (hs : s.size ≤ 140737488351232) : ∀ f pos out, pos ≤ s.size → s.size ≤ pos + f → out.length ≤ 64 → ∀ k, 2 * f + ls.length + 3 ≤ k → cognateref03_Read.l0 k s 64 out (pos : Int) fs ls = some (readP ls (pcs s f pos) out)
  | 0, pos, out, h0, h1, h2, k + 1, hk => by
    unfold cognateref03_Read.l0
    rw [if_neg (by omega), pcs_end s 0 pos (by omega)]
    rfl
  | f + 1, pos, out, h0, h1, h2, k + 1, hk => by
    unfold cognateref03_Read.l0
    by_cases hp : pos < s.size
    · rw [if_pos (by omega), if_pos (by omega), if_pos (by omega)]
      have hw := Lib.decode_width_pos s pos hp
      have hle := decode_le65 s pos hp
      have hd : utf8_DecodeRuneInString.f (s.extract (pos : Int).toNat s.size) = some (((Utf8.decode s pos).1 : Int), ((Utf8.decode s pos).2 : Int)) := by
        unfold utf8_DecodeRuneInString.f Lib.decodeGo
        rw [Int.toNat_natCast, if_neg (by simp [ByteArray.size_extract]; omega), decode_tail]
      have ih := fun o h => z56_ fs ls hn s hs f (pos + (Utf8.decode s pos).2) o hle.2 (by omega) h
      rw [hd]
      simp only [zb_]
      have e : pcs s (f + 1) pos = pcAt s pos :: pcs s f (pos + (Utf8.decode s pos).2) := by rw [pcs, if_pos hp]
      rw [e]
      have hpc : pcAt s pos = ⟨((Utf8.decode s pos).1 : Int), pos, ((Utf8.decode s pos).2 : Int), decide ((Utf8.decode s pos).1 = 65533 ∧ (Utf8.decode s pos).2 = 1)⟩ := rfl
      rw [hpc]
      generalize (Utf8.decode s pos).1 = R at hle ⊢
      generalize (Utf8.decode s pos).2 = K at hw hle ih ⊢
      have hj : ∀ b, cognateref03_Read.j1 k s 64 out (pos : Int) (R : Int) (K : Int) b fs ls = some (if b = true then ([], 6) else if (rankOf ls (R : Int)).isSome = false then ([], 5) else if out.length = 64 then ([], 4) else readP ls (pcs s f (pos + K)) (out ++ [(R : Int)])) := fun b => by
        obtain ⟨k, rfl⟩ : ∃ q, k = q + 1 := ⟨k - 1, by omega⟩
        unfold cognateref03_Read.j1
        cases b
        · simp only [Bool.false_eq_true, if_false]
          rw [z21_ fs ls hn _ k (by omega)]
          simp only [zb_]
          by_cases h5 : (rankOf ls (R : Int)).isSome = false
          · rw [if_pos ((z47_ ls _).2 h5), if_pos h5]
          · rw [if_neg (fun e => h5 ((z47_ ls _).1 e)), if_neg h5]
            by_cases h4 : out.length = 64
            · rw [if_pos (by omega), if_pos h4]
            · rw [if_neg (by omega), if_neg h4, if_pos (by omega), w64 (by omega) (by omega), show ((pos : Int) + (K : Int)) = ((pos + K : Nat) : Int) by omega, ih _ (by simp; omega) k (by omega)]
        · simp
      simp only [readP, hj]
      by_cases hR : R = 65533
      · subst hR
        rw [if_pos (by rfl)]
        by_cases hK : K = 1
        · subst hK; simp
        · have : ((K : Int) == 1) = false := beq_eq_false_iff_ne.2 (by omega)
          rw [this, decide_eq_false (fun h => hK h.2)]
      · rw [if_neg (by omega), decide_eq_false (fun h => hR h.1)]
    · rw [if_neg (by omega), pcs_end s _ pos hp]
      rfl
theorem z13_ (s : ByteArray) (n i : Nat) (h : i + 4 ≤ n) (hn : n ≤ s.size) : Utf8.decode (s.extract 0 n) i = Utf8.decode s i := by
  have hg : ∀ j, j < n → (s.extract 0 n).get! j = s.get! j := fun j hj => by
    show (s.extract 0 n).data[j]! = s.data[j]!
    simp only [ByteArray.data_extract, getElem!_def]
    rw [Array.getElem?_extract, if_pos (by have : s.data.size = s.size := rfl; omega), Nat.zero_add]
  have hsz : (s.extract 0 n).size = n := by simp [ByteArray.size_extract]; omega
  unfold Utf8.decode
  simp only [hsz, hg (i + 0) (by omega), hg (i + 1) (by omega), hg (i + 2) (by omega), hg (i + 3) (by omega), show (i + 1 < n) = True from eq_true (by omega), show (i + 2 < n) = True from eq_true (by omega), show (i + 3 < n) = True from eq_true (by omega), show (i + 1 < s.size) = True from eq_true (by omega), show (i + 2 < s.size) = True from eq_true (by omega), show (i + 3 < s.size) = True from eq_true (by omega)]
theorem z49_ (s : ByteArray) (i : Nat) : (Utf8.decode s i).2 ≤ 4 := by
  unfold Utf8.decode
  simp only
  repeat' split
  all_goals simp
theorem z34_ (ls : List S118) (s : ByteArray) (hs : s.size > 65536) : ∀ m i f g out, out.length + m = 65 → out.length ≤ 64 → i + 4 * m ≤ 65532 → 65536 ≤ i + f → s.size ≤ i + g →
    readP ls (pcs (s.extract 0 65536) f i) out = readP ls (pcs s g i) out
  | 0, i, f, g, out, h0, h1, h2, h3, h4 => by omega
  | m + 1, i, f, g, out, h0, h1, h2, h3, h4 => by
    obtain ⟨f, rfl⟩ : ∃ q, f = q + 1 := ⟨f - 1, by omega⟩
    obtain ⟨g, rfl⟩ : ∃ q, g = q + 1 := ⟨g - 1, by omega⟩
    have hsz : (s.extract 0 65536).size = 65536 := by simp [ByteArray.size_extract]; omega
    have hd := z13_ s 65536 i (by omega) (by omega)
    have hw := z49_ s i
    have hw1 := Lib.decode_width_pos s i (by omega)
    rw [pcs, if_pos (by omega), pcs, if_pos (by omega)]
    have hp : pcAt (s.extract 0 65536) i = pcAt s i := by unfold pcAt; rw [hd]
    rw [hp, hd]
    simp only [readP]
    by_cases h64 : out.length = 64
    · rw [if_pos h64, if_pos h64]
    · rw [if_neg h64, if_neg h64, z34_ ls s hs m (i + (Utf8.decode s i).2) f g _ (by simp; omega) (by simp; omega) (by omega) (by omega) (by omega)]
theorem z30_ (ls : List S118) (s : ByteArray) : readP ls (pieces (cut65 s)) [] = readP ls (pieces s) [] := by
  unfold cut65
  split
  · rename_i h
    unfold pieces
    have hsz : (s.extract 0 65536).size = 65536 := by simp [ByteArray.size_extract]; omega
    rw [hsz]
    exact z34_ ls s h 65 0 65536 s.size [] (by simp) (by simp) (by omega) (by omega) (by omega)
  · rfl
theorem z25_ {fs : List ByteArray} {ls : List S118} (h : alphaB fs ls = true) : ls.length ≤ 1000000 := by
  have := (alpha_parts h).1
  omega
theorem z12_ (fs : List ByteArray) (ls : List S118) (s : ByteArray) (hs : s.size ≤ 140737488351232) (k : Nat) (hk : 30200 + 2 * s.size ≤ k) : cognateref03_Letters.f k fs ls s = some (lettersB fs ls s) := by
  unfold cognateref03_Letters.f lettersB
  rw [z51_ fs ls k (by omega)]
  simp only [zb_]
  by_cases hal : alphaB fs ls = true
  · rw [if_pos hal, if_pos rfl, if_pos hal, z30_]
    unfold cognateref03_Read.f
    have := z56_ fs ls (z25_ hal) s hs s.size 0 [] (by omega) (by omega) (by simp) k (by have := (alpha_parts hal).1; omega)
    rw [show ((0 : Nat) : Int) = 0 from rfl] at this
    rw [this]
    rfl
  · rw [if_neg hal, if_neg (by omega), if_neg hal]
theorem z3_ (fs : List ByteArray) (ls : List S118) (s : ByteArray) : (lettersB fs ls s).1.length ≤ 64 := by
  have : ∀ (ps : List S97) (out : List Int), out.length ≤ 64 → (readP ls ps out).1.length ≤ 64 := by
    intro ps
    induction ps with
    | nil => intro out h; exact h
    | cons p ps ih =>
      intro out h
      unfold readP
      split
      · simp
      · split
        · simp
        · split
          · simp
          · exact ih _ (by simp; omega)
  unfold lettersB
  split
  · exact this _ _ (by simp)
  · simp
theorem z59_ {fs : List ByteArray} (h : ∀ y ∈ fs, y.size ≤ 140737488351232) : fitsS fs = true := by
  unfold fitsS
  exact List.all_eq_true.2 fun y hy => decide_eq_true (by have := h y hy; omega)
def z58_ (fs : List ByteArray) (ls : List S118) (s : ByteArray) : ByteArray × Int := if (lettersB fs ls s).2 = 0 then (runesBytes (lettersB fs ls s).1.reverse, 0) else (⟨#[]⟩, (lettersB fs ls s).2)
theorem z15_ (l : List Int) (hl : l.length ≤ 1000000) : ∀ d i x, i + i + d = l.length → x.length = l.length → (∀ j, j < i → x[j]? = l[l.length - 1 - j]? ∧ x[l.length - 1 - j]? = l[j]?) → (∀ j, i ≤ j → j < l.length - i → x[j]? = l[j]?) → ∀ k, d < k →
    slices_Reverse_rune_rune.l0 k x (i : Int) ((l.length : Int) - 1 - i) = some l.reverse
  | d, i, x, h0, h1, h2, h3, k + 1, hk => by
    unfold slices_Reverse_rune_rune.l0
    by_cases hlt : (i : Int) < (l.length : Int) - 1 - i
    · obtain ⟨d, rfl⟩ : ∃ q, d = q + 2 := ⟨d - 2, by omega⟩
      have ei : ((l.length : Int) - 1 - i).toNat = l.length - 1 - i := by omega
      rw [if_pos hlt, if_pos (by omega), if_pos (by omega), if_pos (by omega), if_pos (by omega), w64 (by omega) (by omega), w64 (by omega) (by omega), show ((i : Int) + 1) = ((i + 1 : Nat) : Int) by omega,
        show ((l.length : Int) - 1 - i - 1) = ((l.length : Int) - 1 - ((i + 1 : Nat) : Int)) by omega, ei, Int.toNat_natCast]
      have ra : rd x ((l.length : Int) - 1 - i) = (l[l.length - 1 - i]'(by omega)) := by
        unfold rd
        rw [ei, List.getD_eq_getElem?_getD, h3 _ (by omega) (by omega), List.getElem?_eq_getElem (by omega)]; rfl
      have rb : rd x (i : Int) = (l[i]'(by omega)) := by
        unfold rd
        rw [Int.toNat_natCast, List.getD_eq_getElem?_getD, h3 _ (by omega) (by omega), List.getElem?_eq_getElem (by omega)]; rfl
      rw [ra, rb]
      refine z15_ l hl d (i + 1) _ (by omega) (by simp [h1]) (fun j hj => ?_) (fun j hj hj2 => ?_) k (by omega)
      · by_cases e : j = i
        · subst e
          constructor
          · rw [List.getElem?_set_ne (by omega), List.getElem?_set_self (by omega), List.getElem?_eq_getElem (by omega)]
          · rw [List.getElem?_set_self (by simp; omega), List.getElem?_eq_getElem (by omega)]
        · rw [List.getElem?_set_ne (by omega), List.getElem?_set_ne (by omega), List.getElem?_set_ne (by omega), List.getElem?_set_ne (by omega)]
          exact h2 j (by omega)
      · rw [List.getElem?_set_ne (by omega), List.getElem?_set_ne (by omega)]
        exact h3 j (by omega) (by omega)
    · rw [if_neg hlt]
      congr 1
      apply List.ext_getElem?
      intro j
      by_cases hj : j < l.length
      · rw [List.getElem?_reverse hj]
        by_cases h4 : j < i
        · exact (h2 j h4).1
        · by_cases h5 : j < l.length - i
          · rw [h3 j (by omega) h5]
            congr 1
            omega
          · have := (h2 (l.length - 1 - j) (by omega)).2
            rw [show l.length - 1 - (l.length - 1 - j) = j by omega] at this
            exact this
      · rw [List.getElem?_eq_none (by omega), List.getElem?_eq_none (by simp; omega)]
theorem z8_ (l : List Int) (hl : l.length ≤ 1000000) (k : Nat) (hk : l.length < k) : slices_Reverse_rune_rune.f k l = some l.reverse := by
  unfold slices_Reverse_rune_rune.f
  rw [w64 (by omega) (by omega)]
  have := z15_ l hl l.length 0 l (by omega) rfl (fun j hj => by omega) (fun j _ _ => rfl) k hk
  simpa using this
theorem z22_ (fs : List ByteArray) (ls : List S118) (s : ByteArray) (hf : fitsS fs = true) (k : Nat) (hk : 100 ≤ k) : word_Turned.f k fs ls s = some (z58_ fs ls s) := by
  unfold word_Turned.f z58_ word_Letters.f
  rw [if_pos hf]
  have hl := z3_ fs ls s
  simp only [zb_]
  generalize lettersB fs ls s = le at hl ⊢
  obtain ⟨l, e⟩ := le
  simp only at hl ⊢
  by_cases he : e = 0
  · subst he
    rw [if_pos rfl, if_pos rfl, z8_ l (by omega) k (by omega)]
    rfl
  · rw [if_neg he, if_neg he]
theorem z33_ (k : Nat) (hk : 100 ≤ k) : cognatelaw03_awake.f k = some true := by
  unfold cognatelaw03_awake.f cognatelaw03_abc.f
  simp only [zb_]
  rw [z22_ _ _ _ (by decide +kernel) k hk]
  simp only [zb_]
  decide +kernel
theorem z45_ (x y : Int) : Go.bits .and .u32 x y = ((BitVec.ofInt 32 x &&& BitVec.ofInt 32 y).toNat : Int) := by
  have := (BitVec.ofInt 32 x &&& BitVec.ofInt 32 y).isLt
  show IntKind.u32.wrap (((BitVec.ofInt 32 x &&& BitVec.ofInt 32 y).toNat : Nat) : Int) = _
  generalize (BitVec.ofInt 32 x &&& BitVec.ofInt 32 y).toNat = n at this ⊢
  simp only [IntKind.wrap, IntKind.bits, IntKind.signed]
  simp
  omega
theorem z4_ (x y : Int) : Go.bits .andNot .u32 x y = ((BitVec.ofInt 32 x &&& ~~~ BitVec.ofInt 32 y).toNat : Int) := by
  have := (BitVec.ofInt 32 x &&& ~~~ BitVec.ofInt 32 y).isLt
  show IntKind.u32.wrap (((BitVec.ofInt 32 x &&& ~~~ BitVec.ofInt 32 y).toNat : Nat) : Int) = _
  generalize (BitVec.ofInt 32 x &&& ~~~ BitVec.ofInt 32 y).toNat = n at this ⊢
  simp only [IntKind.wrap, IntKind.bits, IntKind.signed]
  simp
  omega
theorem z66_ (x y : BitVec 32) : x &&& y = y ↔ y &&& ~~~ x = 0#32 := by
  constructor
  · intro h
    apply BitVec.eq_of_getLsbD_eq
    intro i hi
    have := congrArg (fun z => z.getLsbD i) h
    simp at this ⊢
    intro h1
    simpa [hi, h1] using this
  · intro h
    apply BitVec.eq_of_getLsbD_eq
    intro i hi
    have := congrArg (fun z => z.getLsbD i) h
    simp [hi] at this ⊢
    exact this
theorem z46_ (x p : Int) (h0 : 0 ≤ p) (h1 : p < 4294967296) : Go.bits .and .u32 x p = p ↔ Go.bits .andNot .u32 p x = 0 := by
  have hp : ((BitVec.ofInt 32 p).toNat : Int) = p := by
    rw [BitVec.toNat_ofInt]
    omega
  rw [z45_, z4_]
  have := z66_ (BitVec.ofInt 32 x) (BitVec.ofInt 32 p)
  constructor
  · intro h
    have h2 : (BitVec.ofInt 32 x &&& BitVec.ofInt 32 p) = BitVec.ofInt 32 p := BitVec.eq_of_toNat_eq (by omega)
    rw [this.1 h2]; rfl
  · intro h
    have h2 : (BitVec.ofInt 32 p &&& ~~~ BitVec.ofInt 32 x) = 0#32 := BitVec.eq_of_toNat_eq (by simpa using h)
    rw [this.2 h2, hp]
def hasB (p m : Int) (l : S118) : Bool := decide (Go.bits .andNot .u32 p l.f1 = 0) && (Go.bits .andNot .u32 m l.f2 == 0)
def z68_ (ls : List S118) (p m : Int) : List Int := (ls.filter (hasB p m)).map (·.f0)
def z70_ (fs : List ByteArray) (ls : List S118) (p m : Int) : List Int × Int := if alphaB fs ls = false then ([], 7) else if withinB fs.length p m = true then (z68_ ls p m, 0) else ([], 20)
theorem z55_ (l : S118) (p m : Int) : feature_like.f l.f0 l.f1 l.f2 p m = some (hasB p m l) := by
  unfold feature_like.f hasB
  split <;> simp_all
theorem z36_ (l : S118) (p m : Int) (hp : 0 ≤ p ∧ p < 4294967296) (hm : 0 ≤ m ∧ m < 4294967296) : cognateref02_Like.f l.f0 l.f1 l.f2 p m = some (hasB p m l) := by
  unfold cognateref02_Like.f hasB
  have h1 := z46_ l.f1 p hp.1 hp.2
  have h2 := z46_ l.f2 m hm.1 hm.2
  have e2 : (Go.bits .and .u32 l.f2 m == m) = (Go.bits .andNot .u32 m l.f2 == 0) := by rw [Bool.eq_iff_iff]; simpa using h2
  by_cases h : Go.bits .and .u32 l.f1 p = p
  · rw [if_pos h, decide_eq_true (h1.1 h), e2]; rfl
  · rw [if_neg h, decide_eq_false (fun e => h (h1.2 e))]; rfl
theorem z6_ (x : S118) (xs : List S118) (p m : Int) : z68_ (x :: xs) p m = if hasB p m x = true then x.f0 :: z68_ xs p m else z68_ xs p m := by
  unfold z68_
  rw [List.filter_cons]
  split <;> simp
theorem z48_ (ls : List S118) (p m : Int) (hn : ls.length ≤ 128) : ∀ d i out, ls.length = i + d → out.length ≤ i → ∀ k, d < k → feature_Class.l0 k p m out ls (ls.length : Int) (i : Int) = some (out ++ z68_ (ls.drop i) p m, 0)
  | 0, i, out, hi, ho, k + 1, hk => by
    unfold feature_Class.l0
    rw [if_neg (by omega), List.drop_of_length_le (by omega)]
    simp [z68_]
  | d + 1, i, out, hi, ho, k + 1, hk => by
    have hd := drop_let ls i (by omega)
    unfold feature_Class.l0
    rw [if_pos (by omega), if_pos (by omega), if_pos (by omega), z55_, hd, z6_, w64 (by omega) (by omega), show ((i : Int) + 1) = ((i + 1 : Nat) : Int) by omega]
    simp only [zb_]
    by_cases h : hasB p m (rd_T118 ls (i : Int)) = true
    · rw [if_pos h, if_pos h, if_pos (by omega), z48_ ls p m hn d (i + 1) _ (by omega) (by simp; omega) k (by omega)]
      simp
    · rw [if_neg h, if_neg h, z48_ ls p m hn d (i + 1) _ (by omega) (by omega) k (by omega)]
theorem z27_ (fs : List ByteArray) (ls : List S118) (p m : Int) (hp : 0 ≤ p ∧ p < 4294967296) (hm : 0 ≤ m ∧ m < 4294967296) (hn : ls.length ≤ 128) : ∀ d i out, ls.length = i + d → out.length ≤ i → ∀ k, d < k → cognateref02_Class.l0 k p m out (i : Int) fs ls = some (out ++ z68_ (ls.drop i) p m, 0)
  | 0, i, out, hi, ho, k + 1, hk => by
    unfold cognateref02_Class.l0
    rw [if_neg (by omega), List.drop_of_length_le (by omega)]
    simp [z68_]
  | d + 1, i, out, hi, ho, k + 1, hk => by
    have hd := drop_let ls i (by omega)
    unfold cognateref02_Class.l0
    rw [if_pos (by omega), if_pos (by omega), z36_ _ p m hp hm, hd, z6_, w64 (by omega) (by omega), show ((i : Int) + 1) = ((i + 1 : Nat) : Int) by omega]
    simp only [zb_]
    by_cases h : hasB p m (rd_T118 ls (i : Int)) = true
    · rw [if_pos h, if_pos h, if_pos (by omega), z27_ fs ls p m hp hm hn d (i + 1) _ (by omega) (by simp; omega) k (by omega)]
      simp
    · rw [if_neg h, if_neg h, z27_ fs ls p m hp hm hn d (i + 1) _ (by omega) (by omega) k (by omega)]
theorem z40_ (fs : List ByteArray) (ls : List S118) (p m : Int) (hf : fitsS fs = true) (k : Nat) (hk : 200 ≤ k) : feature_Class.f k fs ls p m = some (z70_ fs ls p m) := by
  unfold feature_Class.f z70_ feature_Check.f
  rw [if_pos hf]
  simp only [zb_]
  by_cases hal : alphaB fs ls = true
  · rw [if_pos hal, if_pos rfl, if_neg (c := alphaB fs ls = false) (by simp [hal]), within_eq]
    simp only [zb_]
    by_cases hw : withinB fs.length p m = true
    · rw [if_pos hw, if_pos hw]
      have := z48_ ls p m (alpha_parts hal).1 ls.length 0 [] (by omega) (by simp) k (by have := (alpha_parts hal).1; omega)
      rw [show ((0 : Nat) : Int) = 0 from rfl] at this
      rw [this]; rfl
    · rw [if_neg hw, if_neg hw]
  · rw [if_neg hal, if_neg (by omega), if_pos (by simpa using hal)]
theorem z26_ (fs : List ByteArray) (ls : List S118) (p m : Int) (hp : 0 ≤ p ∧ p < 4294967296) (hm : 0 ≤ m ∧ m < 4294967296) (k : Nat) (hk : 30200 ≤ k) : cognateref02_Class.f k fs ls p m = some (z70_ fs ls p m) := by
  unfold cognateref02_Class.f z70_ cognateref02_asked.f
  rw [z51_ fs ls k (by omega)]
  simp only [zb_]
  by_cases hal : alphaB fs ls = true
  · obtain ⟨k', rfl⟩ : ∃ q, k = q + 1 := ⟨k - 1, by omega⟩
    have ha : cognateref02_asked.l0 (k' + 1) [] 0 fs ls = some 0 := by unfold cognateref02_asked.l0; rw [if_neg (by simp)]
    rw [if_pos hal, if_pos rfl, ha, if_neg (c := alphaB fs ls = false) (by simp [hal])]
    simp only [zb_, if_true]
    rw [z64_ fs ls p m (by unfold alphaB at hal; simp only [Bool.and_eq_true, decide_eq_true_eq] at hal; exact hal.1)]
    simp only [zb_]
    by_cases hw : withinB fs.length p m = true
    · rw [if_pos hw, if_pos hw]
      have := z27_ fs ls p m hp hm (alpha_parts hal).1 ls.length 0 [] (by omega) (by simp) (k' + 1) (by have := (alpha_parts hal).1; omega)
      rw [show ((0 : Nat) : Int) = 0 from rfl] at this
      rw [this]; rfl
    · rw [if_neg hw, if_neg hw]
  · rw [if_neg hal, if_neg (by omega), if_pos (by simpa using hal)]
    simp
def pk (has : Int → Bool) : Int → List Int → List Int
  | _, [] => []
  | i, r :: rs => if has r = true then i :: pk has (i + 1) rs else pk has (i + 1) rs
def hasR (ls : List S118) (p m : Int) (r : Int) : Bool := (z68_ ls p m).any fun x => decide (x = r)
theorem z37_ (l : List Int) (hl : l.length ≤ 1000000) (r : Int) : ∀ d i, l.length = i + d → ∀ k, d < k → ∃ j : Int, slices_Index_rune_rune.l0 k l r (l.length : Int) (i : Int) = some j ∧ decide (j ≥ 0) = (l.drop i).any fun x => decide (x = r)
  | 0, i, hi, k + 1, hk => by
    refine ⟨-1, ?_, ?_⟩
    · unfold slices_Index_rune_rune.l0
      rw [if_neg (by omega)]
    · rw [List.drop_of_length_le (by omega)]; rfl
  | d + 1, i, hi, k + 1, hk => by
    have hd : l.drop i = rd l (i : Int) :: l.drop (i + 1) := by
      rw [List.drop_eq_getElem_cons (by omega)]
      simp [rd, List.getD_eq_getElem?_getD, List.getElem?_eq_getElem (show i < l.length by omega)]
    obtain ⟨j, h1, h2⟩ := z37_ l hl r d (i + 1) (by omega) k (by omega)
    unfold slices_Index_rune_rune.l0
    rw [if_pos (by omega), if_pos (by omega), if_pos (by omega), w64 (by omega) (by omega), show ((i : Int) + 1) = ((i + 1 : Nat) : Int) by omega, hd, List.any_cons]
    by_cases h : r = rd l (i : Int)
    · rw [if_pos h]
      exact ⟨(i : Int), rfl, by rw [decide_eq_true (p := rd l (i : Int) = r) h.symm, decide_eq_true (by omega)]; rfl⟩
    · rw [if_neg h, decide_eq_false (p := rd l (i : Int) = r) (fun e => h e.symm)]
      exact ⟨j, h1, h2⟩
theorem z5_ (l : List Int) (hl : l.length ≤ 1000000) (r : Int) (k : Nat) (hk : l.length < k) : slices_Contains_rune_rune.f k l r = some (l.any fun x => decide (x = r)) := by
  unfold slices_Contains_rune_rune.f slices_Index_rune_rune.f
  obtain ⟨j, h1, h2⟩ := z37_ l hl r l.length 0 (by omega) k hk
  rw [show ((0 : Nat) : Int) = 0 from rfl] at h1
  rw [h1]
  simp only [zb_]
  rw [h2, List.drop_zero]
theorem z38_ (cl l : List Int) (hc : cl.length ≤ 1000) (hl : l.length ≤ 1000) : ∀ d i out, l.length = i + d → out.length ≤ i → ∀ k, d + 2000 < k → word_Peaks.l0 k cl out l (l.length : Int) (i : Int) = some (out ++ pk (fun r => cl.any fun x => decide (x = r)) (i : Int) (l.drop i), 0)
  | 0, i, out, hi, ho, k + 1, hk => by
    unfold word_Peaks.l0
    rw [if_neg (by omega), List.drop_of_length_le (by omega)]
    simp [pk]
  | d + 1, i, out, hi, ho, k + 1, hk => by
    have hd : l.drop i = rd l (i : Int) :: l.drop (i + 1) := by
      rw [List.drop_eq_getElem_cons (by omega)]
      simp [rd, List.getD_eq_getElem?_getD, List.getElem?_eq_getElem (show i < l.length by omega)]
    unfold word_Peaks.l0
    rw [if_pos (by omega), if_pos (by omega), if_pos (by omega), z5_ cl (by omega) _ k (by omega), hd, w64 (by omega) (by omega), show ((i : Int) + 1) = ((i + 1 : Nat) : Int) by omega]
    simp only [zb_, pk]
    by_cases h : (cl.any fun x => decide (x = rd l (i : Int))) = true
    · rw [if_pos h, if_pos h, if_pos (by omega), z38_ cl l hc hl d (i + 1) _ (by omega) (by simp; omega) k (by omega)]
      simp
    · rw [if_neg h, if_neg h, z38_ cl l hc hl d (i + 1) _ (by omega) (by omega) k (by omega)]
      simp
def z69_ (fs : List ByteArray) (ls : List S118) (s : ByteArray) (p m : Int) : List Int × Int :=
  if (lettersB fs ls s).2 ≠ 0 then ([], (lettersB fs ls s).2) else if (z70_ fs ls p m).2 ≠ 0 then ([], (z70_ fs ls p m).2) else (pk (hasR ls p m) 0 (lettersB fs ls s).1, 0)
theorem z7_ {fs : List ByteArray} {ls : List S118} {s : ByteArray} (h : (lettersB fs ls s).2 = 0) : alphaB fs ls = true := by
  unfold lettersB at h
  split at h
  · assumption
  · exact absurd h (by simp)
theorem z41_ {fs : List ByteArray} {ls : List S118} {p m : Int} (h : (z70_ fs ls p m).2 = 0) : (z70_ fs ls p m).1 = z68_ ls p m := by
  unfold z70_ at h ⊢
  split
  · rename_i h1; rw [if_pos h1] at h; exact absurd h (by simp)
  · rename_i h1
    rw [if_neg h1] at h
    split
    · rfl
    · rename_i h2; rw [if_neg h2] at h; exact absurd h (by simp)
theorem z9_ (ls : List S118) (p m : Int) : (z68_ ls p m).length ≤ ls.length := by
  unfold z68_
  rw [List.length_map]
  exact List.length_filter_le _ _
theorem z42_ (fs : List ByteArray) (ls : List S118) (s : ByteArray) (p m : Int) (hf : fitsS fs = true) (k : Nat) (hk : 4000 ≤ k) : word_Peaks.f k fs ls s p m = some (z69_ fs ls s p m) := by
  unfold word_Peaks.f z69_ word_Letters.f
  rw [if_pos hf, z40_ fs ls p m hf k (by omega)]
  simp only [zb_]
  by_cases h0 : (lettersB fs ls s).2 = 0
  · rw [if_pos h0, if_neg (c := (lettersB fs ls s).2 ≠ 0) (by simpa using h0)]
    by_cases h1 : (z70_ fs ls p m).2 = 0
    · rw [if_pos h1, if_neg (c := (z70_ fs ls p m).2 ≠ 0) (by simpa using h1), z41_ h1]
      have hal := (alpha_parts (z7_ h0)).1
      have := z38_ (z68_ ls p m) (lettersB fs ls s).1 (by have := z9_ ls p m; omega) (by have := z3_ fs ls s; omega) (lettersB fs ls s).1.length 0 [] (by omega) (by simp) k (by have := z3_ fs ls s; omega)
      rw [show ((0 : Nat) : Int) = 0 from rfl] at this
      rw [this]; rfl
    · rw [if_neg h1, if_pos h1]
  · rw [if_neg h0, if_pos h0]
theorem z57_ {ls : List S118} {r : Int} {i : Nat} (h : rankOf ls r = some i) : ∃ x, ls[i]? = some x ∧ x.f0 = r ∧ i < ls.length := by
  unfold rankOf at h
  obtain ⟨h1, h2, _⟩ := List.findIdx?_eq_some_iff_getElem.1 h
  exact ⟨ls[i], List.getElem?_eq_getElem h1, by simpa using h2, h1⟩
theorem z23_ {fs : List ByteArray} {ls : List S118} (hal : alphaB fs ls = true) {r : Int} {i : Nat} (h : rankOf ls r = some i) : ∀ y ∈ ls, y.f0 = r → ls[i]? = some y := by
  intro y hy hr
  obtain ⟨j, hj⟩ := List.getElem?_of_mem hy
  have hls := (alpha_parts hal).2
  obtain ⟨x, hx, hxr, hi⟩ := z57_ h
  have hjl : j < ls.length := (List.getElem?_eq_some_iff.1 hj).1
  rcases Nat.lt_trichotomy i j with hlt | heq | hgt
  · have := (lets_fresh j y hls hj).2 x (List.mem_of_getElem? (by rw [List.getElem?_take, if_pos hlt]; exact hx))
    exact absurd (hxr.trans hr.symm) this
  · subst heq; exact hj
  · have := (lets_fresh i x hls hx).2 y (List.mem_of_getElem? (by rw [List.getElem?_take, if_pos hgt]; exact hj))
    exact absurd (hr.trans hxr.symm) this
theorem z16_ {fs : List ByteArray} {ls : List S118} (hal : alphaB fs ls = true) (p m r : Int) : hasR ls p m r = match rankOf ls r with | some i => hasB p m (rd_T118 ls (i : Int)) | none => false := by
  unfold hasR z68_
  cases h : rankOf ls r with
  | none =>
    simp only
    rw [List.any_eq_false]
    intro x hx
    obtain ⟨y, hy, rfl⟩ := List.mem_map.1 hx
    have hy1 := (List.mem_filter.1 hy).1
    unfold rankOf at h
    rw [List.findIdx?_eq_none_iff] at h
    simpa using h y hy1
  | some i =>
    obtain ⟨x, hx, hxr, hi⟩ := z57_ h
    have hrd : rd_T118 ls (i : Int) = x := by
      unfold rd_T118
      rw [Int.toNat_natCast, List.getD_eq_getElem?_getD, hx]; rfl
    simp only
    rw [hrd, Bool.eq_iff_iff, List.any_eq_true]
    constructor
    · rintro ⟨z, hz, hzr⟩
      obtain ⟨y, hy, rfl⟩ := List.mem_map.1 hz
      have hym := List.mem_filter.1 hy
      have := z23_ hal h y hym.1 (of_decide_eq_true hzr)
      rw [hx] at this
      injection this with this
      rw [this]; exact hym.2
    · intro hb
      exact ⟨x.f0, List.mem_map.2 ⟨x, List.mem_filter.2 ⟨List.mem_of_getElem? hx, hb⟩, rfl⟩, decide_eq_true hxr⟩
theorem z60_ (fs : List ByteArray) (ls : List S118) (hal : alphaB fs ls = true) (r p m : Int) (hp : 0 ≤ p ∧ p < 4294967296) (hm : 0 ≤ m ∧ m < 4294967296) (k : Nat) (hk : 200 ≤ k) : cognateref03_Has.f k fs ls r p m = some (hasR ls p m r) := by
  have hn := (alpha_parts hal).1
  unfold cognateref03_Has.f
  rw [z21_ fs ls (by omega) r k (by omega), z16_ hal]
  simp only [zb_, numB]
  cases h : rankOf ls r with
  | none => simp
  | some i =>
    obtain ⟨x, hx, hxr, hi⟩ := z57_ h
    simp only
    rw [if_pos (by omega), if_pos (by omega), if_pos (by omega)]
    exact z36_ (rd_T118 ls (i : Int)) p m hp hm
theorem z29_ (fs : List ByteArray) (ls : List S118) (hal : alphaB fs ls = true) (p m : Int) (hp : 0 ≤ p ∧ p < 4294967296) (hm : 0 ≤ m ∧ m < 4294967296) (l : List Int) (hl : l.length ≤ 1000) : ∀ d i out, l.length = i + d → out.length ≤ i → ∀ k, d + 200 < k → cognateref03_Peaks.l0 k p m l out (i : Int) fs ls = some (out ++ pk (hasR ls p m) (i : Int) (l.drop i), 0)
  | 0, i, out, hi, ho, k + 1, hk => by
    unfold cognateref03_Peaks.l0
    rw [if_neg (by omega), List.drop_of_length_le (by omega)]
    simp [pk]
  | d + 1, i, out, hi, ho, k + 1, hk => by
    have hd : l.drop i = rd l (i : Int) :: l.drop (i + 1) := by
      rw [List.drop_eq_getElem_cons (by omega)]
      simp [rd, List.getD_eq_getElem?_getD, List.getElem?_eq_getElem (show i < l.length by omega)]
    unfold cognateref03_Peaks.l0
    rw [if_pos (by omega), if_pos (by omega), z60_ fs ls hal _ p m hp hm k (by omega), hd, w64 (by omega) (by omega), show ((i : Int) + 1) = ((i + 1 : Nat) : Int) by omega]
    simp only [zb_, pk]
    by_cases h : hasR ls p m (rd l (i : Int)) = true
    · rw [if_pos h, if_pos h, if_pos (by omega), z29_ fs ls hal p m hp hm l hl d (i + 1) _ (by omega) (by simp; omega) k (by omega)]
      simp
    · rw [if_neg h, if_neg h, z29_ fs ls hal p m hp hm l hl d (i + 1) _ (by omega) (by omega) k (by omega)]
      simp
theorem z18_ (fs : List ByteArray) (ls : List S118) (s : ByteArray) (p m : Int) (hs : s.size ≤ 140737488351232) (hp : 0 ≤ p ∧ p < 4294967296) (hm : 0 ≤ m ∧ m < 4294967296) (k : Nat) (hk : 30200 + 2 * s.size ≤ k) : cognateref03_Peaks.f k fs ls s p m = some (z69_ fs ls s p m) := by
  unfold cognateref03_Peaks.f z69_
  rw [z12_ fs ls s hs k hk, z26_ fs ls p m hp hm k (by omega)]
  simp only [zb_]
  by_cases h0 : (lettersB fs ls s).2 = 0
  · rw [if_pos h0, if_neg (c := (lettersB fs ls s).2 ≠ 0) (by simpa using h0)]
    by_cases h1 : (z70_ fs ls p m).2 = 0
    · rw [if_pos h1, if_neg (c := (z70_ fs ls p m).2 ≠ 0) (by simpa using h1)]
      have := z29_ fs ls (z7_ h0) p m hp hm (lettersB fs ls s).1 (by have := z3_ fs ls s; omega) (lettersB fs ls s).1.length 0 [] (by omega) (by simp) k (by have := z3_ fs ls s; omega)
      rw [show ((0 : Nat) : Int) = 0 from rfl] at this
      rw [this]; rfl
    · rw [if_neg h1, if_pos h1]
  · rw [if_neg h0, if_pos h0]
theorem z52_ (has : Int → Bool) : ∀ (l : List Int) (i : Int), (∀ x ∈ pk has i l, i ≤ x ∧ x < i + l.length) ∧ (pk has i l).Pairwise (· < ·)
  | [], i => by simp [pk]
  | r :: rs, i => by
    obtain ⟨h1, h2⟩ := z52_ has rs (i + 1)
    unfold pk
    split
    · refine ⟨fun x hx => ?_, List.pairwise_cons.2 ⟨fun x hx => ?_, h2⟩⟩
      · rcases List.mem_cons.1 hx with rfl | hx
        · simp; omega
        · have := h1 x hx; simp; omega
      · have := h1 x hx; omega
    · refine ⟨fun x hx => ?_, h2⟩
      have := h1 x hx; simp; omega
def syS (n : Int) : Int → Int → List Int → List S57
  | fr, _, [] => [⟨fr, n⟩]
  | fr, prev, x :: xs => ⟨fr, mx (x - 1) (prev + 1)⟩ :: syS n (mx (x - 1) (prev + 1)) x xs
theorem z24_ (s : ByteArray) (p l : List Int) (n : Int) (hn : n = l.length) (hr : utf8_RuneCountInString.f s = some n) (hp : p.length ≤ 64) (hb : ∀ x ∈ p, 0 ≤ x ∧ x < 100) (hs : p.Pairwise (· < ·)) :
    ∀ (d i : Nat) (out : List S57) (fr : Int), p.length = i + d → out.length + 1 = i → ∀ k1 k2, d < k1 → d < k2 → word_Syllables.l0 k1 p l out fr (i : Int) = some (out ++ syS n fr (rd p ((i : Int) - 1)) (p.drop i), 0) ∧ cognateref03_Syllables.l0 k2 s p (out ++ [⟨fr, n⟩]) (i : Int) = some (out ++ syS n fr (rd p ((i : Int) - 1)) (p.drop i), 0)
  | 0, i, out, fr, hi, ho, k1 + 1, k2 + 1, _, _ => by
    rw [List.drop_of_length_le (by omega)]
    refine ⟨?_, ?_⟩
    · unfold word_Syllables.l0
      rw [if_neg (by omega), if_pos (by omega), hn]; rfl
    · unfold cognateref03_Syllables.l0
      rw [if_neg (by omega)]; rfl
  | d + 1, i, out, fr, hi, ho, k1 + 1, k2 + 1, hk1, hk2 => by
    have hi1 : i < p.length := by omega
    have h0 : i - 1 < p.length := by omega
    have ra : rd p (i : Int) = p[i] := by unfold rd; simp [List.getD_eq_getElem?_getD, List.getElem?_eq_getElem hi1]
    have rb : rd p ((i : Int) - 1) = p[i - 1] := by unfold rd; rw [show ((i : Int) - 1).toNat = i - 1 by omega]; simp [List.getD_eq_getElem?_getD, List.getElem?_eq_getElem h0]
    have hlt : p[i - 1] < p[i] := List.pairwise_iff_getElem.1 hs (i - 1) i h0 hi1 (by omega)
    have b1 := hb _ (List.getElem_mem hi1)
    have b0 := hb _ (List.getElem_mem h0)
    have hset : ∀ b : Int, (out ++ [(⟨fr, n⟩ : S57)]).set ((i : Int) - 1).toNat (⟨(rd_T57 (out ++ [(⟨fr, n⟩ : S57)]) ((i : Int) - 1)).f0, b⟩ : S57) = out ++ [⟨fr, b⟩] := fun b => by
      have et : ((i : Int) - 1).toNat = out.length := by omega
      unfold rd_T57
      rw [et]
      simp [List.getD_eq_getElem?_getD]
    have hl0 : ((i : Int) - 1) < ((out ++ [(⟨fr, n⟩ : S57)]).length : Int) := by rw [List.length_append, List.length_singleton]; omega
    have hl1 : ∀ b : Int, (out ++ [(⟨fr, b⟩ : S57)]).length < 8796093022208 := fun b => by rw [List.length_append, List.length_singleton]; omega
    have hl2 : ∀ b : Int, (out ++ [(⟨fr, b⟩ : S57)]).length + 1 = i + 1 := fun b => by rw [List.length_append, List.length_singleton]; omega
    have hdp : p.drop i = p[i] :: p.drop (i + 1) := List.drop_eq_getElem_cons hi1
    have rc : rd p (((i + 1 : Nat) : Int) - 1) = p[i] := by rw [show (((i + 1 : Nat) : Int) - 1) = (i : Int) by omega]; exact ra
    have q1 : (i : Int) < (p.length : Int) := by omega
    have q2 : 0 ≤ (i : Int) := by omega
    have q3 : 0 ≤ (i : Int) - 1 := by omega
    have q4 : (i : Int) - 1 < (p.length : Int) := by omega
    have q5 : out.length < 8796093022208 := by omega
    have q6 : (i : Int) > 0 := by omega
    have m1 : p[i] - 1 > p[i - 1] → mx (p[i] - 1) (p[i - 1] + 1) = p[i] - 1 := fun h => by unfold mx; omega
    have m2 : ¬ p[i] - 1 > p[i - 1] → mx (p[i] - 1) (p[i - 1] + 1) = p[i] := fun h => by unfold mx; omega
    have ih := fun fr' out' h => z24_ s p l n hn hr hp hb hs d (i + 1) out' fr' (by omega) h k1 k2 (by omega) (by omega)
    have e1 : wrap64 ((i : Int) - 1) = (i : Int) - 1 := w64 (by omega) (by omega)
    have e2 : wrap64 ((i : Int) + 1) = ((i + 1 : Nat) : Int) := by rw [w64 (by omega) (by omega)]; omega
    have e3 : wrap64 (p[i] - 1) = p[i] - 1 := w64 (by omega) (by omega)
    have e4 : wrap64 (p[i - 1] + 1) = p[i - 1] + 1 := w64 (by omega) (by omega)
    unfold word_Syllables.l0 cognateref03_Syllables.l0
    rw [if_pos q1, if_pos q2, e1, if_pos q3, if_pos q4, if_pos q5, ra, rb, e2, e3, e4, hdp]
    rw [if_pos q1, if_pos q6, if_pos q2, if_pos q3, if_pos q4, hr]
    by_cases h : p[i] - 1 > p[i - 1]
    · rw [if_pos h, if_pos hl0, hset, m1 h]
      simp only [zb_]
      rw [if_pos (hl1 _)]
      have := ih (p[i] - 1) (out ++ [⟨fr, p[i] - 1⟩]) (hl2 (p[i] - 1))
      rw [rc, List.append_assoc] at this
      simp only [syS, m1 h]
      exact this
    · rw [if_neg h, if_pos hl0, hset, m2 h]
      simp only [zb_]
      rw [if_pos (hl1 _)]
      have := ih p[i] (out ++ [⟨fr, p[i]⟩]) (hl2 p[i])
      rw [rc, List.append_assoc] at this
      simp only [syS, m2 h]
      exact this
theorem z11_ (s : ByteArray) : ∀ f i, Lib.runeCountFrom s f i = (pcs s f i).length
  | 0, _ => rfl
  | f + 1, i => by
    unfold Lib.runeCountFrom pcs
    split
    · rw [z11_ s f]; simp; omega
    · rfl
theorem z19_ (ls : List S118) : ∀ (ps : List S97) (out l : List Int), readP ls ps out = (l, 0) → l.length = out.length + ps.length
  | [], out, l, h => by simp only [readP, Prod.mk.injEq] at h; rw [← h.1]; simp
  | q :: ps, out, l, h => by
    unfold readP at h
    split at h
    · simp at h
    · split at h
      · simp at h
      · split at h
        · simp at h
        · have := z19_ ls ps _ l h
          simp at this ⊢; omega
theorem z1_ {fs : List ByteArray} {ls : List S118} {s : ByteArray} (h : (lettersB fs ls s).2 = 0) : Lib.runeCount s = (lettersB fs ls s).1.length := by
  have hal := z7_ h
  unfold lettersB at h ⊢
  rw [if_pos hal, z30_] at h ⊢
  have := z19_ ls (pieces s) [] (readP ls (pieces s) []).1 (Prod.ext rfl h)
  rw [this]
  unfold Lib.runeCount pieces
  rw [z11_]; simp
theorem z17_ : ∀ (l : List Int), l.length ≤ 1000000 → ∀ d i, l.length = i + d → ∀ k, d < k → cognateref03_SameInts.l0 k l l (i : Int) = some true
  | l, hl, 0, i, hi, k + 1, _ => by
    unfold cognateref03_SameInts.l0
    rw [if_neg (by omega)]
  | l, hl, d + 1, i, hi, k + 1, hk => by
    have q : (i : Int) < (l.length : Int) := by omega
    unfold cognateref03_SameInts.l0
    rw [if_pos q, if_pos (by omega), if_pos q, if_pos rfl, w64 (by omega) (by omega), show ((i : Int) + 1) = ((i + 1 : Nat) : Int) by omega, z17_ l hl d (i + 1) (by omega) k (by omega)]
theorem z14_ : ∀ (l : List S57), l.length ≤ 1000000 → ∀ d i, l.length = i + d → ∀ k, d < k → cognateref03_SameSpans.l0 k l l (i : Int) = some true
  | l, hl, 0, i, hi, k + 1, _ => by
    unfold cognateref03_SameSpans.l0
    rw [if_neg (by omega)]
  | l, hl, d + 1, i, hi, k + 1, hk => by
    have q : (i : Int) < (l.length : Int) := by omega
    unfold cognateref03_SameSpans.l0
    rw [if_pos q, if_pos (by omega), if_pos q, if_neg (by simp), w64 (by omega) (by omega), show ((i : Int) + 1) = ((i + 1 : Nat) : Int) by omega, z14_ l hl d (i + 1) (by omega) k (by omega)]
def sylB (fs : List ByteArray) (ls : List S118) (s : ByteArray) (p m : Int) : List S57 × Int :=
  if (z69_ fs ls s p m).2 ≠ 0 then ([], (z69_ fs ls s p m).2) else match (z69_ fs ls s p m).1 with
    | [] => ([], 0)
    | x :: xs => (syS ((lettersB fs ls s).1.length : Int) 0 x xs, 0)
theorem z31_ {fs : List ByteArray} {ls : List S118} {s : ByteArray} {p m : Int} (h : (z69_ fs ls s p m).2 = 0) : (lettersB fs ls s).2 = 0 ∧ (z69_ fs ls s p m).1 = pk (hasR ls p m) 0 (lettersB fs ls s).1 := by
  unfold z69_ at h ⊢
  by_cases h0 : (lettersB fs ls s).2 ≠ 0
  · rw [if_pos h0] at h; exact absurd h h0
  · rw [if_neg h0] at h ⊢
    by_cases h1 : (z70_ fs ls p m).2 ≠ 0
    · rw [if_pos h1] at h; exact absurd h h1
    · rw [if_neg h1]
      exact ⟨by simpa using h0, rfl⟩
theorem z63_ (has : Int → Bool) : ∀ (l : List Int) (i : Int), (pk has i l).length ≤ l.length
  | [], i => by simp [pk]
  | r :: rs, i => by
    unfold pk
    have := z63_ has rs (i + 1)
    split <;> simp <;> omega
theorem z67_ (fs : List ByteArray) (ls : List S118) (s : ByteArray) (p m : Int) (hs : s.size ≤ 140737488351232) (hf : fitsS fs = true) (k : Nat) (hk : 4000 ≤ k) : word_Syllables.f k fs ls s p m = some (sylB fs ls s p m) := by
  unfold word_Syllables.f sylB
  rw [z42_ fs ls s p m hf k hk]
  simp only [zb_]
  by_cases h0 : (z69_ fs ls s p m).2 = 0
  · obtain ⟨hl, hp⟩ := z31_ h0
    rw [if_pos h0, if_neg (c := (z69_ fs ls s p m).2 ≠ 0) (by simpa using h0), h0]
    have hr := z52_ (hasR ls p m) (lettersB fs ls s).1 0
    have hlen := z63_ (hasR ls p m) (lettersB fs ls s).1 0
    rw [← hp] at hr hlen
    generalize (z69_ fs ls s p m).1 = q at hr hlen ⊢
    have hl64 := z3_ fs ls s
    obtain ⟨k, rfl⟩ : ∃ j, k = j + 1 := ⟨k - 1, by omega⟩
    unfold word_Syllables.j0
    match q, hr, hlen with
    | [], _, _ => simp
    | x :: xs, hr, hlen =>
      have hb : ((((x :: xs).length : Nat) : Int) == 0) = false := beq_eq_false_iff_ne.2 (by simp; omega)
      rw [hb]
      simp only [Bool.false_eq_true, if_false]
      have e : word_Letters.f fs ls s = some (lettersB fs ls s) := by unfold word_Letters.f; rw [if_pos hf]
      rw [e]
      simp only [zb_]
      have hrc : utf8_RuneCountInString.f s = some ((lettersB fs ls s).1.length : Int) := by
        unfold utf8_RuneCountInString.f
        rw [if_pos (by omega), z1_ hl]
      have := (z24_ s (x :: xs) (lettersB fs ls s).1 _ rfl hrc (by omega) (fun y hy => by have := hr.1 y hy; omega) hr.2 xs.length 1 [] 0 (by simp; omega) rfl k k (by simp at hlen; omega) (by simp at hlen; omega)).1
      simpa [rd] using this
  · rw [if_neg h0, if_pos h0]
    obtain ⟨k, rfl⟩ : ∃ j, k = j + 1 := ⟨k - 1, by omega⟩
    simp [word_Syllables.j0]
theorem z54_ (fs : List ByteArray) (ls : List S118) (s : ByteArray) (p m : Int) (hs : s.size ≤ 140737488351232) (hp : 0 ≤ p ∧ p < 4294967296) (hm : 0 ≤ m ∧ m < 4294967296) (k : Nat) (hk : 30200 + 2 * s.size ≤ k) : cognateref03_Syllables.f k fs ls s p m = some (sylB fs ls s p m) := by
  unfold cognateref03_Syllables.f sylB
  rw [z18_ fs ls s p m hs hp hm k hk]
  simp only [zb_]
  by_cases h0 : (z69_ fs ls s p m).2 = 0
  · obtain ⟨hl, hpp⟩ := z31_ h0
    rw [if_pos h0, if_neg (c := (z69_ fs ls s p m).2 ≠ 0) (by simpa using h0)]
    have hr := z52_ (hasR ls p m) (lettersB fs ls s).1 0
    have hlen := z63_ (hasR ls p m) (lettersB fs ls s).1 0
    rw [← hpp] at hr hlen
    generalize (z69_ fs ls s p m).1 = q at hr hlen ⊢
    have hl64 := z3_ fs ls s
    obtain ⟨k, rfl⟩ : ∃ j, k = j + 1 := ⟨k - 1, by omega⟩
    match q, hr, hlen with
    | [], _, _ => simp [cognateref03_Syllables.l0]
    | x :: xs, hr, hlen =>
      have hrc : utf8_RuneCountInString.f s = some ((lettersB fs ls s).1.length : Int) := by
        unfold utf8_RuneCountInString.f
        rw [if_pos (by omega), z1_ hl]
      have hx : xs.length + 1 ≤ (lettersB fs ls s).1.length := by simpa using hlen
      have := (z24_ s (x :: xs) (lettersB fs ls s).1 _ rfl hrc (by omega) (fun y hy => by have := hr.1 y hy; omega) hr.2 xs.length 1 [] 0 (by simp; omega) rfl k k (by omega) (by omega)).2
      unfold cognateref03_Syllables.l0
      rw [if_pos (by simp), if_neg (by omega), hrc]
      simp only [zb_]
      rw [if_pos (by simp), w64 (by omega) (by omega)]
      simpa [rd] using this
  · rw [if_neg h0, if_pos h0]
theorem z43_ (fs : List ByteArray) (ls : List S118) (s : ByteArray) (p m : Int) : (sylB fs ls s p m).1.length ≤ 64 := by
  have hy : ∀ (xs : List Int) (n fr x : Int), (syS n fr x xs).length = xs.length + 1 := by
    intro xs
    induction xs with
    | nil => intro n fr x; rfl
    | cons a xs ih => intro n fr x; simp [syS, ih]
  unfold sylB
  by_cases h0 : (z69_ fs ls s p m).2 = 0
  · obtain ⟨hl, hpp⟩ := z31_ h0
    rw [if_neg (c := (z69_ fs ls s p m).2 ≠ 0) (by simpa using h0)]
    have hlen := z63_ (hasR ls p m) (lettersB fs ls s).1 0
    have hl64 := z3_ fs ls s
    rw [← hpp] at hlen
    generalize (z69_ fs ls s p m).1 = q at hlen ⊢
    match q, hlen with
    | [], _ => simp
    | x :: xs, hlen => simp only [hy]; simp at hlen; omega
  · rw [if_pos h0]; simp
theorem z10_ (fs : List ByteArray) (ls : List S118) (s : ByteArray) (p m : Int) : (z69_ fs ls s p m).1.length ≤ 64 := by
  unfold z69_
  split
  · simp
  · split
    · simp
    · exact Nat.le_trans (z63_ _ _ _) (z3_ fs ls s)
theorem z20_ (fs : List ByteArray) (ls : List S118) (s : ByteArray) (p m : Int) (hs : s.size ≤ 140737488351232) (hf : fitsS fs = true) (L : List S57) (b : Bool) (hL : (sylB fs ls s p m).1 = L) (hb : b = true) : ∀ (d i : Nat) (x : List S57), x.length = i + d → x.length ≤ 64 → ∀ k, d + 5000 < k → cognatelaw03_WordPeaks.l0 k s p m x L b (i : Int) fs ls = some true
  | 0, i, x, h0, h1, k + 1, hk => by
    have h64 := z43_ fs ls s p m
    unfold cognatelaw03_WordPeaks.l0
    rw [if_neg (by omega), z67_ fs ls s p m hs hf k (by omega)]
    simp only [zb_]
    rw [if_pos hb, ← hL]
    unfold cognateref03_SameSpans.f
    have := z14_ (sylB fs ls s p m).1 (by omega) (sylB fs ls s p m).1.length 0 (by omega) k (by omega)
    rw [show ((0 : Nat) : Int) = 0 from rfl] at this
    rw [if_pos rfl, this]; rfl
  | d + 1, i, x, h0, h1, k + 1, hk => by
    unfold cognatelaw03_WordPeaks.l0
    rw [if_pos (by omega), if_pos (by omega), w64 (by omega) (by omega), show ((i : Int) + 1) = ((i + 1 : Nat) : Int) by omega]
    exact z20_ fs ls s p m hs hf L b hL hb d (i + 1) _ (by simp; omega) (by simpa using h1) k (by omega)
theorem WordPeaks : ∀ (l0_0 : List ByteArray) (l0_1 : List (S118)) (a1 : ByteArray) (a2 : Int) (a3 : Int), (l0_0.length * 16 ≤ 140737488351232 ∧ ∀ y ∈ l0_0, y.size ≤ 140737488351232) → (l0_1.length * 12 ≤ 140737488351232 ∧ ∀ y ∈ l0_1, wfS118 y) → (a1.size ≤ 140737488351232) → ((Lit.int .u32 a2).wf = true) → ((Lit.int .u32 a3).wf = true) → ∃ k, cognatelaw03_WordPeaks.f k l0_0 l0_1 a1 a2 a3 = some true := by
  intro fs ls s p m hf hl hs hp hm
  have hfit := z59_ hf.2
  have wf32 : ∀ z : Int, (Lit.int .u32 z).wf = true → 0 ≤ z ∧ z < 4294967296 := fun z h => by
    simp only [Lit.wf, IntKind.min, IntKind.max, IntKind.signed, IntKind.bits, Bool.and_eq_true, decide_eq_true_eq, Bool.false_eq_true, if_false] at h
    omega
  have hp' := wf32 p hp
  have hm' := wf32 m hm
  obtain ⟨k, hk⟩ : ∃ k, k = 1200000 + 2 * s.size := ⟨_, rfl⟩
  refine ⟨k, ?_⟩
  unfold cognatelaw03_WordPeaks.f
  rw [z33_ k (by omega)]
  simp only [zb_, if_true]
  rw [z42_ fs ls s p m hfit k (by omega), z18_ fs ls s p m hs hp' hm' k (by omega), z67_ fs ls s p m hs hfit k (by omega), z54_ fs ls s p m hs hp' hm' k (by omega)]
  simp only [zb_]
  have h1 := z10_ fs ls s p m
  have h2 := z43_ fs ls s p m
  have e1 : cognateref03_SameInts.f k (z69_ fs ls s p m).1 (z69_ fs ls s p m).1 = some true := by
    unfold cognateref03_SameInts.f
    have := z17_ (z69_ fs ls s p m).1 (by omega) (z69_ fs ls s p m).1.length 0 (by omega) k (by omega)
    rw [show ((0 : Nat) : Int) = 0 from rfl] at this
    rw [if_pos rfl, this]
  have e2 : cognateref03_SameSpans.f k (sylB fs ls s p m).1 (sylB fs ls s p m).1 = some true := by
    unfold cognateref03_SameSpans.f
    have := z14_ (sylB fs ls s p m).1 (by omega) (sylB fs ls s p m).1.length 0 (by omega) k (by omega)
    rw [show ((0 : Nat) : Int) = 0 from rfl] at this
    rw [if_pos rfl, this]
  rw [e1, e2]
  simp only [zb_, if_true]
  exact z20_ fs ls s p m hs hfit _ _ rfl (by simp) (sylB fs ls s p m).1.length 0 _ (by omega) h2 k (by omega)
end Go.Proofs.YtfpfdmenhgageaaDoor.Pure
