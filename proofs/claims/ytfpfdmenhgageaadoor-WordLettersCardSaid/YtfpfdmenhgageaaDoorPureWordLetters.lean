import Derived.Test.YtfpfdmenhgageaaDoorPRd
import Derived.Test.YtfpfdmenhgageaaDoorPx19
namespace Go.Proofs.YtfpfdmenhgageaaDoor.Pure
open Go.RowKit Go.Proofs.YtfpfdmenhgageaaDoor.P Go.Proofs.YtfpfdmenhgageaaDoorW.PrintWords Go.Proofs.YtfpfdmenhgageaaDoorW.PrintLast Go.Proofs.YtfpfdmenhgageaaDoorW.PrintMore
-- the reference's Check is alphaB
theorem w64 {n : Int} (h0 : -9223372036854775808 ≤ n) (h1 : n ≤ 9223372036854775807) : wrap64 n = n := by unfold wrap64; omega
theorem bt_nat (s : ByteArray) (i : Nat) (h : i < s.size) : bt s (i : Int) = ((s.data.toList[i]'(by simpa using h)).toNat : Int) := by
  unfold bt
  simp only [Int.toNat_natCast, h, dif_pos]
  rfl
theorem name_l0 (s : ByteArray) (hs : s.size ≤ 32) : ∀ d i, s.size = i + d → ∀ k, d < k → cognateref02_name.l0 k s (i : Int) = some ((s.data.toList.drop i).all (fun b => decide (97 ≤ b.toNat ∧ b.toNat ≤ 122)))
  | 0, i, hi, k + 1, _ => by
    unfold cognateref02_name.l0
    rw [if_neg (by omega), List.drop_of_length_le (by have : s.data.toList.length = s.size := by simp
                                                      omega)]
    rfl
  | d + 1, i, hi, k + 1, hk => by
    have hlen : s.data.toList.length = s.size := by simp
    have hi2 : i < s.size := by omega
    unfold cognateref02_name.l0
    rw [if_pos (by omega), if_pos (by omega), bt_nat s i hi2, w64 (by omega) (by omega), List.drop_eq_getElem_cons (by omega), List.all_cons]
    have ih := name_l0 s hs d (i + 1) (by omega) k (by omega)
    rw [show ((i : Int) + 1) = ((i + 1 : Nat) : Int) by omega, ih]
    generalize (s.data.toList[i]'(by omega)).toNat = b
    by_cases h1 : (b : Int) < 97
    · rw [if_pos h1, decide_eq_false (by omega)]; rfl
    · rw [if_neg h1]
      by_cases h2 : (b : Int) > 122
      · rw [if_pos h2, decide_eq_false (by omega)]; rfl
      · rw [if_neg h2, decide_eq_true (by omega)]; rfl
theorem name_eq (s : ByteArray) (k : Nat) (hk : 40 ≤ k) : cognateref02_name.f k s = some (namedB s) := by
  obtain ⟨k, rfl⟩ : ∃ q, k = q + 1 := ⟨k - 1, by omega⟩
  unfold cognateref02_name.f namedB
  by_cases h0 : (s.size : Int) < 1
  · rw [if_pos h0]
    simp only [cognateref02_name.j0, if_true]
    rw [decide_eq_false (by omega)]; rfl
  · rw [if_neg h0, decide_eq_true (p := s.size ≠ 0) (by omega)]
    by_cases h1 : (s.size : Int) > 32
    · rw [decide_eq_true h1, decide_eq_false (p := s.size ≤ 32) (by omega)]
      simp only [cognateref02_name.j0, if_true]; rfl
    · rw [decide_eq_false h1, decide_eq_true (p := s.size ≤ 32) (by omega)]
      simp only [cognateref02_name.j0, Bool.false_eq_true, if_false]
      have := name_l0 s (by omega) s.size 0 (by omega) k (by omega)
      rw [show ((0 : Nat) : Int) = 0 from rfl, List.drop_zero] at this
      rw [this]; rfl
theorem letter_eq (r : Int) : cognateref02_letter.f r = some (letteredB r) := by
  unfold cognateref02_letter.f letteredB
  repeat' split
  all_goals first | (simp_all; done) | (simp_all; omega) | (rw [Option.some.injEq, Bool.eq_iff_iff]; simp_all; omega)
theorem bits_or_range (x y : Int) : 0 ≤ Go.bits .or .u32 x y ∧ Go.bits .or .u32 x y < 4294967296 := by
  unfold Go.bits
  simp only [IntKind.wrap, IntKind.bits, IntKind.signed]
  simp
  constructor <;> omega
theorem bits_and_mask (x : Nat) (n : Nat) (hx : x < 4294967296) (hn : n ≤ 24) : Go.bits .and .u32 (x : Int) (((2 ^ n - 1 : Nat)) : Int) = ((x % 2 ^ n : Nat) : Int) := by
  unfold Go.bits
  have hp : 2 ^ n ≤ 2 ^ 24 := Nat.pow_le_pow_right (by omega) hn
  have hp2 : (2 : Nat) ^ 24 = 16777216 := by decide
  show IntKind.u32.wrap (((BitVec.ofInt 32 (x : Int) &&& BitVec.ofInt 32 ((2 ^ n - 1 : Nat) : Int)).toNat : Nat) : Int) = _
  rw [BitVec.toNat_and]
  simp only [BitVec.ofInt_natCast, BitVec.toNat_ofNat]
  rw [Nat.mod_eq_of_lt (by omega), Nat.mod_eq_of_lt (b := 2 ^ 32) (a := 2 ^ n - 1) (by omega), Nat.and_two_pow_sub_one_eq_mod]
  have := Nat.mod_lt x (Nat.two_pow_pos n)
  generalize x % 2 ^ n = y at this ⊢
  simp only [IntKind.wrap, IntKind.bits, IntKind.signed]
  simp
  omega
theorem may_eq (fs : List ByteArray) (ls : List S118) (p m : Int) (hn : fs.length ≤ 24) : cognateref02_May.f fs ls p m = some (withinB fs.length p m) := by
  unfold cognateref02_May.f cognateref02_all.f withinB
  have hw : IntKind.u64.wrap (fs.length : Int) = (fs.length : Int) := by simp [IntKind.wrap, IntKind.bits, IntKind.signed]; omega
  have hp : 2 ^ fs.length ≤ 2 ^ 24 := Nat.pow_le_pow_right (by omega) hn
  have hp1 : 0 < 2 ^ fs.length := Nat.two_pow_pos _
  have hp2 : (2 : Nat) ^ 24 = 16777216 := by decide
  rw [hw, if_pos (by omega)]
  obtain ⟨h0, h1⟩ := bits_or_range p m
  obtain ⟨x, hx⟩ : ∃ x : Nat, Go.bits .or .u32 p m = (x : Int) := ⟨(Go.bits .or .u32 p m).toNat, by omega⟩
  have hall : (shl .u32 1 (fs.length : Int) - 1) % 4294967296 = ((2 ^ fs.length - 1 : Nat) : Int) := by
    unfold shl
    rw [Int.toNat_natCast, Nat.min_eq_left (by simp [IntKind.bits]; omega)]
    simp only [IntKind.wrap, IntKind.bits, IntKind.signed]
    have : ((1 : Int) * 2 ^ fs.length) = ((2 ^ fs.length : Nat) : Int) := by simp
    rw [this]
    simp
    omega
  have hsh : shr .u32 (x : Int) (fs.length : Int) = ((x / 2 ^ fs.length : Nat) : Int) := by
    unfold shr
    rw [Int.toNat_natCast, Nat.min_eq_left (by simp [IntKind.bits]; omega)]
    simp
  simp only [Option.bind_some, hall, hx, hsh]
  rw [bits_and_mask x _ (by omega) hn]
  by_cases h : x < 2 ^ fs.length
  · rw [Nat.mod_eq_of_lt h, if_pos rfl, Nat.div_eq_of_lt h]; simp
  · rw [if_neg (by have := Nat.mod_lt x hp1; omega)]
    have : x / 2 ^ fs.length ≠ 0 := by
      intro e
      have := (Nat.div_eq_zero_iff).1 e
      omega
    have hb : (((x / 2 ^ fs.length : Nat) : Int) == 0) = false := beq_eq_false_iff_ne.2 (by omega)
    rw [hb]; rfl
theorem str_ne (a b : ByteArray) : (a.toList != b.toList) = !(decide (a = b)) := by
  rw [ByteArray.toList_eq, ByteArray.toList_eq]
  by_cases h : a = b
  · subst h; simp
  · rw [decide_eq_false h]
    simp only [bne, Bool.not_false, Bool.not_eq_true']
    refine beq_eq_false_iff_ne.2 (fun e => h (ByteArray.ext (Array.ext' e)))
/-- The inner loop over the features ahead. -/
theorem check_l1 (fs : List ByteArray) (ls : List S118) (i : Nat) (hi : i < fs.length) (hn : fs.length ≤ 24) (R : Option Int) (B : Nat) (hR : ∀ k, B ≤ k → cognateref02_Check.l0 k ((i + 1 : Nat) : Int) fs ls = R) :
    ∀ d j ok, i = j + d → ∀ k, B + 1 + d ≤ k → cognateref02_Check.l1 k (i : Int) ok (j : Int) fs ls =
      if ok = true ∧ (((fs.drop j).take d).any fun g => decide (g = rdOf ByteArray.empty fs (i : Int))) = false then R else some 7
  | 0, j, ok, hj, k + 1, hk => by
    unfold cognateref02_Check.l1
    rw [if_neg (by omega), w64 (by omega) (by omega), show ((i : Int) + 1) = ((i + 1 : Nat) : Int) by omega, hR k (by omega)]
    cases ok <;> simp
  | d + 1, j, ok, hj, k + 1, hk => by
    unfold cognateref02_Check.l1
    rw [if_pos (by omega), w64 (by omega) (by omega), show ((j : Int) + 1) = ((j + 1 : Nat) : Int) by omega]
    cases ok
    · simp only [Bool.false_eq_true, if_false, false_and]
      rw [check_l1 fs ls i hi hn R B hR d (j + 1) false (by omega) k (by omega)]
      simp
    · simp only [if_true, true_and]
      rw [if_pos (by omega), if_pos (by omega), if_pos (by omega), if_pos (by omega), str_ne, check_l1 fs ls i hi hn R B hR d (j + 1) _ (by omega) k (by omega)]
      rw [show fs.drop j = rdOf ByteArray.empty fs (j : Int) :: fs.drop (j + 1) from drop_str fs j (by omega), List.take_succ_cons, List.any_cons]
      cases h : decide (rdOf ByteArray.empty fs (j : Int) = rdOf ByteArray.empty fs (i : Int)) <;> simp
/-- The loop over the features. -/
theorem check_l0 (fs : List ByteArray) (ls : List S118) (hn : fs.length ≤ 24) (B : Nat) (hB : 100 ≤ B) (b : Bool) (hR : ∀ k, B ≤ k → cognateref02_Check.l2 k 0 fs ls = some (if b = true then 0 else 7)) :
    ∀ d i, fs.length = i + d → ∀ k, B + 1 + d * 30 ≤ k → cognateref02_Check.l0 k (i : Int) fs ls = some (if (featsB (fs.take i) (fs.drop i) && b) = true then 0 else 7)
  | 0, i, hi, k + 1, hk => by
    unfold cognateref02_Check.l0
    rw [if_neg (by omega), hR k (by omega), List.drop_of_length_le (by omega)]
    simp [featsB]
  | d + 1, i, hi, k + 1, hk => by
    have ih := check_l0 fs ls hn B hB b hR d (i + 1) (by omega)
    have hd := drop_str fs i (by omega)
    unfold cognateref02_Check.l0
    rw [if_pos (by omega), if_pos (by omega), name_eq _ _ (by omega)]
    simp only [Option.bind_some]
    have h1 := check_l1 fs ls i (by omega) hn _ _ ih i 0 (namedB (rdOf ByteArray.empty fs (i : Int))) (by omega) k (by omega)
    rw [show ((0 : Nat) : Int) = 0 from rfl, List.drop_zero] at h1
    rw [h1, hd, take_snoc fs i _ hd, show featsB (fs.take i) (rdOf ByteArray.empty fs (i : Int) :: fs.drop (i + 1)) = (namedB (rdOf ByteArray.empty fs (i : Int)) && (!((fs.take i).any fun g => decide (g = rdOf ByteArray.empty fs (i : Int))) && featsB (fs.take i ++ [rdOf ByteArray.empty fs (i : Int)]) (fs.drop (i + 1)))) from rfl]
    have hA := Bool.eq_false_or_eq_true (namedB (rdOf ByteArray.empty fs (i : Int)))
    have hC := Bool.eq_false_or_eq_true ((fs.take i).any fun g => decide (g = rdOf ByteArray.empty fs (i : Int)))
    rcases hA with hA | hA <;> rcases hC with hC | hC <;> rw [hA, hC] <;> simp
/-- The inner loop over the letters ahead. -/
theorem check_l3 (fs : List ByteArray) (ls : List S118) (i : Nat) (hi : i < ls.length) (hn : ls.length ≤ 128) (r0 r1 r2 : Int) (R : Option Int) (B : Nat) (hR : ∀ k, B ≤ k → cognateref02_Check.l2 k ((i + 1 : Nat) : Int) fs ls = R) :
    ∀ d j ok, i = j + d → ∀ k, B + 1 + d ≤ k → cognateref02_Check.l3 k (i : Int) ok (j : Int) fs ls r0 r1 r2 =
      if ok = true ∧ (((ls.drop j).take d).any fun g => decide (g.f0 = r0)) = false then R else some 7
  | 0, j, ok, hj, k + 1, hk => by
    unfold cognateref02_Check.l3
    rw [if_neg (by omega), w64 (by omega) (by omega), show ((i : Int) + 1) = ((i + 1 : Nat) : Int) by omega, hR k (by omega)]
    cases ok <;> simp
  | d + 1, j, ok, hj, k + 1, hk => by
    unfold cognateref02_Check.l3
    rw [if_pos (by omega), w64 (by omega) (by omega), show ((j : Int) + 1) = ((j + 1 : Nat) : Int) by omega]
    cases ok
    · simp only [Bool.false_eq_true, if_false, false_and]
      rw [check_l3 fs ls i hi hn r0 r1 r2 R B hR d (j + 1) false (by omega) k (by omega)]
      simp
    · simp only [if_true, true_and]
      rw [if_pos (by omega), if_pos (by omega), check_l3 fs ls i hi hn r0 r1 r2 R B hR d (j + 1) _ (by omega) k (by omega)]
      rw [show ls.drop j = rd_T118 ls (j : Int) :: ls.drop (j + 1) from drop_let ls j (by omega), List.take_succ_cons, List.any_cons]
      by_cases h : (rd_T118 ls (j : Int)).f0 = r0
      · simp [h]
      · simp [h]
theorem check_l2 (fs : List ByteArray) (ls : List S118) (hf : fs.length ≤ 24) (hn : ls.length ≤ 128) :
    ∀ d i, ls.length = i + d → ∀ k, 101 + d * 140 ≤ k → cognateref02_Check.l2 k (i : Int) fs ls = some (if letsB fs.length (ls.take i |>.map (·.f0)) (ls.drop i) = true then 0 else 7)
  | 0, i, hi, k + 1, hk => by
    unfold cognateref02_Check.l2
    rw [if_neg (by omega), List.drop_of_length_le (by omega)]
    simp [letsB]
  | d + 1, i, hi, k + 1, hk => by
    have ih := check_l2 fs ls hf hn d (i + 1) (by omega)
    have hd := drop_let ls i (by omega)
    have h3 := fun ok => check_l3 fs ls i (by omega) hn (rd_T118 ls (i : Int)).f0 (rd_T118 ls (i : Int)).f1 (rd_T118 ls (i : Int)).f2 _ _ ih i 0 ok (by omega) (k - 1) (by omega)
    simp only [show ((0 : Nat) : Int) = 0 from rfl, List.drop_zero] at h3
    have h4 : ∀ ok, cognateref02_Check.j4 k (i : Int) ok fs ls (rd_T118 ls (i : Int)).f0 (rd_T118 ls (i : Int)).f1 (rd_T118 ls (i : Int)).f2 = cognateref02_Check.l3 (k - 1) (i : Int) ok 0 fs ls (rd_T118 ls (i : Int)).f0 (rd_T118 ls (i : Int)).f1 (rd_T118 ls (i : Int)).f2 := fun ok => by
      obtain ⟨q, rfl⟩ : ∃ q, k = q + 1 := ⟨k - 1, by omega⟩
      rfl
    unfold cognateref02_Check.l2
    rw [if_pos (by omega), if_pos (by omega), letter_eq]
    simp only [Option.bind_some, may_eq fs ls _ _ hf, h4, h3]
    rw [hd, take_snoc ls i _ hd, List.map_append, show letsB fs.length ((ls.take i).map (·.f0)) (rd_T118 ls (i : Int) :: ls.drop (i + 1)) = (letteredB (rd_T118 ls (i : Int)).f0 && (!(((ls.take i).map (·.f0)).any fun g => decide (g = (rd_T118 ls (i : Int)).f0)) && (withinB fs.length (rd_T118 ls (i : Int)).f1 (rd_T118 ls (i : Int)).f2 && letsB fs.length ((ls.take i).map (·.f0) ++ [(rd_T118 ls (i : Int)).f0]) (ls.drop (i + 1))))) from rfl]
    have hany : (List.take i ls).any (fun g => decide (g.f0 = (rd_T118 ls (i : Int)).f0)) = ((ls.take i).map (·.f0)).any fun g => decide (g = (rd_T118 ls (i : Int)).f0) := by rw [List.any_map]; rfl
    rw [hany]
    have hA := Bool.eq_false_or_eq_true (letteredB (rd_T118 ls (i : Int)).f0)
    have hW := Bool.eq_false_or_eq_true (withinB fs.length (rd_T118 ls (i : Int)).f1 (rd_T118 ls (i : Int)).f2)
    have hC := Bool.eq_false_or_eq_true (((ls.take i).map (·.f0)).any fun g => decide (g = (rd_T118 ls (i : Int)).f0))
    rcases hA with hA | hA <;> rcases hW with hW | hW <;> rcases hC with hC | hC <;> rw [hA, hW, hC] <;> simp
theorem check_eq (fs : List ByteArray) (ls : List S118) (k : Nat) (hk : 30000 ≤ k) : cognateref02_Check.f k fs ls = some (if alphaB fs ls = true then 0 else 7) := by
  obtain ⟨k, rfl⟩ : ∃ q, k = q + 1 := ⟨k - 1, by omega⟩
  unfold cognateref02_Check.f alphaB
  by_cases h0 : (fs.length : Int) > 24
  · rw [if_pos h0, decide_eq_false (p := fs.length ≤ 24) (by omega)]; simp [cognateref02_Check.j0]
  · rw [if_neg h0, decide_eq_true (p := fs.length ≤ 24) (by omega)]
    by_cases h1 : (ls.length : Int) < 1
    · rw [if_pos h1, decide_eq_false (p := 1 ≤ ls.length) (by omega)]; simp [cognateref02_Check.j0]
    · rw [if_neg h1, decide_eq_true (p := 1 ≤ ls.length) (by omega)]
      by_cases h2 : (ls.length : Int) > 128
      · rw [decide_eq_true h2, decide_eq_false (p := ls.length ≤ 128) (by omega)]; simp [cognateref02_Check.j0]
      · rw [decide_eq_false h2, decide_eq_true (p := ls.length ≤ 128) (by omega)]
        simp only [cognateref02_Check.j0, Bool.false_eq_true, if_false]
        have e2 := check_l2 fs ls (by omega) (by omega) ls.length 0 (by omega)
        simp only [show ((0 : Nat) : Int) = 0 from rfl, List.drop_zero, List.take_zero, List.map_nil] at e2
        have e1 := check_l0 fs ls (by omega) 19000 (by omega) (letsB fs.length [] ls) (fun k hk => e2 k (by omega)) fs.length 0 (by omega) k (by omega)
        simp only [show ((0 : Nat) : Int) = 0 from rfl, List.drop_zero, List.take_zero] at e1
        rw [e1]; simp
-- Number, Read, Letters of the reference
def numB (ls : List S118) (r : Int) : Int := match rankOf ls r with | some i => (i : Int) | none => -1
theorem number_l0 (fs : List ByteArray) (ls : List S118) (hn : ls.length ≤ 1000000) (r : Int) : ∀ d i, ls.length = i + d → ∀ k, d < k → cognateref03_Number.l0 k r (i : Int) fs ls = some (match (ls.drop i).findIdx? (fun l => decide (l.f0 = r)) with | some j => ((i + j : Nat) : Int) | none => -1)
  | 0, i, hi, k + 1, _ => by
    unfold cognateref03_Number.l0
    rw [if_neg (by omega), List.drop_of_length_le (by omega)]
    rfl
  | d + 1, i, hi, k + 1, hk => by
    have hd := drop_let ls i (by omega)
    unfold cognateref03_Number.l0
    rw [if_pos (by omega), if_pos (by omega), w64 (by omega) (by omega), show ((i : Int) + 1) = ((i + 1 : Nat) : Int) by omega, number_l0 fs ls hn r d (i + 1) (by omega) k (by omega), hd, List.findIdx?_cons]
    by_cases h : (rd_T118 ls (i : Int)).f0 = r
    · rw [if_pos h]; simp [h]
    · rw [if_neg h]
      simp only [h, decide_false, Bool.false_eq_true, if_false]
      cases (ls.drop (i + 1)).findIdx? (fun l => decide (l.f0 = r)) with
      | none => rfl
      | some j =>
        show some (((i + 1 + j : Nat)) : Int) = some (((i + (j + 1) : Nat)) : Int)
        rw [show i + 1 + j = i + (j + 1) by omega]
theorem number_eq (fs : List ByteArray) (ls : List S118) (hn : ls.length ≤ 1000000) (r : Int) (k : Nat) (hk : ls.length < k) : cognateref03_Number.f k fs ls r = some (numB ls r) := by
  unfold cognateref03_Number.f
  have := number_l0 fs ls hn r ls.length 0 (by omega) k hk
  rw [show ((0 : Nat) : Int) = 0 from rfl, List.drop_zero] at this
  rw [this]
  unfold numB rankOf
  cases ls.findIdx? (fun l => decide (l.f0 = r)) <;> simp
theorem numB_neg (ls : List S118) (r : Int) : numB ls r < 0 ↔ (rankOf ls r).isSome = false := by
  unfold numB
  cases rankOf ls r with
  | none => simp
  | some i => simp
theorem read_l0 (fs : List ByteArray) (ls : List S118) (hn : ls.length ≤ 1000000) (s : ByteArray) (hs : s.size ≤ 140737488351232) : ∀ f pos out, pos ≤ s.size → s.size ≤ pos + f → out.length ≤ 64 → ∀ k, 2 * f + ls.length + 3 ≤ k → cognateref03_Read.l0 k s 64 out (pos : Int) fs ls = some (readP ls (pcs s f pos) out)
  | 0, pos, out, h0, h1, h2, k + 1, hk => by
    unfold cognateref03_Read.l0
    rw [if_neg (by omega), pcs_end s 0 pos (by omega)]
    rfl
  | f + 1, pos, out, h0, h1, h2, k + 1, hk => by
    unfold cognateref03_Read.l0
    by_cases hp : pos < s.size
    · rw [if_pos (by omega), if_pos (by omega), if_pos (by omega)]
      have hw := Lib.decode_width_pos s pos hp
      have hle := decode_le65 s pos hp
      have hd : utf8_DecodeRuneInString.f (s.extract (pos : Int).toNat s.size) = some (((Utf8.decode s pos).1 : Int), ((Utf8.decode s pos).2 : Int)) := by
        unfold utf8_DecodeRuneInString.f Lib.decodeGo
        rw [Int.toNat_natCast, if_neg (by simp [ByteArray.size_extract]; omega), decode_tail]
      have ih := fun o h => read_l0 fs ls hn s hs f (pos + (Utf8.decode s pos).2) o hle.2 (by omega) h
      rw [hd]
      simp only [Option.bind_some]
      have e : pcs s (f + 1) pos = pcAt s pos :: pcs s f (pos + (Utf8.decode s pos).2) := by rw [pcs, if_pos hp]
      rw [e]
      have hpc : pcAt s pos = ⟨((Utf8.decode s pos).1 : Int), pos, ((Utf8.decode s pos).2 : Int), decide ((Utf8.decode s pos).1 = 65533 ∧ (Utf8.decode s pos).2 = 1)⟩ := rfl
      rw [hpc]
      generalize (Utf8.decode s pos).1 = R at hle ⊢
      generalize (Utf8.decode s pos).2 = K at hw hle ih ⊢
      have hj : ∀ b, cognateref03_Read.j1 k s 64 out (pos : Int) (R : Int) (K : Int) b fs ls = some (if b = true then ([], 6) else if (rankOf ls (R : Int)).isSome = false then ([], 5) else if out.length = 64 then ([], 4) else readP ls (pcs s f (pos + K)) (out ++ [(R : Int)])) := fun b => by
        obtain ⟨k, rfl⟩ : ∃ q, k = q + 1 := ⟨k - 1, by omega⟩
        unfold cognateref03_Read.j1
        cases b
        · simp only [Bool.false_eq_true, if_false]
          rw [number_eq fs ls hn _ k (by omega)]
          simp only [Option.bind_some]
          by_cases h5 : (rankOf ls (R : Int)).isSome = false
          · rw [if_pos ((numB_neg ls _).2 h5), if_pos h5]
          · rw [if_neg (fun e => h5 ((numB_neg ls _).1 e)), if_neg h5]
            by_cases h4 : out.length = 64
            · rw [if_pos (by omega), if_pos h4]
            · rw [if_neg (by omega), if_neg h4, if_pos (by omega), w64 (by omega) (by omega), show ((pos : Int) + (K : Int)) = ((pos + K : Nat) : Int) by omega, ih _ (by simp; omega) k (by omega)]
        · simp
      simp only [readP, hj]
      by_cases hR : R = 65533
      · subst hR
        rw [if_pos (by rfl)]
        by_cases hK : K = 1
        · subst hK; simp
        · have : ((K : Int) == 1) = false := beq_eq_false_iff_ne.2 (by omega)
          rw [this, decide_eq_false (fun h => hK h.2)]
      · rw [if_neg (by omega), decide_eq_false (fun h => hR h.1)]
    · rw [if_neg (by omega), pcs_end s _ pos hp]
      rfl
/-- What is read of the beginning is what is read of all. -/
theorem decode_cut (s : ByteArray) (n i : Nat) (h : i + 4 ≤ n) (hn : n ≤ s.size) : Utf8.decode (s.extract 0 n) i = Utf8.decode s i := by
  have hg : ∀ j, j < n → (s.extract 0 n).get! j = s.get! j := fun j hj => by
    show (s.extract 0 n).data[j]! = s.data[j]!
    simp only [ByteArray.data_extract, getElem!_def]
    rw [Array.getElem?_extract, if_pos (by have : s.data.size = s.size := rfl; omega), Nat.zero_add]
  have hsz : (s.extract 0 n).size = n := by simp [ByteArray.size_extract]; omega
  unfold Utf8.decode
  simp only [hsz, hg (i + 0) (by omega), hg (i + 1) (by omega), hg (i + 2) (by omega), hg (i + 3) (by omega), show (i + 1 < n) = True from eq_true (by omega), show (i + 2 < n) = True from eq_true (by omega), show (i + 3 < n) = True from eq_true (by omega), show (i + 1 < s.size) = True from eq_true (by omega), show (i + 2 < s.size) = True from eq_true (by omega), show (i + 3 < s.size) = True from eq_true (by omega)]
theorem width_le (s : ByteArray) (i : Nat) : (Utf8.decode s i).2 ≤ 4 := by
  unfold Utf8.decode
  simp only
  repeat' split
  all_goals simp
theorem read_cut (ls : List S118) (s : ByteArray) (hs : s.size > 65536) : ∀ m i f g out, out.length + m = 65 → out.length ≤ 64 → i + 4 * m ≤ 65532 → 65536 ≤ i + f → s.size ≤ i + g →
    readP ls (pcs (s.extract 0 65536) f i) out = readP ls (pcs s g i) out
  | 0, i, f, g, out, h0, h1, h2, h3, h4 => by omega
  | m + 1, i, f, g, out, h0, h1, h2, h3, h4 => by
    obtain ⟨f, rfl⟩ : ∃ q, f = q + 1 := ⟨f - 1, by omega⟩
    obtain ⟨g, rfl⟩ : ∃ q, g = q + 1 := ⟨g - 1, by omega⟩
    have hsz : (s.extract 0 65536).size = 65536 := by simp [ByteArray.size_extract]; omega
    have hd := decode_cut s 65536 i (by omega) (by omega)
    have hw := width_le s i
    have hw1 := Lib.decode_width_pos s i (by omega)
    rw [pcs, if_pos (by omega), pcs, if_pos (by omega)]
    have hp : pcAt (s.extract 0 65536) i = pcAt s i := by unfold pcAt; rw [hd]
    rw [hp, hd]
    simp only [readP]
    by_cases h64 : out.length = 64
    · rw [if_pos h64, if_pos h64]
    · rw [if_neg h64, if_neg h64, read_cut ls s hs m (i + (Utf8.decode s i).2) f g _ (by simp; omega) (by simp; omega) (by omega) (by omega) (by omega)]
theorem readP_cut (ls : List S118) (s : ByteArray) : readP ls (pieces (cut65 s)) [] = readP ls (pieces s) [] := by
  unfold cut65
  split
  · rename_i h
    unfold pieces
    have hsz : (s.extract 0 65536).size = 65536 := by simp [ByteArray.size_extract]; omega
    rw [hsz]
    exact read_cut ls s h 65 0 65536 s.size [] (by simp) (by simp) (by omega) (by omega) (by omega)
  · rfl
theorem alpha_len {fs : List ByteArray} {ls : List S118} (h : alphaB fs ls = true) : ls.length ≤ 1000000 := by
  have := (alpha_parts h).1
  omega
theorem letters_eq (fs : List ByteArray) (ls : List S118) (s : ByteArray) (hs : s.size ≤ 140737488351232) (k : Nat) (hk : 30200 + 2 * s.size ≤ k) : cognateref03_Letters.f k fs ls s = some (lettersB fs ls s) := by
  unfold cognateref03_Letters.f lettersB
  rw [check_eq fs ls k (by omega)]
  simp only [Option.bind_some]
  by_cases hal : alphaB fs ls = true
  · rw [if_pos hal, if_pos rfl, if_pos hal, readP_cut]
    unfold cognateref03_Read.f
    have := read_l0 fs ls (alpha_len hal) s hs s.size 0 [] (by omega) (by omega) (by simp) k (by have := (alpha_parts hal).1; omega)
    rw [show ((0 : Nat) : Int) = 0 from rfl] at this
    rw [this]
    rfl
  · rw [if_neg hal, if_neg (by omega), if_neg hal]
theorem lettersB_len (fs : List ByteArray) (ls : List S118) (s : ByteArray) : (lettersB fs ls s).1.length ≤ 64 := by
  have : ∀ (ps : List S97) (out : List Int), out.length ≤ 64 → (readP ls ps out).1.length ≤ 64 := by
    intro ps
    induction ps with
    | nil => intro out h; exact h
    | cons p ps ih =>
      intro out h
      unfold readP
      split
      · simp
      · split
        · simp
        · split
          · simp
          · exact ih _ (by simp; omega)
  unfold lettersB
  split
  · exact this _ _ (by simp)
  · simp
theorem text_l0 (fs : List ByteArray) (ls : List S118) (hn : ls.length ≤ 1000000) (l : List Int) (hl : l.length ≤ 256) : ∀ d i, l.length = i + d → ∀ k, d + ls.length + 1 < k → cognateref03_Text.l0 k l (i : Int) fs ls = some (if ((l.drop i).all fun r => (rankOf ls r).isSome) = true then (runesBytes l, 0) else (⟨#[]⟩, 5))
  | 0, i, hi, k + 1, hk => by
    unfold cognateref03_Text.l0
    rw [if_neg (by omega), List.drop_of_length_le (by omega)]
    rfl
  | d + 1, i, hi, k + 1, hk => by
    have hd : l.drop i = rd l (i : Int) :: l.drop (i + 1) := by
      rw [List.drop_eq_getElem_cons (by omega)]
      simp [rd, List.getD_eq_getElem?_getD, List.getElem?_eq_getElem (show i < l.length by omega)]
    unfold cognateref03_Text.l0
    rw [if_pos (by omega), if_pos (by omega), number_eq fs ls hn _ k (by omega)]
    simp only [Option.bind_some]
    rw [hd, List.all_cons]
    by_cases h : (rankOf ls (rd l (i : Int))).isSome = false
    · rw [if_pos ((numB_neg ls _).2 h), h]; rfl
    · rw [if_neg (fun e => h ((numB_neg ls _).1 e)), w64 (by omega) (by omega), show ((i : Int) + 1) = ((i + 1 : Nat) : Int) by omega, text_l0 fs ls hn l hl d (i + 1) (by omega) k (by omega)]
      rw [show (rankOf ls (rd l (i : Int))).isSome = true by simpa only [Bool.not_eq_false] using h, Bool.true_and]
theorem text_eq (fs : List ByteArray) (ls : List S118) (l : List Int) (k : Nat) (hk : 1100000 ≤ k) : cognateref03_Text.f k fs ls l = some (textB fs ls l) := by
  unfold cognateref03_Text.f textB
  rw [check_eq fs ls k (by omega)]
  simp only [Option.bind_some]
  by_cases hal : alphaB fs ls = true
  · rw [if_pos hal, if_pos rfl, if_neg (c := alphaB fs ls = false) (by simp [hal])]
    by_cases hl : l.length > 256
    · rw [if_pos (by omega), if_pos hl]
    · rw [if_neg (by omega), if_neg hl]
      have := text_l0 fs ls (alpha_len hal) l (by omega) l.length 0 (by omega) k (by have := (alpha_parts hal).1; omega)
      rw [show ((0 : Nat) : Int) = 0 from rfl, List.drop_zero] at this
      rw [this]
  · rw [if_neg hal, if_neg (by omega), if_pos (by simpa using hal)]
theorem part_eq (fs : List ByteArray) (ls : List S118) (s : ByteArray) (lo hi : Int) (hs : s.size ≤ 140737488351232) (k : Nat) (hk : 30200 + 2 * s.size ≤ k) : cognateref03_Part.f k fs ls s lo hi = some (partB fs ls s lo hi) := by
  unfold cognateref03_Part.f partB
  rw [letters_eq fs ls s hs k hk]
  simp only [Option.bind_some]
  generalize lettersB fs ls s = le
  obtain ⟨l, e⟩ := le
  simp only
  by_cases he : e = 0
  · subst he
    rw [if_pos rfl, if_neg (c := (0 : Int) ≠ 0) (by simp)]
    by_cases h1 : lo < 0
    · rw [if_pos h1, if_pos (.inl h1)]
    · rw [if_neg h1]
      by_cases h2 : lo > hi
      · rw [if_pos h2, if_pos (.inr (.inl h2))]
      · rw [if_neg h2]
        by_cases h3 : hi > (l.length : Int)
        · rw [if_pos h3, if_pos (.inr (.inr h3))]
        · rw [if_neg h3, if_pos (by omega), if_pos (by omega), if_pos (by omega), if_neg (by omega)]
  · rw [if_neg he, if_pos he]
/-- Turned over. -/
def turnedB (fs : List ByteArray) (ls : List S118) (s : ByteArray) : ByteArray × Int := if (lettersB fs ls s).2 = 0 then (runesBytes (lettersB fs ls s).1.reverse, 0) else (⟨#[]⟩, (lettersB fs ls s).2)
theorem turned_l0 (l : List Int) (hl : l.length ≤ 64) : ∀ d out, d ≤ l.length → out.length + d = l.length → ∀ k, d < k → cognateref03_Turned.l0 k l out ((d : Int) - 1) = some (runesBytes (out ++ (l.take d).reverse), 0)
  | 0, out, h0, h1, k + 1, _ => by
    unfold cognateref03_Turned.l0
    rw [if_neg (by omega)]
    simp
  | d + 1, out, h0, h1, k + 1, hk => by
    unfold cognateref03_Turned.l0
    have e : (((d + 1 : Nat) : Int) - 1) = (d : Int) := by omega
    rw [e, if_pos (by omega), if_pos (by omega), if_pos (by omega), if_pos (by omega), w64 (by omega) (by omega), turned_l0 l hl d _ (by omega) (by simp; omega) k (by omega)]
    have e2 : (l.take (d + 1)).reverse = (l[d]'(by omega)) :: (l.take d).reverse := by
      rw [show l.take (d + 1) = l.take d ++ [l[d]'(by omega)] from by rw [List.take_add_one, List.getElem?_eq_getElem (show d < l.length by omega)]; rfl, List.reverse_append]
      rfl
    rw [e2]
    simp [rd, List.getD_eq_getElem?_getD, List.getElem?_eq_getElem (show d < l.length by omega)]
theorem turned_ref (fs : List ByteArray) (ls : List S118) (s : ByteArray) (hs : s.size ≤ 140737488351232) (k : Nat) (hk : 30200 + 2 * s.size ≤ k) : cognateref03_Turned.f k fs ls s = some (turnedB fs ls s) := by
  unfold cognateref03_Turned.f turnedB
  rw [letters_eq fs ls s hs k hk]
  have hl := lettersB_len fs ls s
  simp only [Option.bind_some]
  generalize lettersB fs ls s = le at hl ⊢
  obtain ⟨l, e⟩ := le
  simp only at hl ⊢
  by_cases he : e = 0
  · subst he
    rw [if_pos rfl, if_pos rfl, w64 (by omega) (by omega), turned_l0 l hl l.length [] (by omega) (by simp) k (by omega)]
    simp
  · rw [if_neg he, if_neg he]
theorem reverse_l0 (l : List Int) (hl : l.length ≤ 1000000) : ∀ d i x, i + i + d = l.length → x.length = l.length → (∀ j, j < i → x[j]? = l[l.length - 1 - j]? ∧ x[l.length - 1 - j]? = l[j]?) → (∀ j, i ≤ j → j < l.length - i → x[j]? = l[j]?) → ∀ k, d < k →
    slices_Reverse_rune_rune.l0 k x (i : Int) ((l.length : Int) - 1 - i) = some l.reverse
  | d, i, x, h0, h1, h2, h3, k + 1, hk => by
    unfold slices_Reverse_rune_rune.l0
    by_cases hlt : (i : Int) < (l.length : Int) - 1 - i
    · obtain ⟨d, rfl⟩ : ∃ q, d = q + 2 := ⟨d - 2, by omega⟩
      have ei : ((l.length : Int) - 1 - i).toNat = l.length - 1 - i := by omega
      rw [if_pos hlt, if_pos (by omega), if_pos (by omega), if_pos (by omega), if_pos (by omega), w64 (by omega) (by omega), w64 (by omega) (by omega), show ((i : Int) + 1) = ((i + 1 : Nat) : Int) by omega,
        show ((l.length : Int) - 1 - i - 1) = ((l.length : Int) - 1 - ((i + 1 : Nat) : Int)) by omega, ei, Int.toNat_natCast]
      have ra : rd x ((l.length : Int) - 1 - i) = (l[l.length - 1 - i]'(by omega)) := by
        unfold rd
        rw [ei, List.getD_eq_getElem?_getD, h3 _ (by omega) (by omega), List.getElem?_eq_getElem (by omega)]; rfl
      have rb : rd x (i : Int) = (l[i]'(by omega)) := by
        unfold rd
        rw [Int.toNat_natCast, List.getD_eq_getElem?_getD, h3 _ (by omega) (by omega), List.getElem?_eq_getElem (by omega)]; rfl
      rw [ra, rb]
      refine reverse_l0 l hl d (i + 1) _ (by omega) (by simp [h1]) (fun j hj => ?_) (fun j hj hj2 => ?_) k (by omega)
      · by_cases e : j = i
        · subst e
          constructor
          · rw [List.getElem?_set_ne (by omega), List.getElem?_set_self (by omega), List.getElem?_eq_getElem (by omega)]
          · rw [List.getElem?_set_self (by simp; omega), List.getElem?_eq_getElem (by omega)]
        · rw [List.getElem?_set_ne (by omega), List.getElem?_set_ne (by omega), List.getElem?_set_ne (by omega), List.getElem?_set_ne (by omega)]
          exact h2 j (by omega)
      · rw [List.getElem?_set_ne (by omega), List.getElem?_set_ne (by omega)]
        exact h3 j (by omega) (by omega)
    · rw [if_neg hlt]
      congr 1
      apply List.ext_getElem?
      intro j
      by_cases hj : j < l.length
      · rw [List.getElem?_reverse hj]
        by_cases h4 : j < i
        · exact (h2 j h4).1
        · by_cases h5 : j < l.length - i
          · rw [h3 j (by omega) h5]
            congr 1
            omega
          · have := (h2 (l.length - 1 - j) (by omega)).2
            rw [show l.length - 1 - (l.length - 1 - j) = j by omega] at this
            exact this
      · rw [List.getElem?_eq_none (by omega), List.getElem?_eq_none (by simp; omega)]
theorem reverse_eq (l : List Int) (hl : l.length ≤ 1000000) (k : Nat) (hk : l.length < k) : slices_Reverse_rune_rune.f k l = some l.reverse := by
  unfold slices_Reverse_rune_rune.f
  rw [w64 (by omega) (by omega)]
  have := reverse_l0 l hl l.length 0 l (by omega) rfl (fun j hj => by omega) (fun j _ _ => rfl) k hk
  simpa using this
theorem turned_eq (fs : List ByteArray) (ls : List S118) (s : ByteArray) (hf : fitsS fs = true) (k : Nat) (hk : 100 ≤ k) : word_Turned.f k fs ls s = some (turnedB fs ls s) := by
  unfold word_Turned.f turnedB word_Letters.f
  rw [if_pos hf]
  have hl := lettersB_len fs ls s
  simp only [Option.bind_some]
  generalize lettersB fs ls s = le at hl ⊢
  obtain ⟨l, e⟩ := le
  simp only at hl ⊢
  by_cases he : e = 0
  · subst he
    rw [if_pos rfl, if_pos rfl, reverse_eq l (by omega) k (by omega)]
    rfl
  · rw [if_neg he, if_neg he]
theorem fits_of {fs : List ByteArray} (h : ∀ y ∈ fs, y.size ≤ 140737488351232) : fitsS fs = true := by
  unfold fitsS
  exact List.all_eq_true.2 fun y hy => decide_eq_true (by have := h y hy; omega)
theorem same_runes (l : List Int) : cognateref03_SameRunes.f l l = some true := by
  unfold cognateref03_SameRunes.f
  simp
theorem spoil_l0 (a1 : ByteArray) (fs : List ByteArray) (ls : List S118) (L : List Int) (b : Bool) (hf : fitsS fs = true) (hL : (lettersB fs ls a1).1 = L) (hb : b = true) : ∀ (d i : Nat) (x : List Int), x.length = i + d → x.length ≤ 64 → ∀ k, d < k → cognatelaw03_WordLetters.l0 k a1 x L b (i : Int) fs ls = some true
  | 0, i, x, h0, h1, k + 1, hk => by
    unfold cognatelaw03_WordLetters.l0
    rw [if_neg (by omega)]
    unfold word_Letters.f
    rw [if_pos hf]
    simp only [Option.bind_some]
    rw [if_pos hb, hL, same_runes]
    rfl
  | d + 1, i, x, h0, h1, k + 1, hk => by
    unfold cognatelaw03_WordLetters.l0
    rw [if_pos (by omega), if_pos (by omega), w64 (by omega) (by omega), show ((i : Int) + 1) = ((i + 1 : Nat) : Int) by omega]
    exact spoil_l0 a1 fs ls L b hf hL hb d (i + 1) _ (by simp; omega) (by simpa using h1) k (by omega)
theorem awake_eq (k : Nat) (hk : 100 ≤ k) : cognatelaw03_awake.f k = some true := by
  unfold cognatelaw03_awake.f cognatelaw03_abc.f
  simp only [Option.bind_some]
  rw [turned_eq _ _ _ (by decide +kernel) k hk]
  simp only [Option.bind_some]
  decide +kernel
theorem fitsR_of {l : List Int} (h : ∀ y ∈ l, (Lit.int .i32 y).wf = true) : fitsR l = true := List.all_eq_true.2 h
theorem WordLetters : ∀ (l0_0 : List ByteArray) (l0_1 : List (S118)) (a1 : ByteArray) (l2 : List Int) (a3 : Int) (a4 : Int), (l0_0.length * 16 ≤ 140737488351232 ∧ ∀ y ∈ l0_0, y.size ≤ 140737488351232) → (l0_1.length * 12 ≤ 140737488351232 ∧ ∀ y ∈ l0_1, wfS118 y) → (a1.size ≤ 140737488351232) → (l2.length * 4 ≤ 140737488351232 ∧ ∀ y ∈ l2, (Lit.int .i32 y).wf = true) → ((Lit.int .i64 a3).wf = true) → ((Lit.int .i64 a4).wf = true) → ∃ k, cognatelaw03_WordLetters.f k l0_0 l0_1 a1 l2 a3 a4 = some true := by
  intro fs ls s l lo hi hf hl hs hr _ _
  have hfit := fits_of hf.2
  have hR := fitsR_of hr.2
  refine ⟨1200000 + 2 * s.size, ?_⟩
  obtain ⟨k, hk⟩ : ∃ k, k = 1200000 + 2 * s.size := ⟨_, rfl⟩
  rw [← hk]
  unfold cognatelaw03_WordLetters.f
  rw [awake_eq k (by omega)]
  simp only [Option.bind_some, if_true]
  rw [show word_Letters.f fs ls s = some (lettersB fs ls s) by unfold word_Letters.f; rw [if_pos hfit], letters_eq fs ls s hs k (by omega),
    show word_Text.f fs ls l = some (textB fs ls l) by unfold word_Text.f; rw [hfit, hR]; rfl, text_eq fs ls l k (by omega),
    show word_Part.f fs ls s lo hi = some (partB fs ls s lo hi) by unfold word_Part.f; rw [if_pos hfit], part_eq fs ls s lo hi hs k (by omega), turned_eq fs ls s hfit k (by omega), turned_ref fs ls s hs k (by omega)]
  simp only [Option.bind_some]
  have h1 : word_Check.f fs ls s = some (lettersB fs ls s).2 := by
    unfold word_Check.f word_Letters.f
    rw [if_pos hfit]; rfl
  have h2 : cognateref03_Check.f k fs ls s = some (lettersB fs ls s).2 := by
    unfold cognateref03_Check.f
    rw [letters_eq fs ls s hs k (by omega)]; rfl
  rw [h1, h2]
  simp only [Option.bind_some, if_true, same_runes]
  have hlen := lettersB_len fs ls s
  have := spoil_l0 s fs ls (lettersB fs ls s).1 ((turnedB fs ls s).2 == (turnedB fs ls s).2) hfit rfl (by simp) (lettersB fs ls s).1.length 0 (lettersB fs ls s).1 (by omega) hlen k (by omega)
  exact this
end Go.Proofs.YtfpfdmenhgageaaDoor.Pure
