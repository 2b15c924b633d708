-- Written by this session's program (wip/ext) with the kit's printer. Not trusted: Lean checks it.
import Derived.Test.YtfpfdmenhgageaaDoorCx0
import Derived.Test.YtfpfdmenhgageaaDoorCx1
namespace Go.Proofs.YtfpfdmenhgageaaDoor.C
open Go.RowKit Go.Proofs.YtfpfdmenhgageaaDoorW.PrintWords Go.Proofs.YtfpfdmenhgageaaDoorW.PrintLast Go.Proofs.YtfpfdmenhgageaaDoorW.PrintMore
attribute [local go_sem] max2_int min2_int max_two min_two max_three min_three max_four min_four   -- for this text's walks alone
set_option linter.unusedVariables false
set_option linter.unusedSimpArgs false

/-! ### cognatelaw24_awake: function 12 -/
def cognatelaw24_awake.f (k : Nat)  : Option (Bool) := (corpus_Line.f k (⟨#[120, 10, 121, 10]⟩ : ByteArray) 2).bind fun bt105 => (if bt105.2.2 = 0 then (if bt105.1 = 2 then (some (bt105.2.1 == 1)) else (some false)) else (some false))
theorem cognatelaw24_awake.mono : ∀ k, LeO (cognatelaw24_awake.f k ) (cognatelaw24_awake.f (k + 1) ) := by
  intro  k
  unfold cognatelaw24_awake.f
  repeat' first
      | (with_reducible exact corpus_Line.mono _ _ _)
      | (with_reducible exact LeO.refl _)
      | (with_reducible exact LeO.none _)
      | (with_reducible refine LeO.ite ?_ ?_)
      | (with_reducible refine LeO.bind ?_ (fun _ => ?_))
      | exact corpus_Line.mono _ _ _
      | exact LeO.none _
      | refine LeO.ite ?_ ?_
      | refine LeO.bind ?_ (fun _ => ?_)
set_option maxHeartbeats 8000000 in
set_option maxRecDepth 100000 in
theorem cognatelaw24_awake.calls (k : Nat)  (r : Bool) (w : World) (h : cognatelaw24_awake.f k  = some r) :
    Calls Tryd.prog 12 #[] w fun e w' => e = .returned (.bool r) ∧ Below w.heap.size w w' := by
  have HB := Aside0.mk (Below.refl w.heap.size w)
  have H : ((corpus_Line.f k (⟨#[120, 10, 121, 10]⟩ : ByteArray) 2).bind fun bt105 => (if bt105.2.2 = 0 then (if bt105.1 = 2 then (some (bt105.2.1 == 1)) else (some false)) else (some false))) = some r := h
  clear h
  replace H := Option.bind_eq_some_iff.mp H
  obtain ⟨⟨t105, t106, t107⟩, A10, H⟩ := H
  replace H : (if t107 = 0 then (if t105 = 2 then (some (t106 == 1)) else (some false)) else (some false)) = some r := H
  have A1 := Aside0.mk A10
  clear A10
  by_cases c2 : t107 = 0
  · rw [if_pos c2] at H
    have c2b0 : (t107 == 0) = true := beq_iff_eq.mpr c2
    have c2b1 : (t107 != 0) = false := bne_eq_false_iff_eq.mpr c2
    clear c2
    by_cases c3 : t105 = 2
    · rw [if_pos c3] at H
      have c3b0 : (t105 == 2) = true := beq_iff_eq.mpr c3
      have c3b1 : (t105 != 2) = false := bne_eq_false_iff_eq.mpr c3
      clear c3
      obtain rfl := Option.some.inj H
      go_enter Tryd.func12, Tryd.ntmps12
      go_wp2_with (first | ((with_reducible refine gate_callee (f := 14) rfl ?_); refine goesL_ (some 5) rfl rfl Tryd.func14 (by kernel_rfl) rfl #[.string (⟨#[120, 10, 121, 10]⟩ : ByteArray), .int .i64 2] rfl (by (try simp only [List.map_toArray, List.map_cons, List.map_nil]); first | done | rfl | (simp only [List.length_drop, List.length_take]; rfl)) ?_; (with_reducible refine (corpus_Line.calls k (⟨#[120, 10, 121, 10]⟩ : ByteArray) 2 t105 t106 t107 _ A1.out).mono ?_); rintro e w4 ⟨rfl, hb⟩; refine ⟨_, rfl, ?_⟩; have n0_ := Aside0.mk (below_step (by repeat (first | (with_reducible first | exact HB.out | apply below_alloc | apply pw_below_drewN | apply below_drew1) | exact HB.out)) hb); clear HB; have HB := n0_; clear n0_; (try clear hb); (try clear hb2); (try clear hk); (try clear hi)))
      go_ret
      exact ⟨by first | rfl | (simp [errW_none, errW_some] <;> rfl) | (simp [*, errW_none, errW_some] <;> rfl), by repeat (first | (with_reducible first | exact HB.out | apply below_alloc | apply pw_below_drewN | apply below_drew1) | exact HB.out)⟩
    · rw [if_neg c3] at H
      have c3b0 : (t105 == 2) = false := beq_eq_false_iff_ne.mpr c3
      have c3b1 : (t105 != 2) = true := bne_iff_ne.mpr c3
      obtain rfl := Option.some.inj H
      go_enter Tryd.func12, Tryd.ntmps12
      go_wp2_with (first | ((with_reducible refine gate_callee (f := 14) rfl ?_); refine goesL_ (some 5) rfl rfl Tryd.func14 (by kernel_rfl) rfl #[.string (⟨#[120, 10, 121, 10]⟩ : ByteArray), .int .i64 2] rfl (by (try simp only [List.map_toArray, List.map_cons, List.map_nil]); first | done | rfl | (simp only [List.length_drop, List.length_take]; rfl)) ?_; (with_reducible refine (corpus_Line.calls k (⟨#[120, 10, 121, 10]⟩ : ByteArray) 2 t105 t106 t107 _ A1.out).mono ?_); rintro e w5 ⟨rfl, hb⟩; refine ⟨_, rfl, ?_⟩; have n0_ := Aside0.mk (below_step (by repeat (first | (with_reducible first | exact HB.out | apply below_alloc | apply pw_below_drewN | apply below_drew1) | exact HB.out)) hb); clear HB; have HB := n0_; clear n0_; (try clear hb); (try clear hb2); (try clear hk); (try clear hi)))
      go_ret
      exact ⟨by first | rfl | (simp [errW_none, errW_some] <;> rfl) | (simp [*, errW_none, errW_some] <;> rfl), by repeat (first | (with_reducible first | exact HB.out | apply below_alloc | apply pw_below_drewN | apply below_drew1) | exact HB.out)⟩
  · rw [if_neg c2] at H
    have c2b0 : (t107 == 0) = false := beq_eq_false_iff_ne.mpr c2
    have c2b1 : (t107 != 0) = true := bne_iff_ne.mpr c2
    obtain rfl := Option.some.inj H
    go_enter Tryd.func12, Tryd.ntmps12
    go_wp2_with (first | ((with_reducible refine gate_callee (f := 14) rfl ?_); refine goesL_ (some 5) rfl rfl Tryd.func14 (by kernel_rfl) rfl #[.string (⟨#[120, 10, 121, 10]⟩ : ByteArray), .int .i64 2] rfl (by (try simp only [List.map_toArray, List.map_cons, List.map_nil]); first | done | rfl | (simp only [List.length_drop, List.length_take]; rfl)) ?_; (with_reducible refine (corpus_Line.calls k (⟨#[120, 10, 121, 10]⟩ : ByteArray) 2 t105 t106 t107 _ A1.out).mono ?_); rintro e w6 ⟨rfl, hb⟩; refine ⟨_, rfl, ?_⟩; have n0_ := Aside0.mk (below_step (by repeat (first | (with_reducible first | exact HB.out | apply below_alloc | apply pw_below_drewN | apply below_drew1) | exact HB.out)) hb); clear HB; have HB := n0_; clear n0_; (try clear hb); (try clear hb2); (try clear hk); (try clear hi)))
    go_ret
    exact ⟨by first | rfl | (simp [errW_none, errW_some] <;> rfl) | (simp [*, errW_none, errW_some] <;> rfl), by repeat (first | (with_reducible first | exact HB.out | apply below_alloc | apply pw_below_drewN | apply below_drew1) | exact HB.out)⟩

/-! ### strings_Cut: function 61 (by hand) -/
def cutAt (s : ByteArray) (c : UInt8) : ByteArray × ByteArray × Bool := if 0 ≤ Lib.indexByte s.data.toList c then (s.extract 0 (Lib.indexByte s.data.toList c).toNat, s.extract ((Lib.indexByte s.data.toList c).toNat + 1) s.size, true) else (s, ⟨#[]⟩, false)
theorem cutAt_lt (s : ByteArray) (c : UInt8) (h : 0 ≤ Lib.indexByte s.data.toList c) : (Lib.indexByte s.data.toList c).toNat < s.size := by
  have h1 : Lib.indexByte s.data.toList c = (((Lib.indexByte s.data.toList c).toNat : Nat) : Int) := by omega
  have h2 := (Lib.indexByte_some h1).1
  have := (List.getElem?_eq_some_iff.1 h2).1
  rwa [Array.length_toList] at this
def strings_Cut.f (a0 : ByteArray) (a1 : ByteArray) : Option (ByteArray × ByteArray × Bool) := if a0.size < 4294967281 ∧ a1.size = 1 then some (cutAt a0 (a1.get! 0)) else none
set_option maxHeartbeats 4000000 in
set_option maxRecDepth 100000 in
theorem strings_Cut.inner (a0 : ByteArray) (c : UInt8) (w : World) (hs : a0.size < 4294967281) :
    Calls Tryd.prog 106 #[.string a0, .string ⟨#[c]⟩] w fun e w' => e = .returned (.tuple #[.string (cutAt a0 c).1, .string (cutAt a0 c).2.1, .bool (cutAt a0 c).2.2]) ∧ Drawn0 w w' := by
  have HI := Aside0.mk (fun W => Tryd.stringslite_Index_one a0 c W)
  have hlt := cutAt_lt a0 c
  have hd : cutAt a0 c = if 0 ≤ Lib.indexByte a0.data.toList c then (a0.extract 0 (Lib.indexByte a0.data.toList c).toNat, a0.extract ((Lib.indexByte a0.data.toList c).toNat + 1) a0.size, true) else (a0, ⟨#[]⟩, false) := rfl
  generalize cutAt a0 c = r at hd
  generalize Lib.indexByte a0.data.toList c = i at *
  by_cases hi : 0 ≤ i
  · have hi2 := hlt hi
    rw [if_pos hi] at hd
    subst hd
    have b1 : decide ((0 : Int) ≤ i) = true := decide_eq_true hi
    obtain ⟨k, rfl⟩ := Int.eq_ofNat_of_zero_le hi
    have h1 : (k : Int) ≤ (a0.size : Int) := by omega
    have h2 : (k : Int) + 1 ≤ (a0.size : Int) := by omega
    have h3 : (0 : Int) ≤ (k : Int) + 1 := by omega
    clear hlt
    go_enter Tryd.func106, Tryd.ntmps106
    go_wp2_with (go_at_call 130; refine (HI.out _).mono ?_; rintro e w1 ⟨rfl, rfl⟩)
    repeat (go_quiet (fail); try go_wp2)
    go_ret3
    refine ⟨?_, ⟨⟨_, rfl⟩⟩⟩
    have e1 : ((k : Int) + 1).toNat = k + 1 := by omega
    simp [e1]
  · rw [if_neg hi] at hd
    subst hd
    have b1 : decide ((0 : Int) ≤ i) = false := decide_eq_false hi
    clear hlt
    go_enter Tryd.func106, Tryd.ntmps106
    go_wp2_with (go_at_call 130; refine (HI.out _).mono ?_; rintro e w1 ⟨rfl, rfl⟩)
    repeat (go_quiet (fail); try go_wp2)
    go_ret3
    exact ⟨rfl, Drawn0.refl _⟩
set_option maxHeartbeats 4000000 in
set_option maxRecDepth 100000 in
theorem strings_Cut.calls (a0 : ByteArray) (a1 : ByteArray) (r1 : ByteArray) (r2 : ByteArray) (r3 : Bool) (w : World) (h : strings_Cut.f a0 a1 = some (r1, r2, r3)) :
    Calls Tryd.prog 61 #[.string a0, .string a1] w fun e w' => e = .returned (.tuple #[.string r1, .string r2, .bool r3]) ∧ Drawn0 w w' := by
  unfold strings_Cut.f at h
  split at h
  case isFalse => cases h
  rename_i hs
  obtain ⟨c, rfl⟩ : ∃ c, a1 = ⟨#[c]⟩ := by
    obtain ⟨⟨l⟩⟩ := a1
    match l, hs.2 with
    | [c], _ => exact ⟨c, rfl⟩
  replace h := Option.some.inj h
  have h0 : cutAt a0 c = (r1, r2, r3) := h
  have HI := Aside0.mk (strings_Cut.inner a0 c w hs.1)
  rw [h0] at HI
  clear h h0
  go_enter Tryd.func61, Tryd.ntmps61
  go_wp2_with (go_at_call 106; refine HI.out.mono ?_; rintro e w1 ⟨rfl, hd⟩; have HD := Aside0.mk hd; clear hd)
  go_ret3
  exact ⟨rfl, HD.out⟩

/-! ### runes_long: function 65 -/
def runes_long.f (a0 : ByteArray) : Option (Int) := if (a0.size : Int) > 65536 then (some 3) else (some 0)
set_option maxHeartbeats 8000000 in
set_option maxRecDepth 100000 in
theorem runes_long.calls (a0 : ByteArray) (r : Int) (w : World) (h : runes_long.f a0 = some r) :
    Calls Tryd.prog 65 #[.string a0] w fun e w' => e = .returned (.int .i64 r) ∧ Drawn0 w w' := by
  have H : (if (a0.size : Int) > 65536 then (some 3) else (some 0)) = some r := h
  clear h
  by_cases c2 : (a0.size : Int) > 65536
  · rw [if_pos c2] at H
    have c2b0 : decide (65536 < (a0.size : Int)) = true := decide_eq_true c2
    have c2b1 : decide (65536 < a0.size) = true := decide_eq_true (by omega)
    clear c2
    obtain rfl := Option.some.inj H
    go_enter Tryd.func65, Tryd.ntmps65
    go_wp2
    go_ret
    exact ⟨by first | rfl | (simp; done) | (simp [*]; done), by repeat (first | exact Drawn0.refl _ | apply Drawn0.step)⟩
  · rw [if_neg c2] at H
    have c2b0 : decide (65536 < (a0.size : Int)) = false := decide_eq_false c2
    have c2b1 : decide (65536 < a0.size) = false := decide_eq_false (by omega)
    clear c2
    obtain rfl := Option.some.inj H
    go_enter Tryd.func65, Tryd.ntmps65
    go_wp2
    go_ret
    exact ⟨by first | rfl | (simp; done) | (simp [*]; done), by repeat (first | exact Drawn0.refl _ | apply Drawn0.step)⟩

def pcAt (s : ByteArray) (i : Nat) : S97 := ⟨((Utf8.decode s i).1 : Int), i, ((Utf8.decode s i).2 : Int), decide ((Utf8.decode s i).1 = 65533 ∧ (Utf8.decode s i).2 = 1)⟩
def pcs (s : ByteArray) : Nat → Nat → List S97
  | 0, _ => []
  | f + 1, i => if i < s.size then pcAt s i :: pcs s f (i + (Utf8.decode s i).2) else []
def pieces (s : ByteArray) : List S97 := pcs s s.size 0
theorem pcs_end (s : ByteArray) (f i : Nat) (h : ¬ i < s.size) : pcs s f i = [] := by cases f <;> simp [pcs, h]
theorem pcs_length (s : ByteArray) : ∀ f i, (pcs s f i).length ≤ f
  | 0, _ => by simp [pcs]
  | f + 1, i => by
    unfold pcs
    split
    · simp only [List.length_cons]; have := pcs_length s f (i + (Utf8.decode s i).2); omega
    · simp
theorem get_tail (s : ByteArray) (pos k : Nat) : (s.extract pos s.size).get! k = s.get! (pos + k) := by
  have hs : s.size = s.data.size := rfl
  show (s.extract pos s.size).data[k]! = s.data[pos + k]!
  simp only [ByteArray.data_extract, getElem!_def]
  rw [Array.getElem?_extract]
  by_cases h : k < min s.size s.data.size - pos
  · rw [if_pos h]
  · rw [if_neg h]
    have : s.data[pos + k]? = none := by
      apply Array.getElem?_eq_none
      rw [hs, Nat.min_self] at h
      omega
    rw [this]
theorem decode_tail (s : ByteArray) (pos : Nat) : Utf8.decode (s.extract pos s.size) 0 = Utf8.decode s pos := by
  rw [Lib.decode_at, Lib.decode_at s pos]
  have : (s.extract pos s.size).size = s.size - pos := by simp [ByteArray.size_extract]
  simp only [get_tail, this, Nat.sub_zero, Nat.add_zero, Nat.zero_add]
theorem decode_le65 (s : ByteArray) (pos : Nat) (h : pos < s.size) : (Utf8.decode s pos).1 ≤ 1114111 ∧ pos + (Utf8.decode s pos).2 ≤ s.size := by
  unfold Utf8.decode Utf8.runeError
  simp only
  repeat' split
  all_goals simp_all [Utf8.valid]
  all_goals omega
def runeLenN (r : Nat) : Nat := if r ≤ 127 then 1 else if r ≤ 2047 then 2 else if r ≤ 65535 then 3 else 4
theorem decode_valid (s : ByteArray) (i : Nat) : ((Utf8.decode s i).1 = 65533 ∧ (Utf8.decode s i).2 = 1) ∨ ((Utf8.decode s i).2 = runeLenN (Utf8.decode s i).1 ∧ Utf8.valid (Utf8.decode s i).1 = true) := by
  unfold Utf8.decode Utf8.runeError runeLenN
  simp only
  repeat' split
  all_goals first | exact .inl ⟨rfl, rfl⟩ | skip
  all_goals refine .inr ?_
  all_goals simp_all [Utf8.valid]
  all_goals omega

def runesOf (s : ByteArray) : List Int := (pieces s).map (·.f0)
theorem runesFrom_eq (s : ByteArray) : ∀ (f i : Nat) (acc : Array Value), Conv.runesFrom s f i acc = acc ++ ((pcs s f i).map fun p => Value.int .i32 p.f0).toArray
  | 0, i, acc => by simp [Conv.runesFrom, pcs]
  | f + 1, i, acc => by
    unfold Conv.runesFrom pcs
    split
    · simp only
      rw [runesFrom_eq s f]
      simp [pcAt]
    · simp
theorem runes_made (s : ByteArray) (hs : s.size ≤ 65536) (W : World) : ∃ ad c W', (convert 9 39 (.string s)).run Tryd.prog W = .ok (.slice (some ad) (pieces s).length c) W' ∧
    ReadsInt W' .i32 (some ad) (pieces s).length (runesOf s) ∧ Below W.heap.size W W' := by
  have hl : (pieces s).length ≤ s.size := pcs_length _ _ _
  have he : Conv.runesFrom s s.size 0 #[] = ((pieces s).map fun p => Value.int .i32 p.f0).toArray := by rw [runesFrom_eq]; simp [pieces]
  have h := run_runes_of_string (P := Tryd.prog) W 9 39 21 s Tryd.underlying9 Tryd.underlying39 Tryd.underlying21 (by rw [he]; simp; omega)
  rw [he] at h
  simp only [List.size_toArray, List.length_map] at h
  refine ⟨_, _, _, h, ⟨by simp [runesOf], by omega, fun _ => ⟨_, rfl, fun j hj => ?_⟩⟩, below_alloc (below_drew (Below.refl _ _)) _⟩
  rw [add_plain]
  refine (World.cell?_alloc_mark W.drew _ _ _ j).trans ?_
  rw [Array.getElem?_append_left (by simpa using hj)]
  simp [runesOf, List.getD_eq_getElem?_getD, List.getElem?_eq_getElem hj]

/-! ### runes_Back: function 62 (by hand) -/
def backB (s : ByteArray) : ByteArray := runesBytes (runesOf s)
def runes_Back.f (a0 : ByteArray) : Option (ByteArray × Int) := if a0.size > 65536 then some (⟨#[]⟩, 3) else some (backB a0, 0)
set_option maxHeartbeats 4000000 in
set_option maxRecDepth 100000 in
theorem runes_Back.calls (a0 : ByteArray) (r1 : ByteArray) (r2 : Int) (w : World) (h : runes_Back.f a0 = some (r1, r2)) :
    Calls Tryd.prog 62 #[.string a0] w fun e w' => e = .returned (.tuple #[.string r1, .int .i64 r2]) ∧ Below w.heap.size w w' := by
  unfold runes_Back.f at h
  by_cases hs : a0.size > 65536
  · rw [if_pos hs] at h
    obtain ⟨rfl, rfl⟩ := Prod.mk.inj (Option.some.inj h)
    have hl : runes_long.f a0 = some 3 := by unfold runes_long.f; rw [if_pos (by omega)]
    clear h hs
    go_enter Tryd.func62, Tryd.ntmps62
    go_wp2_with (go_at_call 65; refine (runes_long.calls a0 3 _ hl).mono ?_; rintro e w1 ⟨rfl, m1, rfl⟩)
    go_ret2
    exact ⟨rfl, pw_below_drewN (Below.refl _ _) _⟩
  · rw [if_neg hs] at h
    obtain ⟨rfl, rfl⟩ := Prod.mk.inj (Option.some.inj h)
    have hl : runes_long.f a0 = some 0 := by unfold runes_long.f; rw [if_neg (by omega)]
    have HM := Aside0.mk (runes_made a0 (by omega))
    clear h hs
    go_enter Tryd.func62, Tryd.ntmps62
    go_wp2_with (go_at_call 65; refine (runes_long.calls a0 0 _ hl).mono ?_; rintro e w1 ⟨rfl, m1, rfl⟩; obtain ⟨adM, cM, WM, hm1, hm2, hm3⟩ := HM.out (w.drewN m1); have hm4 := runes_of_reads (P := Tryd.prog) (c := cM) Tryd.underlying39 Tryd.underlying21 Tryd.underlying9 hm2; have HB := Aside0.mk hm3; clear hm2 hm3)
    go_ret2
    exact ⟨rfl, below_step (pw_below_drewN (Below.refl _ _) m1) HB.out⟩

/-! ### runes_Len: function 107 -/
def runes_Len.f (a0 : ByteArray) : Option (Int × Int) := (runes_long.f a0).bind fun t108 => (if t108 = 0 then ((utf8_RuneCountInString.f a0).bind fun t109 => (some (t109, 0))) else (some (0, t108)))
set_option maxHeartbeats 8000000 in
set_option maxRecDepth 100000 in
theorem runes_Len.calls (a0 : ByteArray) (r1 : Int) (r2 : Int) (w : World) (h : runes_Len.f a0 = some (r1, r2)) :
    Calls Tryd.prog 107 #[.string a0] w fun e w' => e = .returned (.tuple #[.int .i64 r1, .int .i64 r2]) ∧ Below w.heap.size w w' := by
  have HB := Aside0.mk (Below.refl w.heap.size w)
  have H : ((runes_long.f a0).bind fun t108 => (if t108 = 0 then ((utf8_RuneCountInString.f a0).bind fun t109 => (some (t109, 0))) else (some (0, t108)))) = some (r1, r2) := h
  clear h
  replace H := Option.bind_eq_some_iff.mp H
  obtain ⟨t108, A20, H⟩ := H
  replace H : (if t108 = 0 then ((utf8_RuneCountInString.f a0).bind fun t109 => (some (t109, 0))) else (some (0, t108))) = some (r1, r2) := H
  have A2 := Aside0.mk A20
  clear A20
  by_cases c3 : t108 = 0
  · rw [if_pos c3] at H
    have c3b0 : (t108 == 0) = true := beq_iff_eq.mpr c3
    have c3b1 : (t108 != 0) = false := bne_eq_false_iff_eq.mpr c3
    clear c3
    replace H := Option.bind_eq_some_iff.mp H
    obtain ⟨t109, A40, H⟩ := H
    replace H : (some (t109, 0)) = some (r1, r2) := H
    have A4 := Aside0.mk A40
    clear A40
    simp only [Option.some.injEq, Prod.mk.injEq] at H
    obtain ⟨rfl, rfl⟩ := H
    go_enter Tryd.func107, Tryd.ntmps107
    go_wp2_with (first | ((with_reducible refine gate_callee (f := 65) rfl ?_); refine goesL_ (some 6) rfl rfl Tryd.func65 (by kernel_rfl) rfl #[.string a0] rfl (by (try simp only [List.map_toArray, List.map_cons, List.map_nil]); first | done | rfl | (simp only [List.length_drop, List.length_take]; rfl)) ?_; (with_reducible refine (runes_long.calls a0 t108 _ A2.out).mono ?_); rintro e w' ⟨rfl, ⟨nd, rfl⟩⟩; refine ⟨_, rfl, ?_⟩) | ((with_reducible refine gate_callee (f := 58) rfl ?_); refine goesL_ (some 11) rfl rfl Tryd.func58 (by kernel_rfl) rfl #[.string a0] rfl (by (try simp only [List.map_toArray, List.map_cons, List.map_nil]); first | done | rfl | (simp only [List.length_drop, List.length_take]; rfl)) ?_; (with_reducible refine (utf8_RuneCountInString.calls a0 t109 _ A4.out).mono ?_); rintro e w5 ⟨rfl, hb⟩; refine ⟨_, rfl, ?_⟩; have n0_ := Aside0.mk (below_step (by repeat (first | (with_reducible first | exact HB.out | apply below_alloc | apply pw_below_drewN | apply below_drew1) | exact HB.out)) hb); clear HB; have HB := n0_; clear n0_; (try clear hb); (try clear hb2); (try clear hk); (try clear hi)))
    go_ret2
    exact ⟨by first | rfl | (simp [errW_none, errW_some] <;> rfl) | (simp [*, errW_none, errW_some] <;> rfl), by repeat (first | (with_reducible first | exact HB.out | apply below_alloc | apply pw_below_drewN | apply below_drew1) | exact HB.out)⟩
  · rw [if_neg c3] at H
    have c3b0 : (t108 == 0) = false := beq_eq_false_iff_ne.mpr c3
    have c3b1 : (t108 != 0) = true := bne_iff_ne.mpr c3
    simp only [Option.some.injEq, Prod.mk.injEq] at H
    obtain ⟨rfl, rfl⟩ := H
    go_enter Tryd.func107, Tryd.ntmps107
    go_wp2_with (first | ((with_reducible refine gate_callee (f := 65) rfl ?_); refine goesL_ (some 6) rfl rfl Tryd.func65 (by kernel_rfl) rfl #[.string a0] rfl (by (try simp only [List.map_toArray, List.map_cons, List.map_nil]); first | done | rfl | (simp only [List.length_drop, List.length_take]; rfl)) ?_; (with_reducible refine (runes_long.calls a0 t108 _ A2.out).mono ?_); rintro e w' ⟨rfl, ⟨nd, rfl⟩⟩; refine ⟨_, rfl, ?_⟩))
    go_ret2
    exact ⟨by first | rfl | (simp [errW_none, errW_some] <;> rfl) | (simp [*, errW_none, errW_some] <;> rfl), by repeat (first | (with_reducible first | exact HB.out | apply below_alloc | apply pw_below_drewN | apply below_drew1) | exact HB.out)⟩

end Go.Proofs.YtfpfdmenhgageaaDoor.C
