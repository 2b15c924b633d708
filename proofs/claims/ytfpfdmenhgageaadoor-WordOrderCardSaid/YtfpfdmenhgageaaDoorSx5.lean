-- Written by this session's program (wip/ext) with the kit's printer. Not trusted: Lean checks it.
import Derived.Test.YtfpfdmenhgageaaDoorSx0
import Derived.Test.YtfpfdmenhgageaaDoorSx1
import Derived.Test.YtfpfdmenhgageaaDoorSx3
import Derived.Test.YtfpfdmenhgageaaDoorSx4
namespace Go.Proofs.YtfpfdmenhgageaaDoor.S
open Go.RowKit Go.Proofs.YtfpfdmenhgageaaDoorW.PrintWords Go.Proofs.YtfpfdmenhgageaaDoorW.PrintLast Go.Proofs.YtfpfdmenhgageaaDoorW.PrintMore
attribute [local go_sem] max2_int min2_int max_two min_two max_three min_three max_four min_four   -- for this text's walks alone
set_option linter.unusedVariables false
set_option linter.unusedSimpArgs false

def readP (ls : List S118) : List S97 → List Int → List Int × Int
  | [], out => (out, 0)
  | p :: ps, out => if p.f3 = true then ([], 6) else if (rankOf ls p.f0).isSome = false then ([], 5) else if out.length = 64 then ([], 4) else readP ls ps (out ++ [p.f0])
def cut65 (s : ByteArray) : ByteArray := if s.size > 65536 then s.extract 0 65536 else s
theorem cut65_size (s : ByteArray) : (cut65 s).size ≤ 65536 := by
  unfold cut65
  split
  · simp [ByteArray.size_extract]; omega
  · omega
theorem pcs_mem (s : ByteArray) : ∀ f i, ∀ p ∈ pcs s f i, ∃ j, j < s.size ∧ p = pcAt s j
  | 0, _, p, h => by simp [pcs] at h
  | f + 1, i, p, h => by
    unfold pcs at h
    split at h
    · rename_i hi
      rcases List.mem_cons.1 h with rfl | h
      · exact ⟨i, hi, rfl⟩
      · exact pcs_mem s f _ p h
    · cases h
theorem piece_wf {s : ByteArray} {p : S97} (h : p ∈ pieces s) : (Lit.int .i32 p.f0).wf = true := by
  obtain ⟨j, hj, rfl⟩ := pcs_mem s _ _ p h
  have := (decode_le65 s j hj).1
  simp only [pcAt, Lit.wf, IntKind.min, IntKind.max, IntKind.signed, IntKind.bits, Bool.and_eq_true, decide_eq_true_eq, if_true]
  omega
theorem drop_pc (l : List S97) (k : Nat) (h : k < l.length) : l.drop k = rd_T97 l k :: l.drop (k + 1) := by
  rw [List.drop_eq_getElem_cons h]
  simp [rd_T97, List.getD_eq_getElem?_getD, List.getElem?_eq_getElem h]
theorem R_int_less {w : World} {b base : Nat} {e : Nat} {q : IntKind} {ok : Nat → Prop} {v : Value} {xs : List Int} (h : Kd.R (Kd.int q) e w b ok v xs) (hle : base ≤ b) : Kd.R (Kd.int q) e w base ok v xs := by
  obtain ⟨h0, inner, ho, hr⟩ := h
  exact ⟨h0, inner, own_less ho hle, hr.imp_ (fun _ _ hp => hp)⟩
set_option maxHeartbeats 4000000 in
set_option maxRecDepth 100000 in
theorem word_read.ok (bm n : Nat) (m : Int → Option Int) (ls : List S118) (s : ByteArray) (w : World) (hG : GLaid w) (hM : YtfpfdmenhgageaaDoorMp.MapI (YtfpfdmenhgageaaDoorMp.intKey Tryd.underlying21) (YtfpfdmenhgageaaDoorMp.intElem Tryd.underlying3) w bm n m) (hk : Ranked m ls) (r1 : List Int) (r2 : Int) (hr : readP ls (pieces (cut65 s)) [] = (r1, r2)) :
    Calls Tryd.prog 70 #[.map (some bm), .string s] w fun e w' => ∃ v, e = .returned (.tuple #[v, .int .i64 r2]) ∧ Kd.R (Kd.int .i32) 21 w' w.heap.size (fun _ => True) v r1 ∧ Below w.heap.size w w' := by
  have hPC : runes_Pieces.f (cut65 s) = some (pieces (cut65 s), 0) := by unfold runes_Pieces.f; rw [if_neg (by have := cut65_size s; omega)]
  have HPC := Aside0.mk hPC
  have HG := Aside0.mk hG
  have HM := Aside0.mk hM
  have HK := Aside0.mk hk
  have HRR := Aside0.mk hr
  have HWFP : Aside0 (∀ p ∈ pieces (cut65 s), (Lit.int .i32 p.f0).wf = true) := ⟨fun p hp => piece_wf hp⟩
  have HPL : Aside0 ((pieces (cut65 s)).length ≤ 65536) := ⟨Nat.le_trans (pcs_length _ _ _) (cut65_size s)⟩
  clear hPC hG hM hk hr
  go_enter Tryd.func70, Tryd.ntmps70
  go_wp2_with fail
  · have hu : cut65 s = s.extract 0 65536 := by unfold cut65; rw [if_pos (by omega)]
    rw [hu] at HPC HRR HWFP HPL
    generalize pieces (s.extract 0 65536) = ps at HPC HRR HWFP HPL
    go_wp2_with (go_at_call 101; refine (runes_Pieces.calls _ ps 0 w HG.out HPC.out).mono ?_; rintro e w2 ⟨v2, rfl, hR2, hB2⟩; obtain ⟨AP, cP, rfl, _, hC2⟩ := Kd.R_reads hR2; have HC2 := Aside0.mk hC2; have HB2 := Aside0.mk hB2; have HM2 := Aside0.mk (HM.out.below hB2); clear hR2 hB2 hC2)
    go_loopg [8, 28] ps.length (fun kq v8 v28 w' => ∃ (k : Nat) (out : List Int), v28 = .int .i64 (k : Int) ∧
      Aside0 (k + kq = ps.length ∧ readP ls (ps.drop k) out = (r1, r2) ∧ out.length ≤ 64) ∧ Aside0 (Kd.R (Kd.int .i32) 21 w' w2.heap.size (fun _ => True) v8 out) ∧ Aside0 (Below w2.heap.size w2 w'))
    case atStart => exact ⟨0, [], rfl, ⟨by omega, HRR.out, by simp⟩, ⟨Kd.R_nil _ _ _ _ _⟩, ⟨Below.refl _ _⟩⟩
    case round =>
      obtain ⟨k, out, rfl, HI, HO, HB⟩ := hrel
      obtain ⟨A8, c8, rfl, _, _⟩ := Kd.R_reads HO.out
      by_cases hlt : k < ps.length
      · have b4 : decide ((k : Int) < (ps.length : Int)) = true := decide_eq_true (by omega)
        obtain ⟨ad, e0, hx0, hx1, hx2, hx3⟩ := at_T97 HC2.out (k : Int) (by omega) (by omega)
        obtain rfl := e0
        replace hx0 := pw_cell_below HB.out hx0
        replace hx1 := pw_cell_below HB.out hx1
        replace hx2 := pw_cell_below HB.out hx2
        replace hx3 := pw_cell_below HB.out hx3
        have hd := drop_pc ps k hlt
        have hmem : rd_T97 ps (k : Int) ∈ ps := by simp [rd_T97, List.getD_eq_getElem?_getD, List.getElem?_eq_getElem hlt]
        generalize rd_T97 ps (k : Int) = f at hx0 hx1 hx2 hx3 hd hmem
        have HWF := Aside0.mk (HWFP.out f hmem)
        obtain ⟨f0, f1, f2, f3⟩ := f
        simp only [Int.toNat_natCast] at hx0 hx1 hx2 hx3
        have hrd := HI.out.2.1
        rw [hd] at hrd
        simp only [readP] at hrd
        have HD := Aside0.mk hrd
        have hl0 : (wr.alloc (.cells #[.int .i32 f0, .int .i64 f1, .int .i64 f2, .bool f3] 97)).cell? ⟨wr.heap.size, 0, none⟩ = some (.int .i32 f0) := (blk_cell (blk_new wr _) 0).trans rfl
        have hl3 : (wr.alloc (.cells #[.int .i32 f0, .int .i64 f1, .int .i64 f2, .bool f3] 97)).cell? ⟨wr.heap.size, 3, none⟩ = some (.bool f3) := (blk_cell (blk_new wr _) 3).trans rfl
        have HMA := Aside0.mk ((HM2.out.below HB.out).alloc (.cells #[.int .i32 f0, .int .i64 f1, .int .i64 f2, .bool f3] 97))
        have HBA := Aside0.mk (below_alloc HB.out (.cells #[.int .i32 f0, .int .i64 f1, .int .i64 f2, .bool f3] 97))
        clear hd hmem hrd
        cases f3 with
        | true =>
          have HQ := HD.out
          simp only [if_true] at HQ
          obtain ⟨rfl, rfl⟩ := Prod.mk.inj HQ
          clear HD HQ
          go_wp2
          go_ret2
          exact ⟨_, rfl, Kd.R_nil _ _ _ _ _, below_step HB2.out HBA.out⟩
        | false =>
          cases hg : (rankOf ls f0).isSome with
          | false =>
            have HGET : Aside0 ((m f0).isSome = false) := ⟨by rw [HK.out f0, Option.isSome_map]; exact hg⟩
            have HQ := HD.out
            simp only [hg, if_true, Bool.false_eq_true, if_false] at HQ
            obtain ⟨rfl, rfl⟩ := Prod.mk.inj HQ
            clear HD HQ hg
            go_wp2_with (at_lookup; refine YtfpfdmenhgageaaDoorMp.wp_look_ok _ rfl _ _ _ rfl (YtfpfdmenhgageaaDoorMp.intKey Tryd.underlying21) (YtfpfdmenhgageaaDoorMp.intElem Tryd.underlying3) Tryd.underlying100 0 (by kernel_rfl) rfl bm n m rfl HMA.out f0 rfl HWF.out ?_; rw [show (m f0).isSome = false from HGET.out])
            go_ret2
            exact ⟨_, rfl, Kd.R_nil _ _ _ _ _, below_step HB2.out HBA.out⟩
          | true =>
            have HGET : Aside0 ((m f0).isSome = true) := ⟨by rw [HK.out f0, Option.isSome_map]; exact hg⟩
            have HQ := HD.out
            simp only [hg, Bool.false_eq_true, Bool.true_eq_false, if_false] at HQ
            by_cases h64 : out.length = 64
            · have b5 : decide ((out.length : Int) = 64) = true := decide_eq_true (by omega)
              rw [if_pos h64] at HQ
              obtain ⟨rfl, rfl⟩ := Prod.mk.inj HQ
              clear HD HQ hg
              go_wp2_with (at_lookup; refine YtfpfdmenhgageaaDoorMp.wp_look_ok _ rfl _ _ _ rfl (YtfpfdmenhgageaaDoorMp.intKey Tryd.underlying21) (YtfpfdmenhgageaaDoorMp.intElem Tryd.underlying3) Tryd.underlying100 0 (by kernel_rfl) rfl bm n m rfl HMA.out f0 rfl HWF.out ?_; rw [show (m f0).isSome = true from HGET.out])
              go_ret2
              exact ⟨_, rfl, Kd.R_nil _ _ _ _ _, below_step HB2.out HBA.out⟩
            · have b5 : decide ((out.length : Int) = 64) = false := decide_eq_false (by omega)
              have h64i : ¬ ((out.length : Int) = 64) := by omega
              rw [if_neg h64] at HQ
              have HQ2 := Aside0.mk HQ
              have HLT : Aside0 (out.length < 64) := ⟨by have := HI.out.2.2; omega⟩
              clear HD HQ hg
              go_wp2_with (first | (at_lookup; refine YtfpfdmenhgageaaDoorMp.wp_look_ok _ rfl _ _ _ rfl (YtfpfdmenhgageaaDoorMp.intKey Tryd.underlying21) (YtfpfdmenhgageaaDoorMp.intElem Tryd.underlying3) Tryd.underlying100 0 (by kernel_rfl) rfl bm n m rfl HMA.out f0 rfl HWF.out ?_; rw [show (m f0).isSome = true from HGET.out]) | ((with_reducible refine gate_builtin (b := .append) (xs := #[.tmp 46, .tmp 49]) rfl ?_); at_builtin; go_loud (refine Kd.R_append (Kd.int .i32) (w0 := w2) w2.heap.size rfl (.tmp 46) (.tmp 49) 39 21 (.int .i32 0) 4 rfl Tryd.underlying39 (by kernel_rfl) rfl (by decide) (by omega) (.slice A8 out.length c8) out f0 [.int .i32 f0] (fun _ => True) (fun _ => False) rfl (by first | rfl | (go_simp; done) | (go_simp; rfl)) rfl (fun _ hk => hk.elim) (fun _ _ => trivial) (Kd.R_alloc HO.out _) HBA.out (below_size HBA.out) (by have := HI.out.2.2; omega) ?_); intro v7 w7 hR7 hB7 hg7 hat7; have HR7 := Aside0.mk hR7; have HB7 := Aside0.mk hB7; clear hR7 hB7 hg7 hat7))
              go_roundg (ps.length - (k + 1))
              case measure => have := HI.out.1; omega
              case rel =>
                have hL := HPL.out
                exact ⟨k + 1, out ++ [f0], by rw [show wrap64 ((k : Int) + 1) = ((k + 1 : Nat) : Int) from by unfold wrap64; omega], ⟨by omega, HQ2.out, by have := HLT.out; simp; omega⟩, HR7, HB7⟩
      · have b4 : decide ((k : Int) < (ps.length : Int)) = false := decide_eq_false (by omega)
        have HQ := HI.out.2.1
        rw [List.drop_of_length_le (by omega)] at HQ
        simp only [readP] at HQ
        obtain ⟨rfl, rfl⟩ := Prod.mk.inj HQ
        clear HQ
        go_wp2
        go_ret2
        exact ⟨_, rfl, Kd.R_lower HO.out HB2.out.size, below_step HB2.out HB.out⟩
  · have hu : cut65 s = s := by unfold cut65; rw [if_neg (by omega)]
    rw [hu] at HPC HRR HWFP HPL
    generalize pieces s = ps at HPC HRR HWFP HPL
    go_wp2_with (go_at_call 101; refine (runes_Pieces.calls _ ps 0 w HG.out HPC.out).mono ?_; rintro e w2 ⟨v2, rfl, hR2, hB2⟩; obtain ⟨AP, cP, rfl, _, hC2⟩ := Kd.R_reads hR2; have HC2 := Aside0.mk hC2; have HB2 := Aside0.mk hB2; have HM2 := Aside0.mk (HM.out.below hB2); clear hR2 hB2 hC2)
    go_loopg [8, 28] ps.length (fun kq v8 v28 w' => ∃ (k : Nat) (out : List Int), v28 = .int .i64 (k : Int) ∧
      Aside0 (k + kq = ps.length ∧ readP ls (ps.drop k) out = (r1, r2) ∧ out.length ≤ 64) ∧ Aside0 (Kd.R (Kd.int .i32) 21 w' w2.heap.size (fun _ => True) v8 out) ∧ Aside0 (Below w2.heap.size w2 w'))
    case atStart => exact ⟨0, [], rfl, ⟨by omega, HRR.out, by simp⟩, ⟨Kd.R_nil _ _ _ _ _⟩, ⟨Below.refl _ _⟩⟩
    case round =>
      obtain ⟨k, out, rfl, HI, HO, HB⟩ := hrel
      obtain ⟨A8, c8, rfl, _, _⟩ := Kd.R_reads HO.out
      by_cases hlt : k < ps.length
      · have b4 : decide ((k : Int) < (ps.length : Int)) = true := decide_eq_true (by omega)
        obtain ⟨ad, e0, hx0, hx1, hx2, hx3⟩ := at_T97 HC2.out (k : Int) (by omega) (by omega)
        obtain rfl := e0
        replace hx0 := pw_cell_below HB.out hx0
        replace hx1 := pw_cell_below HB.out hx1
        replace hx2 := pw_cell_below HB.out hx2
        replace hx3 := pw_cell_below HB.out hx3
        have hd := drop_pc ps k hlt
        have hmem : rd_T97 ps (k : Int) ∈ ps := by simp [rd_T97, List.getD_eq_getElem?_getD, List.getElem?_eq_getElem hlt]
        generalize rd_T97 ps (k : Int) = f at hx0 hx1 hx2 hx3 hd hmem
        have HWF := Aside0.mk (HWFP.out f hmem)
        obtain ⟨f0, f1, f2, f3⟩ := f
        simp only [Int.toNat_natCast] at hx0 hx1 hx2 hx3
        have hrd := HI.out.2.1
        rw [hd] at hrd
        simp only [readP] at hrd
        have HD := Aside0.mk hrd
        have hl0 : (wr.alloc (.cells #[.int .i32 f0, .int .i64 f1, .int .i64 f2, .bool f3] 97)).cell? ⟨wr.heap.size, 0, none⟩ = some (.int .i32 f0) := (blk_cell (blk_new wr _) 0).trans rfl
        have hl3 : (wr.alloc (.cells #[.int .i32 f0, .int .i64 f1, .int .i64 f2, .bool f3] 97)).cell? ⟨wr.heap.size, 3, none⟩ = some (.bool f3) := (blk_cell (blk_new wr _) 3).trans rfl
        have HMA := Aside0.mk ((HM2.out.below HB.out).alloc (.cells #[.int .i32 f0, .int .i64 f1, .int .i64 f2, .bool f3] 97))
        have HBA := Aside0.mk (below_alloc HB.out (.cells #[.int .i32 f0, .int .i64 f1, .int .i64 f2, .bool f3] 97))
        clear hd hmem hrd
        cases f3 with
        | true =>
          have HQ := HD.out
          simp only [if_true] at HQ
          obtain ⟨rfl, rfl⟩ := Prod.mk.inj HQ
          clear HD HQ
          go_wp2
          go_ret2
          exact ⟨_, rfl, Kd.R_nil _ _ _ _ _, below_step HB2.out HBA.out⟩
        | false =>
          cases hg : (rankOf ls f0).isSome with
          | false =>
            have HGET : Aside0 ((m f0).isSome = false) := ⟨by rw [HK.out f0, Option.isSome_map]; exact hg⟩
            have HQ := HD.out
            simp only [hg, if_true, Bool.false_eq_true, if_false] at HQ
            obtain ⟨rfl, rfl⟩ := Prod.mk.inj HQ
            clear HD HQ hg
            go_wp2_with (at_lookup; refine YtfpfdmenhgageaaDoorMp.wp_look_ok _ rfl _ _ _ rfl (YtfpfdmenhgageaaDoorMp.intKey Tryd.underlying21) (YtfpfdmenhgageaaDoorMp.intElem Tryd.underlying3) Tryd.underlying100 0 (by kernel_rfl) rfl bm n m rfl HMA.out f0 rfl HWF.out ?_; rw [show (m f0).isSome = false from HGET.out])
            go_ret2
            exact ⟨_, rfl, Kd.R_nil _ _ _ _ _, below_step HB2.out HBA.out⟩
          | true =>
            have HGET : Aside0 ((m f0).isSome = true) := ⟨by rw [HK.out f0, Option.isSome_map]; exact hg⟩
            have HQ := HD.out
            simp only [hg, Bool.false_eq_true, Bool.true_eq_false, if_false] at HQ
            by_cases h64 : out.length = 64
            · have b5 : decide ((out.length : Int) = 64) = true := decide_eq_true (by omega)
              rw [if_pos h64] at HQ
              obtain ⟨rfl, rfl⟩ := Prod.mk.inj HQ
              clear HD HQ hg
              go_wp2_with (at_lookup; refine YtfpfdmenhgageaaDoorMp.wp_look_ok _ rfl _ _ _ rfl (YtfpfdmenhgageaaDoorMp.intKey Tryd.underlying21) (YtfpfdmenhgageaaDoorMp.intElem Tryd.underlying3) Tryd.underlying100 0 (by kernel_rfl) rfl bm n m rfl HMA.out f0 rfl HWF.out ?_; rw [show (m f0).isSome = true from HGET.out])
              go_ret2
              exact ⟨_, rfl, Kd.R_nil _ _ _ _ _, below_step HB2.out HBA.out⟩
            · have b5 : decide ((out.length : Int) = 64) = false := decide_eq_false (by omega)
              have h64i : ¬ ((out.length : Int) = 64) := by omega
              rw [if_neg h64] at HQ
              have HQ2 := Aside0.mk HQ
              have HLT : Aside0 (out.length < 64) := ⟨by have := HI.out.2.2; omega⟩
              clear HD HQ hg
              go_wp2_with (first | (at_lookup; refine YtfpfdmenhgageaaDoorMp.wp_look_ok _ rfl _ _ _ rfl (YtfpfdmenhgageaaDoorMp.intKey Tryd.underlying21) (YtfpfdmenhgageaaDoorMp.intElem Tryd.underlying3) Tryd.underlying100 0 (by kernel_rfl) rfl bm n m rfl HMA.out f0 rfl HWF.out ?_; rw [show (m f0).isSome = true from HGET.out]) | ((with_reducible refine gate_builtin (b := .append) (xs := #[.tmp 46, .tmp 49]) rfl ?_); at_builtin; go_loud (refine Kd.R_append (Kd.int .i32) (w0 := w2) w2.heap.size rfl (.tmp 46) (.tmp 49) 39 21 (.int .i32 0) 4 rfl Tryd.underlying39 (by kernel_rfl) rfl (by decide) (by omega) (.slice A8 out.length c8) out f0 [.int .i32 f0] (fun _ => True) (fun _ => False) rfl (by first | rfl | (go_simp; done) | (go_simp; rfl)) rfl (fun _ hk => hk.elim) (fun _ _ => trivial) (Kd.R_alloc HO.out _) HBA.out (below_size HBA.out) (by have := HI.out.2.2; omega) ?_); intro v7 w7 hR7 hB7 hg7 hat7; have HR7 := Aside0.mk hR7; have HB7 := Aside0.mk hB7; clear hR7 hB7 hg7 hat7))
              go_roundg (ps.length - (k + 1))
              case measure => have := HI.out.1; omega
              case rel =>
                have hL := HPL.out
                exact ⟨k + 1, out ++ [f0], by rw [show wrap64 ((k : Int) + 1) = ((k + 1 : Nat) : Int) from by unfold wrap64; omega], ⟨by omega, HQ2.out, by have := HLT.out; simp; omega⟩, HR7, HB7⟩
      · have b4 : decide ((k : Int) < (ps.length : Int)) = false := decide_eq_false (by omega)
        have HQ := HI.out.2.1
        rw [List.drop_of_length_le (by omega)] at HQ
        simp only [readP] at HQ
        obtain ⟨rfl, rfl⟩ := Prod.mk.inj HQ
        clear HQ
        go_wp2
        go_ret2
        exact ⟨_, rfl, Kd.R_lower HO.out HB2.out.size, below_step HB2.out HB.out⟩

def lettersB (fs : List ByteArray) (ls : List S118) (s : ByteArray) : List Int × Int := if alphaB fs ls = true then readP ls (pieces (cut65 s)) [] else ([], 7)
def textB (fs : List ByteArray) (ls : List S118) (l : List Int) : ByteArray × Int :=
  if alphaB fs ls = false then (⟨#[]⟩, 7) else if l.length > 256 then (⟨#[]⟩, 4) else if (l.all fun r => (rankOf ls r).isSome) = true then (runesBytes l, 0) else (⟨#[]⟩, 5)
def fitsR (l : List Int) : Bool := l.all fun r => (Lit.int .i32 r).wf

/-! ### word_Letters: function 21 (by hand) -/
def word_Letters.f (l0_0 : List ByteArray) (l0_1 : List (S118)) (a1 : ByteArray) : Option (List Int × Int) := if fitsS l0_0 = true then some (lettersB l0_0 l0_1 a1) else none
set_option maxHeartbeats 4000000 in
set_option maxRecDepth 100000 in
theorem word_Letters.calls (A0_0 : Option Addr) (c0_0 : Nat) (l0_0 : List ByteArray) (A0_1 : Option Addr) (c0_1 : Nat) (l0_1 : List (S118)) (a1 : ByteArray) (r1 : List Int) (r2 : Int) (w : World) (hr0_0 : Kd.C Kd.string w A0_0 l0_0.length l0_0) (hc0_0 : l0_0.length ≤ c0_0) (hr0_1 : Kd.C k118 w A0_1 l0_1.length l0_1) (hc0_1 : l0_1.length ≤ c0_1) (hG : GLaid w) (h : word_Letters.f l0_0 l0_1 a1 = some (r1, r2)) :
    Calls Tryd.prog 21 #[.agg #[.slice A0_0 l0_0.length c0_0, .slice A0_1 l0_1.length c0_1], .string a1] w fun e w' => ∃ v0_ : Value, e = .returned (.tuple #[v0_, .int .i64 r2]) ∧ Kd.R (Kd.int .i32) 21 w' w.heap.size (fun _ => True) v0_ r1 ∧ Below w.heap.size w w' := by
  unfold word_Letters.f at h
  split at h
  case isFalse => cases h
  rename_i hfit
  replace h := Option.some.inj h
  have HFIT := Aside0.mk hfit
  have HG := Aside0.mk hG
  clear hfit hG
  have HR0 := Aside0.mk hr0_0
  have HR1 := Aside0.mk hr0_1
  have HC0 := Aside0.mk hc0_0
  have HC1 := Aside0.mk hc0_1
  clear hr0_0 hr0_1 hc0_0 hc0_1
  have hu := Tryd.underlying38
  unfold lettersB at h
  cases hal : alphaB l0_0 l0_1 with
  | false =>
    have HAL := Aside0.mk hal
    rw [hal] at h
    obtain ⟨rfl, rfl⟩ := Prod.mk.inj h
    clear h hal
    go_enter Tryd.func21, Tryd.ntmps21
    go_wp2_with (first | ((with_reducible refine gate_dst (N := 2) rfl ?_); refine box_event ?hg (N := 2) ?hd (cs := #[.slice A0_0 l0_0.length c0_0, .slice A0_1 l0_1.length c0_1]) (t := 38) ?hr ?_; (case hd => rfl); (case hg => rfl); (case hr => first | (go_simp; done) | (go_simp; rfl)); intro gb hg w3 hbox hb; have HB := Aside0.mk hb; clear hb; have hcz0 : w3.cell? ⟨gb, 0, none⟩ = some (.slice A0_0 l0_0.length c0_0) := (blk_cell hbox 0).trans rfl; have hcz1 : w3.cell? ⟨gb, 1, none⟩ = some (.slice A0_1 l0_1.length c0_1) := (blk_cell hbox 1).trans rfl; clear hbox hg) | (go_at_call 69; refine (word_ranks.no A0_0 c0_0 l0_0 A0_1 c0_1 l0_1 _ (Kd.C_below HR0.out HB.out) HC0.out (Kd.C_below HR1.out HB.out) HC1.out HFIT.out HAL.out).mono ?_; rintro e w4 ⟨rfl, hb4⟩; have HB4 := Aside0.mk (below_step HB.out hb4); clear hb4))
    go_ret2
    exact ⟨_, rfl, Kd.R_nil _ _ _ _ _, HB4.out⟩
  | true =>
    have HAL := Aside0.mk hal
    rw [hal] at h
    have HRD : Aside0 (readP l0_1 (pieces (cut65 a1)) [] = (r1, r2)) := ⟨h⟩
    clear h hal
    go_enter Tryd.func21, Tryd.ntmps21
    go_wp2_with (first | ((with_reducible refine gate_dst (N := 2) rfl ?_); refine box_event ?hg (N := 2) ?hd (cs := #[.slice A0_0 l0_0.length c0_0, .slice A0_1 l0_1.length c0_1]) (t := 38) ?hr ?_; (case hd => rfl); (case hg => rfl); (case hr => first | (go_simp; done) | (go_simp; rfl)); intro gb hg w3 hbox hb; have HB := Aside0.mk hb; clear hb; have hcz0 : w3.cell? ⟨gb, 0, none⟩ = some (.slice A0_0 l0_0.length c0_0) := (blk_cell hbox 0).trans rfl; have hcz1 : w3.cell? ⟨gb, 1, none⟩ = some (.slice A0_1 l0_1.length c0_1) := (blk_cell hbox 1).trans rfl; clear hbox hg) | (go_at_call 69; refine (word_ranks.yes A0_0 c0_0 l0_0 A0_1 c0_1 l0_1 _ (Kd.C_below HR0.out HB.out) HC0.out (Kd.C_below HR1.out HB.out) HC1.out HFIT.out HAL.out).mono ?_; rintro e w4 ⟨bm, m, rfl, hbm, hM4, hRK, hb4⟩; have HB4 := Aside0.mk (below_step HB.out hb4); have HM4 := Aside0.mk hM4; have HRK := Aside0.mk hRK; clear hb4 hM4 hRK hbm) | (go_at_call 70; refine (word_read.ok bm _ m l0_1 a1 w4 (GLaid.below_ HG.out HB4.out) HM4.out HRK.out r1 r2 HRD.out).mono ?_; rintro e w5 ⟨v5, rfl, hR5, hB5⟩; have HR5 := Aside0.mk hR5; have HB5 := Aside0.mk hB5; clear hR5 hB5))
    go_ret2
    exact ⟨_, rfl, Kd.R_lower HR5.out HB4.out.size, below_step HB4.out HB5.out⟩

end Go.Proofs.YtfpfdmenhgageaaDoor.S
