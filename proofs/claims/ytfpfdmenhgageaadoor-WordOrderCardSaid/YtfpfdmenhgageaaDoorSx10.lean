-- Written by this session's program (wip/ext) with the kit's printer. Not trusted: Lean checks it.
import Derived.Test.YtfpfdmenhgageaaDoorSx0
import Derived.Test.YtfpfdmenhgageaaDoorSx1
import Derived.Test.YtfpfdmenhgageaaDoorSx8
import Derived.Test.YtfpfdmenhgageaaDoorSx9
namespace Go.Proofs.YtfpfdmenhgageaaDoor.S
open Go.RowKit Go.Proofs.YtfpfdmenhgageaaDoorW.PrintWords Go.Proofs.YtfpfdmenhgageaaDoorW.PrintLast Go.Proofs.YtfpfdmenhgageaaDoorW.PrintMore
attribute [local go_sem] max2_int min2_int max_two min_two max_three min_three max_four min_four   -- for this text's walks alone
set_option linter.unusedVariables false
set_option linter.unusedSimpArgs false

/-! ### word_Sort: function 42 (by hand) -/
def sortB (fs : List ByteArray) (ls : List S118) (l : List ByteArray) : List ByteArray × Int :=
  if allB fs ls l ≠ 0 then ([], allB fs ls l) else ((((l.map (lettersOf ls)).foldr (insU ls) []).map runesBytes), 0)
def word_Sort.f (l0_0 : List ByteArray) (l0_1 : List (S118)) (l1 : List ByteArray) : Option (List ByteArray × Int) := if fitsS l0_0 = true then some (sortB l0_0 l0_1 l1) else none
set_option maxHeartbeats 4000000 in
set_option maxRecDepth 100000 in
theorem word_Sort.calls (A0_0 : Option Addr) (c0_0 : Nat) (l0_0 : List ByteArray) (A0_1 : Option Addr) (c0_1 : Nat) (l0_1 : List (S118)) (A1 : Option Addr) (c1 : Nat) (l1 : List ByteArray) (r1 : List ByteArray) (r2 : Int) (w : World) (hr0_0 : Kd.C Kd.string w A0_0 l0_0.length l0_0) (hc0_0 : l0_0.length ≤ c0_0) (hr0_1 : Kd.C k118 w A0_1 l0_1.length l0_1) (hc0_1 : l0_1.length ≤ c0_1) (hr1 : Kd.C Kd.string w A1 l1.length l1) (hc1 : l1.length ≤ c1) (hG : GLaid w) (h : word_Sort.f l0_0 l0_1 l1 = some (r1, r2)) :
    Calls Tryd.prog 42 #[.agg #[.slice A0_0 l0_0.length c0_0, .slice A0_1 l0_1.length c0_1], .slice A1 l1.length c1] w fun e w' => ∃ v0_ : Value, e = .returned (.tuple #[v0_, .int .i64 r2]) ∧ Kd.R Kd.string 9 w' w.heap.size (fun _ => True) v0_ r1 ∧ Below w.heap.size w w' := by
  unfold word_Sort.f at h
  split at h
  case isFalse => cases h
  rename_i hfit
  replace h := Option.some.inj h
  have HFIT := Aside0.mk hfit
  have HG := Aside0.mk hG
  have HR0 := Aside0.mk hr0_0
  have HR1 := Aside0.mk hr0_1
  have HC0 := Aside0.mk hc0_0
  have HC1 := Aside0.mk hc0_1
  have HRL := Aside0.mk hr1
  have HCL := Aside0.mk hc1
  clear hfit hG hr0_0 hr0_1 hc0_0 hc0_1 hr1 hc1
  have hu := Tryd.underlying38
  unfold sortB at h
  have HAL := Aside0.mk (fun W a b c d => word_all A0_0 c0_0 l0_0 A0_1 c0_1 l0_1 A1 c1 l1 W a HC0.out b HC1.out c HCL.out d HFIT.out _ rfl)
  have hmf : ∀ (W : World) (a : Nat), (Instr.makeFunc (.func 86) #[] #[.pointer (some ⟨a, 0, none⟩)]).run Tryd.prog W = .ok (.func (.func 86) #[] #[.pointer (some ⟨a, 0, none⟩)]) W := by intro W a; simp [go_sem, Instr.makeFunc]
  by_cases e : allB l0_0 l0_1 l1 = 0
  · rw [if_neg (by simpa using e)] at h
    obtain ⟨rfl, rfl⟩ := Prod.mk.inj h
    have hlen : l1.length ≤ 4096 ∧ allE l0_1 l1 = 0 := by
      unfold allB at e
      split at e
      · simp at e
      · split at e
        · simp at e
        · exact ⟨by omega, e⟩
    rw [e] at HAL
    have HLEN := Aside0.mk hlen
    clear h e hlen
    go_enter Tryd.func42, Tryd.ntmps42
    go_wp2_with (first | ((with_reducible refine gate_dst (N := 2) rfl ?_); refine box_event ?hg (N := 2) ?hd (cs := #[.slice A0_0 l0_0.length c0_0, .slice A0_1 l0_1.length c0_1]) (t := 38) ?hr ?_; (case hd => rfl); (case hg => rfl); (case hr => first | (go_simp; done) | (go_simp; rfl)); intro gb hg w3 hbox hb; have HB := Aside0.mk hb; clear hb; have hcz0 : w3.cell? ⟨gb, 0, none⟩ = some (.slice A0_0 l0_0.length c0_0) := (blk_cell hbox 0).trans rfl; have hcz1 : w3.cell? ⟨gb, 1, none⟩ = some (.slice A0_1 l0_1.length c0_1) := (blk_cell hbox 1).trans rfl; clear hbox hg) | (go_at_call 80; refine (HAL.out _ (Kd.C_below HR0.out HB.out) (Kd.C_below HR1.out HB.out) (Kd.C_below HRL.out HB.out) (GLaid.below_ HG.out HB.out)).mono ?_; rintro e w4 ⟨hB4, hor⟩; obtain ⟨_, bm, m, b, rs, rfl, hwbm, hbmb, hbl, hM4, hRK4, hbk, hwd, hmp⟩ := hor.resolve_left (fun q => q.1 rfl); have HB4 := Aside0.mk (below_step HB.out hB4); have HBK := Aside0.mk hbk; have HWD := Aside0.mk hwd; have HMP := Aside0.mk hmp; have HM4 := Aside0.mk hM4; have HRK4 := Aside0.mk hRK4; have HBL := Aside0.mk (And.intro hwbm (And.intro hbmb hbl)); clear hB4 hor hbk hwd hmp hM4 hRK4 hwbm hbmb hbl))
    have hrn : rs.length = l1.length := by have := congrArg List.length HMP.out; simpa using this
    have hga : Below w4.heap.size w4 (w4.alloc (.cells #[.map (some bm)] 100)) := below_alloc (Below.refl _ w4) _
    have hWF : ∀ p ∈ rs, (∀ x ∈ p.2, (Lit.int .i32 x).wf = true) ∧ p.2.length ≤ 64 := fun p hp => by
      have : p.2 ∈ l1.map (lettersOf l0_1) := by rw [← HMP.out]; exact List.mem_map_of_mem hp
      obtain ⟨s, _, hs⟩ := List.mem_map.1 this
      rw [← hs]; exact lettersOf_wf l0_1 s
    have hs1 := word_sorted bm _ w4.heap.size b l1.length m l0_1 rs (w4.alloc (.cells #[.map (some bm)] 100)) (HM4.out.alloc _) HRK4.out (by have := HBL.out; omega) (by have := HBL.out; omega) ((blk_cell (blk_new w4 _) 0).trans rfl) (blk_alloc HBK.out _) (HWD.out.below hga) hWF (by rw [hrn]; exact HLEN.out.1)
    rw [hrn] at hs1
    refine hs1.mono ?_
    rintro e w6 ⟨rfl, rs', hperm, hsort, hbk6, hg6⟩
    have hrn' : rs'.length = l1.length := hperm.length_eq.trans hrn
    have hwd6 : Words w6 b rs' := words_below (HWD.out.below hga) hg6 (fun p hp => hperm.mem_iff.1 hp)
    have hB6 : Below w.heap.size w w6 := pw_below_grown (below_step HB4.out hga) _ (below_step HB4.out hga).size hg6 (fun k hk => by injection hk with hk; have := HBL.out; have := HB.out.size; omega)
    have hc1 := word_compact b l1.length rs' w6 hbk6 hwd6 (fun p hp => (hWF p (hperm.mem_iff.1 hp)).2) (by rw [hrn']; exact HLEN.out.1) (by rw [hrn']; exact Nat.le_refl _)
    have huq := sort_unique l0_1 rs' (l1.map (lettersOf l0_1)) (by have := hperm.map (·.2); rwa [HMP.out] at this) hsort (allE_ranked l0_1 l1 HLEN.out.2) (kpW rs') (fun j _ => rfl)
    have hkl : ((List.range rs'.length).filter (kpW rs')).length ≤ l1.length := by rw [← hrn']; exact Nat.le_trans (List.length_filter_le ..) (by simp)
    generalize (List.range rs'.length).filter (kpW rs') = K at hc1 huq hkl
    rw [hrn'] at hc1
    have HC1F := Aside0.mk hc1
    have HUQ := Aside0.mk huq
    have HKL := Aside0.mk hkl
    have HWD6 := Aside0.mk hwd6
    have HB6 := Aside0.mk hB6
    clear hrn hga hWF hs1 hperm hsort hbk6 hg6 hrn' hwd6 hB6 hc1 huq hkl
    have hmk : ∀ W : World, (Instr.makeSlice 35 (.int .i64 (K.length : Int)) (.int .i64 (K.length : Int))).run Tryd.prog W = .ok (.slice (some ⟨W.heap.size, 0, none⟩) K.length K.length) (W.alloc (.cells (strCells [] K.length).toArray 9)) := fun W => by
      have h := run_make_row' 35 9 (.string ⟨#[]⟩) 16 Tryd.underlying35 (by kernel_rfl) rfl .i64 .i64 K.length (by have := HKL.out; have := HLEN.out.1; omega) (by have := HKL.out; have := HLEN.out.1; omega) W
      rw [madeCells_one] at h
      simpa [strCells] using h
    go_wp2_with (go_at_call 87; refine HC1F.out.mono ?_; rintro e w7 ⟨rfl, hg7, hcell7⟩; have HWD7 : Aside0 (Words w7 b rs') := ⟨words_below HWD6.out hg7 (fun p hp => hp)⟩; have HB7 : Aside0 (Below w.heap.size w w7) := ⟨pw_below_grown HB6.out _ HB6.out.size hg7 (fun k hk => by injection hk with hk; have := HBL.out; have := HB.out.size; omega)⟩; have HCE := Aside0.mk hcell7; clear hg7 hcell7 HC1F)
    go_loopg [32] K.length (fun kq v32 w' => ∃ (k : Nat) (ss : List ByteArray), v32 = .int .i64 (k : Int) ∧ k + kq = K.length ∧ ss.length = k ∧ Aside0 (w'.heap[w7.heap.size]? = some (.cells (strCells ss K.length).toArray 9 (0, 0))) ∧
      Aside0 (ss = ((K.take k).map (wd rs')).map runesBytes) ∧ Aside0 (Below w7.heap.size w7 w'))
    case atStart => exact ⟨0, [], rfl, by omega, rfl, ⟨blk_new w7 _⟩, ⟨by simp⟩, ⟨below_alloc (Below.refl _ _) _⟩⟩
    case round =>
      obtain ⟨k, ss, rfl, hk, hss, HBO, HSS, HBW⟩ := hrel
      by_cases hlt : k < K.length
      · have b4 : decide ((k : Int) < (K.length : Int)) = true := decide_eq_true (by omega)
        have hki : (k : Int) < (K.length : Int) := by omega
        have rk : IntKind.i64.wrap ((k : Int) + 1) = (k : Int) + 1 := by have := HKL.out; have := HLEN.out.1; rw [IntKind.wrap_i64]; omega
        obtain ⟨A9, c9, e9, hl9, hf9⟩ := wv_is HWD7.out K[k]
        have hx := pw_cell_below HBW.out (HCE.out k K[k] (List.getElem?_eq_getElem hlt))
        rw [e9] at hx
        have hcv := C_runes (P := Tryd.prog) (A := A9) (c := c9) Tryd.underlying39 Tryd.underlying21 Tryd.underlying9 (Kd.F_now (Kd.F_below hf9 HBW.out))
        have hcl : k < (strCells ss K.length).length := by simp [strCells]; omega
        have hf : wr.frozen? ⟨w7.heap.size, k, none⟩ = false := blk_frozen HBO.out k
        have hcc : wr.cell? ⟨w7.heap.size, k, none⟩ = some ((strCells ss K.length)[k]'hcl) := (blk_cell HBO.out k).trans (by simp [List.getElem?_eq_getElem hcl])
        have HT : Aside0 (((K.take (k + 1)).map (wd rs')).map runesBytes = ss ++ [runesBytes (wd rs' K[k])]) := ⟨by rw [HSS.out, List.take_add_one, List.getElem?_eq_getElem hlt, List.map_append, List.map_append]; rfl⟩
        have HBO2 : Aside0 ((wr.setCell ⟨w7.heap.size, k, none⟩ (.string (runesBytes (wd rs' K[k])))).heap[w7.heap.size]? = some (.cells (strCells (ss ++ [runesBytes (wd rs' K[k])]) K.length).toArray 9 (0, 0))) := ⟨by rw [← strCells_set ss K.length _ (by omega), hss]; exact blk_set HBO.out k _⟩
        have HBW2 : Aside0 (Below w7.heap.size w7 (wr.setCell ⟨w7.heap.size, k, none⟩ (.string (runesBytes (wd rs' K[k]))))) := ⟨HBW.out.setCell (p := ⟨w7.heap.size, k, none⟩) (Nat.le_refl _) _⟩
        generalize runesBytes (wd rs' K[k]) = s at hcv HT HBO2 HBW2
        generalize (wd rs' K[k]).length = n9 at hx hcv
        clear e9 hl9 hf9
        go_wp2
        go_roundg (K.length - (k + 1))
        case measure => omega
        case rel => exact ⟨k + 1, ss ++ [s], by first | rfl | (congr 1; omega), by omega, by simp [hss], HBO2, ⟨HT.out.symm⟩, HBW2⟩
      · have b4 : decide ((k : Int) < (K.length : Int)) = false := decide_eq_false (by omega)
        have hkn : k = K.length := by omega
        have HFIN : Aside0 (ss = ((l1.map (lettersOf l0_1)).foldr (insU l0_1) []).map runesBytes) := ⟨by rw [HSS.out, hkn, List.take_length, HUQ.out]⟩
        have hcs : strCells ss K.length = ss.map Value.string := by unfold strCells; rw [show K.length - ss.length = 0 by omega]; simp
        have hbo := HBO.out
        rw [hcs] at hbo
        have HBO3 := Aside0.mk hbo
        have hsk : ss.length = K.length := by omega
        have HSK := Aside0.mk hsk
        clear hcs hbo hsk
        go_wp2
        go_ret2
        refine ⟨_, rfl, ?_, below_step HB7.out HBW.out⟩
        rw [← HFIN.out, ← HSK.out]
        exact Kd.R_of_own ⟨by simp [encs], .inr ⟨w7.heap.size, ss.length, _, rfl, HB7.out.size, HBO3.out, Nat.le_refl _, by have := HKL.out; have := HLEN.out.1; have := HSK.out; unfold maxLen; omega, by simp, by simp only [encs, List.toList_toArray, Nat.mul_one]; exact List.take_of_length_le (by simp)⟩⟩ (fun _ _ => trivial)
  · rw [if_pos e] at h
    obtain ⟨rfl, rfl⟩ := Prod.mk.inj h
    have b1 : decide (allB l0_0 l0_1 l1 = 0) = false := decide_eq_false e
    have HE := Aside0.mk e
    clear h e
    generalize allB l0_0 l0_1 l1 = z at *
    go_enter Tryd.func42, Tryd.ntmps42
    go_wp2_with (first | ((with_reducible refine gate_dst (N := 2) rfl ?_); refine box_event ?hg (N := 2) ?hd (cs := #[.slice A0_0 l0_0.length c0_0, .slice A0_1 l0_1.length c0_1]) (t := 38) ?hr ?_; (case hd => rfl); (case hg => rfl); (case hr => first | (go_simp; done) | (go_simp; rfl)); intro gb hg w3 hbox hb; have HB := Aside0.mk hb; clear hb; have hcz0 : w3.cell? ⟨gb, 0, none⟩ = some (.slice A0_0 l0_0.length c0_0) := (blk_cell hbox 0).trans rfl; have hcz1 : w3.cell? ⟨gb, 1, none⟩ = some (.slice A0_1 l0_1.length c0_1) := (blk_cell hbox 1).trans rfl; clear hbox hg) | (go_at_call 80; refine (HAL.out _ (Kd.C_below HR0.out HB.out) (Kd.C_below HR1.out HB.out) (Kd.C_below HRL.out HB.out) (GLaid.below_ HG.out HB.out)).mono ?_; rintro e w4 ⟨hB4, hor⟩; obtain ⟨_, rfl⟩ := hor.resolve_right (fun q => HE.out q.1); have HB4 := Aside0.mk (below_step HB.out hB4); clear hB4 hor))
    go_ret2
    exact ⟨_, rfl, Kd.R_nil _ _ _ _ _, below_alloc HB4.out _⟩


/-! ### cognatelaw03_among: function 43 -/
def cognatelaw03_among.l0 : Nat → List ByteArray → ByteArray → Int → Option (Bool)
  | 0, _, _, _ => none
  | k + 1, x0, x1, x5 => if x5 < (x0.length : Int) then (if 0 ≤ x5 then (if (rdOf ByteArray.empty x0 x5).toList = x1.toList then (some true) else (cognatelaw03_among.l0 k x0 x1 (wrap64 (x5 + 1)))) else (none)) else (some false)
def cognatelaw03_among.f (k : Nat) (l0 : List ByteArray) (a1 : ByteArray) : Option (Bool) := cognatelaw03_among.l0 k l0 a1 0
theorem cognatelaw03_among.mono_l : ∀ k, (∀ y0 y1 y2, LeO (cognatelaw03_among.l0 k y0 y1 y2) (cognatelaw03_among.l0 (k + 1) y0 y1 y2))
  | 0 => fun _ _ _ r h => by simp [cognatelaw03_among.l0] at h
  | k + 1 => by
    have ih0 := cognatelaw03_among.mono_l k
    · intro y0 y1 y2
      unfold cognatelaw03_among.l0
      repeat' first
      | (with_reducible exact ih0 _ _ _)
      | (with_reducible exact LeO.refl _)
      | (with_reducible exact LeO.none _)
      | (with_reducible refine LeO.ite ?_ ?_)
      | (with_reducible refine LeO.bind ?_ (fun _ => ?_))
      | exact ih0 _ _ _
      | exact LeO.none _
      | refine LeO.ite ?_ ?_
      | refine LeO.bind ?_ (fun _ => ?_)
theorem cognatelaw03_among.mono : ∀ a0 a1 k, LeO (cognatelaw03_among.f k a0 a1) (cognatelaw03_among.f (k + 1) a0 a1) := by
  intro a0 a1 k
  have ih0 := cognatelaw03_among.mono_l k
  unfold cognatelaw03_among.f
  repeat' first
      | (with_reducible exact ih0 _ _ _)
      | (with_reducible exact LeO.refl _)
      | (with_reducible exact LeO.none _)
      | (with_reducible refine LeO.ite ?_ ?_)
      | (with_reducible refine LeO.bind ?_ (fun _ => ?_))
      | exact ih0 _ _ _
      | exact LeO.none _
      | refine LeO.ite ?_ ?_
      | refine LeO.bind ?_ (fun _ => ?_)
set_option maxHeartbeats 8000000 in
set_option maxRecDepth 100000 in
theorem cognatelaw03_among.calls (k : Nat) (A0 : Option Addr) (c0 : Nat) (l0 : List ByteArray) (a1 : ByteArray) (r : Bool) (w : World) (hr0 : Kd.C Kd.string w A0 l0.length l0) (hc0 : l0.length ≤ c0) (h : cognatelaw03_among.f k l0 a1 = some r) :
    Calls Tryd.prog 43 #[.slice A0 l0.length c0, .string a1] w fun e w' => e = .returned (.bool r) ∧ Drawn0 w w' := by
  have HR0 := Aside0.mk hr0
  have HC0 := Aside0.mk hc0
  clear hr0 hc0
  have H : (cognatelaw03_among.l0 k l0 a1 0) = some r := h
  clear h
  have H' := Aside0.mk H
  clear H
  go_enter Tryd.func43, Tryd.ntmps43
  go_wp2
  go_loopg [5] k (fun kq v5 w' => ∃ (x5_1 : Int), v5 = .int .i64 x5_1 ∧ Aside0 (cognatelaw03_among.l0 kq l0 a1 x5_1 = some r) ∧ Aside0 (kq ≤ k) ∧ Drawn0 w w')
  case atStart => exact ⟨(0), (by first | rfl | (simp; done) | (simp [*]; done)), H', ⟨Nat.le_refl _⟩, by repeat (first | exact Drawn0.refl _ | apply Drawn0.step)⟩
  case round =>
    clear H'
    try clear p2
    obtain ⟨x5_1, rfl, HA, HK1, ⟨m1, rfl⟩⟩ := hrel
    cases gk with
    | zero => exact absurd HA.out (by simp [cognatelaw03_among.l0])
    | succ k1 =>
      have H := HA.out
      clear HA
      simp only [cognatelaw03_among.l0] at H
      by_cases c3 : x5_1 < (l0.length : Int)
      · rw [if_pos c3] at H
        have c3b0 : decide (x5_1 < (l0.length : Int)) = true := decide_eq_true c3
        clear c3
        by_cases c4 : 0 ≤ x5_1
        · rw [if_pos c4] at H
          have c4b0 : decide (0 ≤ x5_1) = true := decide_eq_true c4
          clear c4
          by_cases c5 : (rdOf ByteArray.empty l0 x5_1).toList = a1.toList
          · rw [if_pos c5] at H
            have c5b0 : ((rdOf ByteArray.empty l0 x5_1).toList == a1.toList) = true := beq_iff_eq.mpr c5
            have c5b1 : ((rdOf ByteArray.empty l0 x5_1).toList != a1.toList) = false := bne_eq_false_iff_eq.mpr c5
            clear c5
            obtain rfl := Option.some.inj H
            have p127 : 0 ≤ (x5_1 : Int) := of_decide_eq_true (by first | (with_reducible assumption) | assumption)
            have q127 : x5_1 < (l0.length : Int) := of_decide_eq_true (by first | (with_reducible assumption) | assumption)
            obtain ⟨ad127, e127, hx127_0⟩ := Kd.at_string HR0.out x5_1 p127 q127
            cases e127
            replace p127 := eq_true p127
            replace q127 := eq_true q127
            go_wp2
            go_ret
            exact ⟨by first | rfl | (simp; done) | (simp [*]; done), by repeat (first | exact Drawn0.refl _ | apply Drawn0.step)⟩
          · rw [if_neg c5] at H
            have c5b0 : ((rdOf ByteArray.empty l0 x5_1).toList == a1.toList) = false := beq_eq_false_iff_ne.mpr c5
            have c5b1 : ((rdOf ByteArray.empty l0 x5_1).toList != a1.toList) = true := bne_iff_ne.mpr c5
            have H' := Aside0.mk H
            clear H
            have p127 : 0 ≤ (x5_1 : Int) := of_decide_eq_true (by first | (with_reducible assumption) | assumption)
            have q127 : x5_1 < (l0.length : Int) := of_decide_eq_true (by first | (with_reducible assumption) | assumption)
            obtain ⟨ad127, e127, hx127_0⟩ := Kd.at_string HR0.out x5_1 p127 q127
            cases e127
            replace p127 := eq_true p127
            replace q127 := eq_true q127
            go_wp2
            go_roundg k1
            case measure => have := HK1.out; omega
            case rel => exact ⟨(wrap64 (x5_1 + 1)), (by first | rfl | (simp; done) | (simp [*]; done)), H', ⟨by have := HK1.out; omega⟩, by repeat (first | exact Drawn0.refl _ | apply Drawn0.step)⟩
        · rw [if_neg c4] at H
          exact absurd H (by simp)
      · rw [if_neg c3] at H
        have c3b0 : decide (x5_1 < (l0.length : Int)) = false := decide_eq_false c3
        clear c3
        obtain rfl := Option.some.inj H
        go_wp2
        go_ret
        exact ⟨by first | rfl | (simp; done) | (simp [*]; done), by repeat (first | exact Drawn0.refl _ | apply Drawn0.step)⟩

end Go.Proofs.YtfpfdmenhgageaaDoor.S
