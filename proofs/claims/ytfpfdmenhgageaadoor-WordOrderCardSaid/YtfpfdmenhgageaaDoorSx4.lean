-- Written by this session's program (wip/ext) with the kit's printer. Not trusted: Lean checks it.
import Derived.Test.YtfpfdmenhgageaaDoorSx0
import Derived.Test.YtfpfdmenhgageaaDoorSx1
import Derived.Test.YtfpfdmenhgageaaDoorSx2
import Derived.Test.YtfpfdmenhgageaaDoorSx3
namespace Go.Proofs.YtfpfdmenhgageaaDoor.S
open Go.RowKit Go.Proofs.YtfpfdmenhgageaaDoorW.PrintWords Go.Proofs.YtfpfdmenhgageaaDoorW.PrintLast Go.Proofs.YtfpfdmenhgageaaDoorW.PrintMore
attribute [local go_sem] max2_int min2_int max_two min_two max_three min_three max_four min_four   -- for this text's walks alone
set_option linter.unusedVariables false
set_option linter.unusedSimpArgs false

/-! ### runes_Pieces: function 101 (by hand) -/
def runes_Pieces.f (a0 : ByteArray) : Option ((List (S97)) × Int) := if a0.size > 65536 then some ([], 3) else some (pieces a0, 0)
set_option maxHeartbeats 4000000 in
set_option maxRecDepth 100000 in
theorem runes_Pieces.calls (a0 : ByteArray) (r1 : List (S97)) (r2 : Int) (w : World) (hG : GLaid w) (h : runes_Pieces.f a0 = some (r1, r2)) :
    Calls Tryd.prog 101 #[.string a0] w fun e w' => ∃ v0_ : Value, e = .returned (.tuple #[v0_, .int .i64 r2]) ∧ Kd.R k97 97 w' w.heap.size (fun _ => True) v0_ r1 ∧ Below w.heap.size w w' := by
  unfold runes_Pieces.f at h
  by_cases hs : a0.size > 65536
  · rw [if_pos hs] at h
    obtain ⟨rfl, rfl⟩ := Prod.mk.inj (Option.some.inj h)
    have hl : runes_long.f a0 = some 3 := by unfold runes_long.f; rw [if_pos (by omega)]
    clear h hs hG
    go_enter Tryd.func101, Tryd.ntmps101
    go_wp2_with (go_at_call 65; refine (runes_long.calls a0 3 _ hl).mono ?_; rintro e w1 ⟨rfl, m1, rfl⟩)
    go_ret2
    exact ⟨_, rfl, Kd.R_nil _ _ _ _ _, pw_below_drewN (Below.refl _ _) _⟩
  · rw [if_neg hs] at h
    obtain ⟨rfl, rfl⟩ := Prod.mk.inj (Option.some.inj h)
    have hl : runes_long.f a0 = some 0 := by unfold runes_long.f; rw [if_neg (by omega)]
    clear h
    have HG := Aside0.mk hG
    clear hG
    have hmf : ∀ (W : World), (Instr.makeFunc (.func 129) #[] #[.pointer (some ⟨w.heap.size, 0, none⟩)]).run Tryd.prog W = .ok (.func (.func 129) #[] #[.pointer (some ⟨w.heap.size, 0, none⟩)]) W := by intro W; simp [go_sem, Instr.makeFunc]
    go_enter Tryd.func101, Tryd.ntmps101
    go_wp2_with (go_at_call 65; refine (runes_long.calls a0 0 _ hl).mono ?_; rintro e w1 ⟨rfl, m1, rfl⟩)
    have hB0 := below_alloc (pw_below_drewN (Below.refl w.heap.size w) m1) (.cells #[.slice none 0 0] 88)
    have hc0 := blk_new (w.drewN m1) (.cells #[.slice none 0 0] 88)
    have hsz0 : ((w.drewN m1).alloc (.cells #[.slice none 0 0] 88)).heap.size = w.heap.size + 1 := by simp
    generalize (w.drewN m1).alloc (.cells #[.slice none 0 0] 88) = W0 at hB0 hc0 hsz0
    replace hc0 : W0.heap[w.heap.size]? = some (.cells #[.slice none 0 0] 88 (0, 0)) := hc0
    refine (runes_each 129 #[.pointer (some ⟨w.heap.size, 0, none⟩)] (enters_of Tryd.func129 (by kernel_rfl) rfl) a0 W0 (by omega)
      (fun pos W => ∃ v done f, W.heap[w.heap.size]? = some (.cells #[v] 88 (0, 0)) ∧ Kd.R k97 97 W w.heap.size (fun b => b ≠ w.heap.size ∧ b ≠ W0.heap.size) v done ∧ Below w.heap.size w W ∧
        done ++ pcs a0 f pos = pieces a0 ∧ a0.size ≤ pos + f ∧ done.length ≤ pos ∧ pos ≤ a0.size) (fun _ => False) ?hI ?hst ?hG ?step).mono ?_
    case hI => exact ⟨_, [], a0.size, hc0, Kd.R_nil _ _ _ _ _, hB0, rfl, by omega, by simp, by omega⟩
    case hst =>
      rintro pos W W' ⟨v, done, f, h1, h2, h3, h4⟩ hg
      exact ⟨v, done, f, blk_grown h1 hg (by simp; omega), Kd.R_grown h2 hg (fun k hk => by simpa using hk.2), pw_below_grown h3 _ h3.size hg (fun k hk => by injection hk with hk; omega), h4⟩
    case hG =>
      rintro pos W ⟨v, done, f, h1, h2, h3, h4⟩
      exact GLaid.below_ HG.out h3
    case step =>
      rintro pos W hps ⟨v, done, f, h1, h2, h3, h4, h5, h6, h7⟩ hlt ⟨q, hq⟩
      refine (runes_Pieces.one (pcAt a0 pos) w.heap.size w.heap.size v done _ w W h1 h2 (fun b hb => hb.1) (fun b hb => ⟨by omega, by omega⟩) h3 (Nat.le_refl _) (by omega)).mono ?_
      rintro e W' ⟨rfl, v', g1, g2, g3, g4⟩
      refine ⟨true, rfl, g4 _ hlt (by omega) (fun e => (h2.1 _ e.symm).2 rfl), fun _ => ?_, fun e => by cases e⟩
      obtain ⟨f', rfl⟩ : ∃ f', f = f' + 1 := ⟨f - 1, by omega⟩
      have hw := Lib.decode_width_pos a0 pos hps
      have hle := (decode_le65 a0 pos hps).2
      refine ⟨v', _, f', g1, g2, g3, ?_, by omega, by simp; omega, hle⟩
      rw [← h4]
      simp [pcs, hps]
    rintro e W' ⟨rfl, hor⟩
    obtain ⟨pos, hp, v, done, f, h1, h2, h3, h4, h5, h6, h7⟩ := hor.resolve_right id
    rw [pcs_end a0 f pos (by omega), List.append_nil] at h4
    subst h4
    obtain ⟨A1, c1, rfl, _, _⟩ := Kd.R_reads h2
    have hcc : W'.cell? ⟨w.heap.size, 0, none⟩ = some (.slice A1 (pieces a0).length c1) := (blk_cell h1 0).trans rfl
    have HR2 := Aside0.mk h2
    have HB3 := Aside0.mk h3
    clear h1 h2 h3 hor hmf hl
    go_wp2
    go_ret2
    exact ⟨_, rfl, Kd.R_mono HR2.out (fun _ _ => trivial), HB3.out⟩


def rankOf (ls : List S118) (r : Int) : Option Nat := ls.findIdx? (fun l => decide (l.f0 = r))
/-- The map of the letters' numbers. -/
def Ranked (m : Int → Option Int) (ls : List S118) : Prop := ∀ r, m r = Option.map (fun i : Nat => (i : Int)) (rankOf ls r)
theorem Ranked.snoc {m m' : Int → Option Int} {ls : List S118} (h : Ranked m ls) (x : S118) (hn : rankOf ls x.f0 = none) (h1 : m' x.f0 = some (ls.length : Int)) (h2 : ∀ y, y ≠ x.f0 → m' y = m y) : Ranked m' (ls ++ [x]) := fun r => by
  unfold rankOf at hn ⊢
  rw [List.findIdx?_append]
  by_cases e : r = x.f0
  · subst e; rw [h1, hn]; simp
  · rw [h2 r e, h r]
    unfold rankOf
    cases List.findIdx? (fun l => decide (l.f0 = r)) ls <;> simp [Ne.symm e]
theorem lets_lettered {n : Int} : ∀ {ls : List S118} {seen : List Int}, letsB n seen ls = true → ∀ l ∈ ls, letteredB l.f0 = true
  | [], _, _, l, hl => by cases hl
  | x :: xs, seen, h, l, hl => by
    simp only [letsB, Bool.and_eq_true] at h
    rcases List.mem_cons.1 hl with rfl | hl
    · exact h.1
    · exact lets_lettered h.2.2.2 l hl
theorem lets_fresh {n : Int} : ∀ {ls : List S118} {seen : List Int} (k : Nat) (x : S118), letsB n seen ls = true → ls[k]? = some x → (∀ g ∈ seen, g ≠ x.f0) ∧ ∀ y ∈ ls.take k, y.f0 ≠ x.f0
  | [], _, _, _, _, h => by simp at h
  | l :: ls, seen, 0, x, h, hx => by
    simp only [List.getElem?_cons_zero, Option.some.injEq] at hx
    subst hx
    simp only [letsB, Bool.and_eq_true, Bool.not_eq_true', List.any_eq_false, decide_eq_true_eq] at h
    exact ⟨fun g hg => h.2.1 g hg, by simp⟩
  | l :: ls, seen, k + 1, x, h, hx => by
    simp only [letsB, Bool.and_eq_true] at h
    obtain ⟨a, b⟩ := lets_fresh k x h.2.2.2 (by simpa using hx)
    refine ⟨fun g hg => a g (by simp [hg]), fun y hy => ?_⟩
    rw [List.take_succ_cons] at hy
    rcases List.mem_cons.1 hy with rfl | hy
    · exact a _ (by simp)
    · exact b y hy
theorem rank_none (ls : List S118) (r : Int) (h : ∀ y ∈ ls, y.f0 ≠ r) : rankOf ls r = none := by
  unfold rankOf
  rw [List.findIdx?_eq_none_iff]
  intro y hy
  simpa using h y hy
theorem alpha_parts {fs : List ByteArray} {ls : List S118} (h : alphaB fs ls = true) : ls.length ≤ 128 ∧ letsB fs.length [] ls = true := by
  unfold alphaB at h
  simp only [Bool.and_eq_true, decide_eq_true_eq] at h
  exact ⟨h.2.2.1, h.2.2.2.2⟩
set_option maxHeartbeats 4000000 in
set_option maxRecDepth 100000 in
theorem word_ranks.no (A0_0 : Option Addr) (c0_0 : Nat) (l0_0 : List ByteArray) (A0_1 : Option Addr) (c0_1 : Nat) (l0_1 : List (S118)) (w : World) (hr0 : Kd.C Kd.string w A0_0 l0_0.length l0_0) (hc0 : l0_0.length ≤ c0_0) (hr1 : Kd.C k118 w A0_1 l0_1.length l0_1) (hc1 : l0_1.length ≤ c0_1)
    (hfit : fitsS l0_0 = true) (hal : alphaB l0_0 l0_1 = false) : Calls Tryd.prog 69 #[.agg #[.slice A0_0 l0_0.length c0_0, .slice A0_1 l0_1.length c0_1]] w fun e w' => e = .returned (.tuple #[.map none, .int .i64 7]) ∧ Below w.heap.size w w' := by
  have HR0 := Aside0.mk hr0
  have HR1 := Aside0.mk hr1
  have HC0 := Aside0.mk hc0
  have HC1 := Aside0.mk hc1
  clear hr0 hr1 hc0 hc1
  have hu := Tryd.underlying38
  have hmk := @YtfpfdmenhgageaaDoorMp.run_makeMap_hint Tryd.prog 100 _ _ Tryd.underlying100
  have HCK : Aside0 (feature_Check.f l0_0 l0_1 = some 7) := ⟨by unfold feature_Check.f; rw [if_pos hfit, hal]; rfl⟩
  go_enter Tryd.func69, Tryd.ntmps69
  go_wp2_with (first | ((with_reducible refine gate_dst (N := 1) rfl ?_); refine box_event ?hg (N := 1) ?hd (cs := #[.slice A0_0 l0_0.length c0_0, .slice A0_1 l0_1.length c0_1]) (t := 38) ?hr ?_; (case hd => rfl); (case hg => rfl); (case hr => first | (go_simp; done) | (go_simp; rfl)); intro gb hg w3 hbox hb; have HB := Aside0.mk hb; clear hb; have hcz0 : w3.cell? ⟨gb, 0, none⟩ = some (.slice A0_0 l0_0.length c0_0) := (blk_cell hbox 0).trans rfl; have hcz1 : w3.cell? ⟨gb, 1, none⟩ = some (.slice A0_1 l0_1.length c0_1) := (blk_cell hbox 1).trans rfl; have HGB : Aside0 (w.heap.size ≤ gb) := ⟨Nat.le_of_eq hg.symm⟩; clear hbox hg) | (go_at_call 94; refine (feature_Check.calls A0_0 c0_0 l0_0 A0_1 c0_1 l0_1 _ _ (Kd.C_below HR0.out HB.out) HC0.out (Kd.C_below HR1.out HB.out) HC1.out HCK.out).mono ?_; rintro e w4 ⟨rfl, hb4⟩; have hd1 := pw_cell_below hb4 hcz1; have hdm1 : (w4.alloc (.map #[] 0)).cell? ⟨gb, 1, none⟩ = some (.slice A0_1 l0_1.length c0_1) := pw_cell_below (below_alloc (Below.refl _ w4) _) hd1; have HB4 := Aside0.mk (below_step HB.out hb4); clear hb4 hcz0 hcz1))
  go_ret2
  exact ⟨rfl, HB4.out⟩
set_option maxHeartbeats 4000000 in
set_option maxRecDepth 100000 in
theorem word_ranks.yes (A0_0 : Option Addr) (c0_0 : Nat) (l0_0 : List ByteArray) (A0_1 : Option Addr) (c0_1 : Nat) (l0_1 : List (S118)) (w : World) (hr0 : Kd.C Kd.string w A0_0 l0_0.length l0_0) (hc0 : l0_0.length ≤ c0_0) (hr1 : Kd.C k118 w A0_1 l0_1.length l0_1) (hc1 : l0_1.length ≤ c0_1)
    (hfit : fitsS l0_0 = true) (hal : alphaB l0_0 l0_1 = true) : Calls Tryd.prog 69 #[.agg #[.slice A0_0 l0_0.length c0_0, .slice A0_1 l0_1.length c0_1]] w fun e w' =>
      ∃ bm m, e = .returned (.tuple #[.map (some bm), .int .i64 0]) ∧ w.heap.size ≤ bm ∧ YtfpfdmenhgageaaDoorMp.MapI (YtfpfdmenhgageaaDoorMp.intKey Tryd.underlying21) (YtfpfdmenhgageaaDoorMp.intElem Tryd.underlying3) w' bm l0_1.length m ∧ Ranked m l0_1 ∧ Below w.heap.size w w' := by
  have HR0 := Aside0.mk hr0
  have HR1 := Aside0.mk hr1
  have HC0 := Aside0.mk hc0
  have HC1 := Aside0.mk hc1
  clear hr0 hr1 hc0 hc1
  have hu := Tryd.underlying38
  have hmk := @YtfpfdmenhgageaaDoorMp.run_makeMap_hint Tryd.prog 100 _ _ Tryd.underlying100
  have HCK : Aside0 (feature_Check.f l0_0 l0_1 = some 0) := ⟨by unfold feature_Check.f; rw [if_pos hfit, hal]; rfl⟩
  have HL : Aside0 (l0_1.length ≤ 128) := ⟨(alpha_parts hal).1⟩
  have HLS := Aside0.mk (alpha_parts hal).2
  go_enter Tryd.func69, Tryd.ntmps69
  go_wp2_with (first | ((with_reducible refine gate_dst (N := 1) rfl ?_); refine box_event ?hg (N := 1) ?hd (cs := #[.slice A0_0 l0_0.length c0_0, .slice A0_1 l0_1.length c0_1]) (t := 38) ?hr ?_; (case hd => rfl); (case hg => rfl); (case hr => first | (go_simp; done) | (go_simp; rfl)); intro gb hg w3 hbox hb; have HB := Aside0.mk hb; clear hb; have hcz0 : w3.cell? ⟨gb, 0, none⟩ = some (.slice A0_0 l0_0.length c0_0) := (blk_cell hbox 0).trans rfl; have hcz1 : w3.cell? ⟨gb, 1, none⟩ = some (.slice A0_1 l0_1.length c0_1) := (blk_cell hbox 1).trans rfl; have HGB : Aside0 (w.heap.size ≤ gb) := ⟨Nat.le_of_eq hg.symm⟩; clear hbox hg) | (go_at_call 94; refine (feature_Check.calls A0_0 c0_0 l0_0 A0_1 c0_1 l0_1 _ _ (Kd.C_below HR0.out HB.out) HC0.out (Kd.C_below HR1.out HB.out) HC1.out HCK.out).mono ?_; rintro e w4 ⟨rfl, hb4⟩; have hd1 := pw_cell_below hb4 hcz1; have hdm1 : (w4.alloc (.map #[] 0)).cell? ⟨gb, 1, none⟩ = some (.slice A0_1 l0_1.length c0_1) := pw_cell_below (below_alloc (Below.refl _ w4) _) hd1; have HB4 := Aside0.mk (below_step HB.out hb4); clear hb4 hcz0 hcz1))
  have HM : Aside0 (YtfpfdmenhgageaaDoorMp.MapI (YtfpfdmenhgageaaDoorMp.intKey Tryd.underlying21) (YtfpfdmenhgageaaDoorMp.intElem Tryd.underlying3) (w4.alloc (.map #[] 0)) w4.heap.size 0 (fun _ => none)) := ⟨YtfpfdmenhgageaaDoorMp.MapI.made _ _ w4⟩
  have HW4 : Aside0 (w.heap.size ≤ w4.heap.size) := ⟨HB4.out.size⟩
  go_loopg [20] l0_1.length (fun kq v20 w' => ∃ (k : Nat) (m : Int → Option Int), v20 = .int .i64 (k : Int) ∧
    Aside0 (k + kq = l0_1.length) ∧ Aside0 (Ranked m (l0_1.take k)) ∧ Aside0 (YtfpfdmenhgageaaDoorMp.MapI (YtfpfdmenhgageaaDoorMp.intKey Tryd.underlying21) (YtfpfdmenhgageaaDoorMp.intElem Tryd.underlying3) w' w4.heap.size k m) ∧ Aside0 (Below w.heap.size w w'))
  case atStart => exact ⟨0, _, rfl, ⟨by omega⟩, ⟨fun r => by simp [rankOf]⟩, HM, ⟨below_alloc HB4.out _⟩⟩
  case round =>
    clear HM HB4 hdm1 hd1
    obtain ⟨k, m, rfl, HI, HS, HM, HB5⟩ := hrel
    by_cases hlt : k < l0_1.length
    · have b4 : decide ((k : Int) < (l0_1.length : Int)) = true := decide_eq_true (by omega)
      obtain ⟨ad, e0, hx0, hx1, hx2⟩ := at_T118 HR1.out (k : Int) (by omega) (by omega)
      obtain rfl := e0
      replace hx0 := pw_cell_below HB5.out hx0
      replace hx1 := pw_cell_below HB5.out hx1
      replace hx2 := pw_cell_below HB5.out hx2
      have hd := drop_let l0_1 k hlt
      have hmem : rd_T118 l0_1 (k : Int) ∈ l0_1 := by simp [rd_T118, List.getD_eq_getElem?_getD, List.getElem?_eq_getElem hlt]
      have hat : l0_1[k]? = some (rd_T118 l0_1 (k : Int)) := by simp [rd_T118, List.getD_eq_getElem?_getD, List.getElem?_eq_getElem hlt]
      generalize rd_T118 l0_1 (k : Int) = f at hx0 hx1 hx2 hd hmem hat
      obtain ⟨f0, f1, f2⟩ := f
      simp only [Int.toNat_natCast] at hx0 hx1 hx2
      have HD := Aside0.mk hd
      have HWF : Aside0 ((Lit.int .i32 f0).wf = true) := ⟨lettered_wf (lets_lettered HLS.out _ hmem)⟩
      have HFR : Aside0 (rankOf (l0_1.take k) f0 = none) := ⟨rank_none _ _ (lets_fresh k _ HLS.out hat).2⟩
      have hl0 : (wr.alloc (.cells #[.int .i32 f0, .int .u32 f1, .int .u32 f2] 118)).cell? ⟨wr.heap.size, 0, none⟩ = some (.int .i32 f0) := (blk_cell (blk_new wr _) 0).trans rfl
      have HMA := Aside0.mk (HM.out.alloc (.cells #[.int .i32 f0, .int .u32 f1, .int .u32 f2] 118))
      have HBA := Aside0.mk (below_alloc HB5.out (.cells #[.int .i32 f0, .int .u32 f1, .int .u32 f2] 118))
      clear hd hmem hat
      go_wp2_with (at_mapUpdate; refine YtfpfdmenhgageaaDoorMp.wp_update _ rfl _ _ _ _ rfl (YtfpfdmenhgageaaDoorMp.intKey Tryd.underlying21) (YtfpfdmenhgageaaDoorMp.intElem Tryd.underlying3) Tryd.underlying100 w4.heap.size k m rfl HMA.out (by have := HL.out; unfold maxLen; omega) f0 rfl HWF.out (k : Int) rfl (show (Lit.int .i64 (k : Int)).wf = true from by have := HL.out; simp only [Lit.wf, IntKind.min, IntKind.max, IntKind.signed, IntKind.bits, Bool.and_eq_true, decide_eq_true_eq, if_true]; omega) ?_; intro w7 hm7 hg7; have HM7 := Aside0.mk hm7; have HG7 := Aside0.mk hg7; clear hm7 hg7)
      go_roundg (l0_1.length - (k + 1))
      case measure => have := HI.out; omega
      case rel =>
        have hL := HL.out
        refine ⟨k + 1, _, by rw [show wrap64 ((k : Int) + 1) = ((k + 1 : Nat) : Int) from by unfold wrap64; omega], ⟨by omega⟩, ⟨?_⟩, HM7, ⟨?_⟩⟩
        · rw [take_snoc l0_1 k _ HD.out]
          refine HS.out.snoc _ HFR.out (by simp; omega) (fun y hy => by simp only [if_neg hy])
        · exact pw_below_grown HBA.out _ HBA.out.size HG7.out (fun j hj => by injection hj with hj; subst hj; exact HW4.out)
    · have b4 : decide ((k : Int) < (l0_1.length : Int)) = false := decide_eq_false (by omega)
      have hk : k = l0_1.length := by have := HI.out; omega
      subst hk
      go_wp2
      go_ret2
      refine ⟨_, m, rfl, HW4.out, HM.out, ?_, HB5.out⟩
      have := HS.out
      rwa [List.take_length] at this

end Go.Proofs.YtfpfdmenhgageaaDoor.S
