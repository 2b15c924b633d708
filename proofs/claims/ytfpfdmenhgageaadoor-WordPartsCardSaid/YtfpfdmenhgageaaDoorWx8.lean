-- Written by this session's program (wip/ext) with the kit's printer. Not trusted: Lean checks it.
import Derived.Test.YtfpfdmenhgageaaDoorWx0
import Derived.Test.YtfpfdmenhgageaaDoorWx1
import Derived.Test.YtfpfdmenhgageaaDoorWx3
import Derived.Test.YtfpfdmenhgageaaDoorWx4
import Derived.Test.YtfpfdmenhgageaaDoorWx5
import Derived.Test.YtfpfdmenhgageaaDoorWx7
namespace Go.Proofs.YtfpfdmenhgageaaDoor.W
open Go.RowKit Go.Proofs.YtfpfdmenhgageaaDoorW.PrintWords Go.Proofs.YtfpfdmenhgageaaDoorW.PrintLast Go.Proofs.YtfpfdmenhgageaaDoorW.PrintMore
attribute [local go_sem] max2_int min2_int max_two min_two max_three min_three max_four min_four   -- for this text's walks alone
set_option linter.unusedVariables false
set_option linter.unusedSimpArgs false

/-! ### word_Common: function 38 (by hand) -/
def comPre : List Int → List Int → Nat
  | x :: xs, y :: ys => if x = y then comPre xs ys + 1 else 0
  | [], _ => 0
  | _ :: _, [] => 0
def comB (fs : List ByteArray) (ls : List S118) (x y : ByteArray) : Int × Int := if (bothB fs ls x y).2.2 ≠ 0 then (0, (bothB fs ls x y).2.2) else ((comPre (bothB fs ls x y).1 (bothB fs ls x y).2.1 : Int), 0)
theorem comPre_cons (x y : Int) (xs ys : List Int) : comPre (x :: xs) (y :: ys) = if x = y then comPre xs ys + 1 else 0 := rfl
theorem comPre_le : ∀ xs ys : List Int, comPre xs ys ≤ xs.length
  | [], ys => by simp [comPre]
  | x :: xs, [] => by simp [comPre]
  | x :: xs, y :: ys => by
    unfold comPre
    split
    · have := comPre_le xs ys; simp only [List.length_cons]; omega
    · omega
def word_Common.f (l0_0 : List ByteArray) (l0_1 : List (S118)) (a1 : ByteArray) (a2 : ByteArray) : Option (Int × Int) := if fitsS l0_0 = true then some (comB l0_0 l0_1 a1 a2) else none
theorem word_Common.drop (l : List Int) (k : Nat) (h : k < l.length) : l.drop k = rdOf (0 : Int) l (k : Int) :: l.drop (k + 1) := by
  rw [List.drop_eq_getElem_cons h]
  simp [rdOf, List.getD_eq_getElem?_getD, List.getElem?_eq_getElem h]
set_option maxHeartbeats 4000000 in
set_option maxRecDepth 100000 in
theorem word_Common.calls (A0_0 : Option Addr) (c0_0 : Nat) (l0_0 : List ByteArray) (A0_1 : Option Addr) (c0_1 : Nat) (l0_1 : List (S118)) (a1 : ByteArray) (a2 : ByteArray) (r1 : Int) (r2 : Int) (w : World) (hr0_0 : Kd.C Kd.string w A0_0 l0_0.length l0_0) (hc0_0 : l0_0.length ≤ c0_0) (hr0_1 : Kd.C k118 w A0_1 l0_1.length l0_1) (hc0_1 : l0_1.length ≤ c0_1) (hG : GLaid w) (h : word_Common.f l0_0 l0_1 a1 a2 = some (r1, r2)) :
    Calls Tryd.prog 38 #[.agg #[.slice A0_0 l0_0.length c0_0, .slice A0_1 l0_1.length c0_1], .string a1, .string a2] w fun e w' => e = .returned (.tuple #[.int .i64 r1, .int .i64 r2]) ∧ Below w.heap.size w w' := by
  unfold word_Common.f at h
  split at h
  case isFalse => cases h
  rename_i hfit
  replace h := Option.some.inj h
  have HFIT := Aside0.mk hfit
  have HG := Aside0.mk hG
  have HR0 := Aside0.mk hr0_0
  have HR1 := Aside0.mk hr0_1
  have HC0 := Aside0.mk hc0_0
  have HC1 := Aside0.mk hc0_1
  clear hfit hG hr0_0 hr0_1 hc0_0 hc0_1
  have hu := Tryd.underlying38
  unfold comB at h
  by_cases e : (bothB l0_0 l0_1 a1 a2).2.2 = 0
  · obtain ⟨hx, hy⟩ := both_yes e
    rw [if_neg (by simpa using e)] at h
    obtain ⟨rfl, rfl⟩ := Prod.mk.inj h
    have HX := Aside0.mk hx
    have HY := Aside0.mk hy
    have HLX : Aside0 ((bothB l0_0 l0_1 a1 a2).1.length ≤ 64) := ⟨by have := (letters_wf l0_0 l0_1 a1).2; rw [hx] at this; exact this⟩
    clear h e hx hy
    generalize (bothB l0_0 l0_1 a1 a2).1 = lx at *
    generalize (bothB l0_0 l0_1 a1 a2).2.1 = ly at *
    go_enter Tryd.func38, Tryd.ntmps38
    go_wp2_with (first | ((with_reducible refine gate_dst (N := 3) rfl ?_); refine box_event ?hg (N := 3) ?hd (cs := #[.slice A0_0 l0_0.length c0_0, .slice A0_1 l0_1.length c0_1]) (t := 38) ?hr ?_; (case hd => rfl); (case hg => rfl); (case hr => first | (go_simp; done) | (go_simp; rfl)); intro gb hg w3 hbox hb; have HB := Aside0.mk hb; clear hb; have hcz0 : w3.cell? ⟨gb, 0, none⟩ = some (.slice A0_0 l0_0.length c0_0) := (blk_cell hbox 0).trans rfl; have hcz1 : w3.cell? ⟨gb, 1, none⟩ = some (.slice A0_1 l0_1.length c0_1) := (blk_cell hbox 1).trans rfl; clear hbox hg) | (go_at_call 79; refine (word_both.yes A0_0 c0_0 l0_0 A0_1 c0_1 l0_1 a1 a2 _ (Kd.C_below HR0.out HB.out) HC0.out (Kd.C_below HR1.out HB.out) HC1.out (GLaid.below_ HG.out HB.out) HFIT.out lx ly HX.out HY.out).mono ?_; rintro e w4 ⟨bm, m, A5, c5, A6, c6, rfl, hbm, hM, hK, hC5, hL5, hC6, hL6, hB4⟩; have HB4 := Aside0.mk (below_step HB.out hB4); have HC5 := Aside0.mk hC5; have HC6 := Aside0.mk hC6; clear hbm hM hK hC5 hL5 hC6 hL6 hB4))
    go_loopg [12] (lx.length + 1) (fun kq v12 w' => ∃ (k : Nat), v12 = .int .i64 (k : Int) ∧ k + kq = lx.length + 1 ∧ k ≤ lx.length ∧ k ≤ ly.length ∧ Aside0 (comPre lx ly = k + comPre (lx.drop k) (ly.drop k)) ∧ Aside0 (Below w4.heap.size w4 w'))
    case atStart => exact ⟨0, rfl, by omega, by omega, by omega, ⟨by simp⟩, ⟨Below.refl _ _⟩⟩
    case round =>
      obtain ⟨k, rfl, hk, hkx, hky, HE, HW⟩ := hrel
      by_cases hlt : k < lx.length ∧ k < ly.length
      · obtain ⟨ad, e0, hx1⟩ := (Kd.reads_of_C (enc := Value.int .i32) (d := (0 : Int)) (h1 := fun _ => rfl) HC5.out).at_ (k : Int) (by omega) (by omega)
        obtain rfl := e0
        replace hx1 := pw_cell_below HW.out hx1
        obtain ⟨ad2, e0, hx2⟩ := (Kd.reads_of_C (enc := Value.int .i32) (d := (0 : Int)) (h1 := fun _ => rfl) HC6.out).at_ (k : Int) (by omega) (by omega)
        obtain rfl := e0
        replace hx2 := pw_cell_below HW.out hx2
        have hE := HE.out
        rw [word_Common.drop lx k hlt.1, word_Common.drop ly k hlt.2] at hE
        rw [comPre_cons] at hE
        generalize rdOf (0 : Int) lx (k : Int) = f1 at hx1 hE
        generalize rdOf (0 : Int) ly (k : Int) = f2 at hx2 hE
        simp only [Int.toNat_natCast] at hx1 hx2
        have hl1 : (k : Int) < (lx.length : Int) := by omega
        have hl2 : (k : Int) < (ly.length : Int) := by omega
        have hmn : decide ((k : Int) < (if ly.length < lx.length then (ly.length : Int) else (lx.length : Int))) = true := decide_eq_true (by split <;> omega)
        clear HE
        by_cases hf : f1 = f2
        · have b6 : decide (f1 = f2) = true := decide_eq_true hf
          have HEE : Aside0 (comPre lx ly = k + 1 + comPre (lx.drop (k + 1)) (ly.drop (k + 1))) := ⟨by rw [hE, if_pos hf]; omega⟩
          clear hE
          (go_wp2; repeat (go_quiet (fail); try go_wp2))
          all_goals
            go_roundg (lx.length - k)
            case measure => omega
            case rel => exact ⟨k + 1, by rw [show wrap64 ((k : Int) + 1) = ((k + 1 : Nat) : Int) from by have := HLX.out; unfold wrap64; omega], by omega, by omega, by omega, HEE, ⟨pw_below_drewN HW.out _⟩⟩
        · have b6 : decide (f1 = f2) = false := decide_eq_false hf
          have HEE : Aside0 (comPre lx ly = k) := ⟨by rw [hE, if_neg hf]; rfl⟩
          clear hE
          (go_wp2; repeat (go_quiet (fail); try go_wp2))
          all_goals
            go_ret2
            exact ⟨by rw [HEE.out]; rfl, below_step HB4.out (pw_below_drewN HW.out _)⟩
      · have HEE : Aside0 (comPre lx ly = k) := ⟨by
          rw [HE.out]
          by_cases h1 : k < lx.length
          · rw [word_Common.drop lx k h1, List.drop_of_length_le (show ly.length ≤ k by omega)]; rfl
          · rw [List.drop_of_length_le (show lx.length ≤ k by omega)]; rfl⟩
        have hmn : decide ((k : Int) < (if ly.length < lx.length then (ly.length : Int) else (lx.length : Int))) = false := decide_eq_false (by split <;> omega)
        clear HE
        (go_wp2; repeat (go_quiet (fail); try go_wp2))
        all_goals
          go_ret2
          exact ⟨by rw [HEE.out]; rfl, below_step HB4.out (pw_below_drewN HW.out _)⟩
  · rw [if_pos e] at h
    obtain ⟨rfl, rfl⟩ := Prod.mk.inj h
    have b1 : decide ((bothB l0_0 l0_1 a1 a2).2.2 = 0) = false := decide_eq_false e
    have HE := Aside0.mk e
    clear h
    have HNN := Aside0.mk (fun W ha hb hc => word_both.no A0_0 c0_0 l0_0 A0_1 c0_1 l0_1 a1 a2 W ha HC0.out hb HC1.out hc HFIT.out _ rfl HE.out)
    generalize (bothB l0_0 l0_1 a1 a2).2.2 = z at *
    clear HE
    go_enter Tryd.func38, Tryd.ntmps38
    go_wp2_with (first | ((with_reducible refine gate_dst (N := 3) rfl ?_); refine box_event ?hg (N := 3) ?hd (cs := #[.slice A0_0 l0_0.length c0_0, .slice A0_1 l0_1.length c0_1]) (t := 38) ?hr ?_; (case hd => rfl); (case hg => rfl); (case hr => first | (go_simp; done) | (go_simp; rfl)); intro gb hg w3 hbox hb; have HB := Aside0.mk hb; clear hb; have hcz0 : w3.cell? ⟨gb, 0, none⟩ = some (.slice A0_0 l0_0.length c0_0) := (blk_cell hbox 0).trans rfl; have hcz1 : w3.cell? ⟨gb, 1, none⟩ = some (.slice A0_1 l0_1.length c0_1) := (blk_cell hbox 1).trans rfl; clear hbox hg) | (go_at_call 79; refine (HNN.out _ (Kd.C_below HR0.out HB.out) (Kd.C_below HR1.out HB.out) (GLaid.below_ HG.out HB.out)).mono ?_; rintro e w4 ⟨rfl, hB4⟩; have HB4 := Aside0.mk (below_step HB.out hB4); clear hB4))
    go_ret2
    exact ⟨rfl, HB4.out⟩

def allE (ls : List S118) : List ByteArray → Int
  | [] => 0
  | x :: xs => if (readP ls (pieces (cut65 x)) []).2 ≠ 0 then (readP ls (pieces (cut65 x)) []).2 else allE ls xs
def allB (fs : List ByteArray) (ls : List S118) (l : List ByteArray) : Int := if alphaB fs ls = false then 7 else if l.length > 4096 then 4 else allE ls l
def lettersOf (ls : List S118) (x : ByteArray) : List Int := (readP ls (pieces (cut65 x)) []).1
theorem lettersOf_wf (ls : List S118) (x : ByteArray) : (∀ r ∈ lettersOf ls x, (Lit.int .i32 r).wf = true) ∧ (lettersOf ls x).length ≤ 64 := readP_wf ls _ [] (fun p hp => piece_wf hp) (by simp) (by simp)
/-- Each of them is a slice of runes that lies outside of block b. -/
def Words (W : World) (b : Nat) (rs : List (Value × List Int)) : Prop := ∀ p ∈ rs, ∃ A c, p.1 = .slice A p.2.length c ∧ p.2.length ≤ c ∧ Kd.F (Kd.int .i32) W (fun k => k ≠ b) A p.2.length p.2
theorem Words.step {W W' : World} {b : Nat} {rs : List (Value × List Int)} (h : Words W b rs) (hs : ∀ k, k ≠ b → k < W.heap.size → W'.heap[k]? = W.heap[k]?) : Words W' b rs := fun p hp => by
  obtain ⟨A, c, h1, h2, h3⟩ := h p hp
  exact ⟨A, c, h1, h2, Kd.F_step h3 hs⟩
theorem Words.below {W W' : World} {b : Nat} {rs : List (Value × List Int)} (h : Words W b rs) (hb : Below W.heap.size W W') : Words W' b rs := h.step (fun k _ hk => hb.block k hk)
def wordCells (rs : List (Value × List Int)) (n : Nat) : List Value := rs.map (·.1) ++ List.replicate (n - rs.length) (.slice none 0 0)
theorem madeCells_one (z : Value) (n : Nat) : madeCells #[z] n = (List.replicate n z).toArray := by
  apply Array.ext
  · simp [size_madeCells]
  · intro i h1 h2
    simp [madeCells, Nat.mod_one]
theorem rd_str_drop (l : List ByteArray) (k : Nat) (h : k < l.length) : l.drop k = rdOf ByteArray.empty l (k : Int) :: l.drop (k + 1) := by
  rw [List.drop_eq_getElem_cons h]
  simp [rdOf, List.getD_eq_getElem?_getD, List.getElem?_eq_getElem h]
theorem rd_str_take (l : List ByteArray) (k : Nat) (h : k < l.length) : l.take (k + 1) = l.take k ++ [rdOf ByteArray.empty l (k : Int)] := by
  rw [List.take_add_one]
  simp [rdOf, List.getD_eq_getElem?_getD, List.getElem?_eq_getElem h]
theorem wordCells_set (rs : List (Value × List Int)) (n : Nat) (v : Value) (xs : List Int) (h : rs.length < n) : ((wordCells rs n).toArray.setIfInBounds rs.length v) = (wordCells (rs ++ [(v, xs)]) n).toArray := by
  unfold wordCells
  obtain ⟨d, hd⟩ : ∃ d, n - rs.length = d + 1 := ⟨n - rs.length - 1, by omega⟩
  rw [hd, show n - (rs ++ [(v, xs)]).length = d by simp; omega]
  apply Array.ext'
  simp [List.replicate_succ, List.set_append]
set_option maxHeartbeats 4000000 in
set_option maxRecDepth 100000 in
theorem word_all (A0_0 : Option Addr) (c0_0 : Nat) (l0_0 : List ByteArray) (A0_1 : Option Addr) (c0_1 : Nat) (l0_1 : List (S118)) (A1 : Option Addr) (c1 : Nat) (l1 : List ByteArray) (w : World) (hr0 : Kd.C Kd.string w A0_0 l0_0.length l0_0) (hc0 : l0_0.length ≤ c0_0) (hr1 : Kd.C k118 w A0_1 l0_1.length l0_1) (hc1 : l0_1.length ≤ c0_1)
    (hrl : Kd.C Kd.string w A1 l1.length l1) (hcl : l1.length ≤ c1) (hG : GLaid w) (hfit : fitsS l0_0 = true) (r : Int) (h0 : allB l0_0 l0_1 l1 = r) : Calls Tryd.prog 80 #[.agg #[.slice A0_0 l0_0.length c0_0, .slice A0_1 l0_1.length c0_1], .slice A1 l1.length c1] w fun e w' =>
      Below w.heap.size w w' ∧ ((r ≠ 0 ∧ e = .returned (.tuple #[.map none, .slice none 0 0, .int .i64 r])) ∨
        (r = 0 ∧ ∃ bm m b rs, e = .returned (.tuple #[.map (some bm), .slice (some ⟨b, 0, none⟩) l1.length l1.length, .int .i64 0]) ∧ w.heap.size ≤ bm ∧ bm < b ∧ b < w'.heap.size ∧
          YtfpfdmenhgageaaDoorMp.MapI (YtfpfdmenhgageaaDoorMp.intKey Tryd.underlying21) (YtfpfdmenhgageaaDoorMp.intElem Tryd.underlying3) w' bm l0_1.length m ∧ Ranked m l0_1 ∧ w'.heap[b]? = some (.cells (rs.map (·.1)).toArray 39 (0, 0)) ∧ Words w' b rs ∧ rs.map (·.2) = l1.map (lettersOf l0_1))) := by
  have HFIT := Aside0.mk hfit
  have HG := Aside0.mk hG
  have HR0 := Aside0.mk hr0
  have HR1 := Aside0.mk hr1
  have HC0 := Aside0.mk hc0
  have HC1 := Aside0.mk hc1
  have HRL := Aside0.mk hrl
  have HCL := Aside0.mk hcl
  clear hfit hG hr0 hr1 hc0 hc1 hrl hcl
  have hu := Tryd.underlying38
  cases hal : alphaB l0_0 l0_1 with
  | false =>
    have HAL := Aside0.mk hal
    obtain rfl : r = 7 := by rw [← h0]; unfold allB; rw [hal]; rfl
    clear h0 hal
    go_enter Tryd.func80, Tryd.ntmps80
    go_wp2_with (first | ((with_reducible refine gate_dst (N := 2) rfl ?_); refine box_event ?hg (N := 2) ?hd (cs := #[.slice A0_0 l0_0.length c0_0, .slice A0_1 l0_1.length c0_1]) (t := 38) ?hr ?_; (case hd => rfl); (case hg => rfl); (case hr => first | (go_simp; done) | (go_simp; rfl)); intro gb hg w3 hbox hb; have HB := Aside0.mk hb; clear hb; have hcz0 : w3.cell? ⟨gb, 0, none⟩ = some (.slice A0_0 l0_0.length c0_0) := (blk_cell hbox 0).trans rfl; have hcz1 : w3.cell? ⟨gb, 1, none⟩ = some (.slice A0_1 l0_1.length c0_1) := (blk_cell hbox 1).trans rfl; clear hbox hg) | (go_at_call 69; refine (word_ranks.no A0_0 c0_0 l0_0 A0_1 c0_1 l0_1 _ (Kd.C_below HR0.out HB.out) HC0.out (Kd.C_below HR1.out HB.out) HC1.out HFIT.out HAL.out).mono ?_; rintro e w4 ⟨rfl, hb4⟩; have HB4 := Aside0.mk (below_step HB.out hb4); clear hb4))
    go_ret3
    exact ⟨HB4.out, .inl ⟨by decide, rfl⟩⟩
  | true =>
    have HAL := Aside0.mk hal
    by_cases hlen : l1.length > 4096
    · obtain rfl : r = 4 := by rw [← h0]; unfold allB; rw [hal, if_neg (by simp), if_pos hlen]
      have b1 : decide ((4096 : Int) < (l1.length : Int)) = true := decide_eq_true (by omega)
      clear h0 hal
      go_enter Tryd.func80, Tryd.ntmps80
      go_wp2_with (first | ((with_reducible refine gate_dst (N := 2) rfl ?_); refine box_event ?hg (N := 2) ?hd (cs := #[.slice A0_0 l0_0.length c0_0, .slice A0_1 l0_1.length c0_1]) (t := 38) ?hr ?_; (case hd => rfl); (case hg => rfl); (case hr => first | (go_simp; done) | (go_simp; rfl)); intro gb hg w3 hbox hb; have HB := Aside0.mk hb; clear hb; have hcz0 : w3.cell? ⟨gb, 0, none⟩ = some (.slice A0_0 l0_0.length c0_0) := (blk_cell hbox 0).trans rfl; have hcz1 : w3.cell? ⟨gb, 1, none⟩ = some (.slice A0_1 l0_1.length c0_1) := (blk_cell hbox 1).trans rfl; clear hbox hg) | (go_at_call 69; refine (word_ranks.yes A0_0 c0_0 l0_0 A0_1 c0_1 l0_1 _ (Kd.C_below HR0.out HB.out) HC0.out (Kd.C_below HR1.out HB.out) HC1.out HFIT.out HAL.out).mono ?_; rintro e w4 ⟨bm, m, rfl, hbm, hM4, hRK, hb4⟩; have HB4 := Aside0.mk (below_step HB.out hb4); clear hb4 hM4 hRK hbm))
      go_ret3
      exact ⟨HB4.out, .inl ⟨by decide, rfl⟩⟩
    · have b1 : decide ((4096 : Int) < (l1.length : Int)) = false := decide_eq_false (by omega)
      have HE0 : Aside0 (allE l0_1 l1 = r) := ⟨by rw [← h0]; unfold allB; rw [hal, if_neg (by simp), if_neg hlen]⟩
      have HLEN : Aside0 (l1.length ≤ 4096) := ⟨by omega⟩
      have hmk : ∀ W : World, (Instr.makeSlice 114 (.int .i64 (l1.length : Int)) (.int .i64 (l1.length : Int))).run Tryd.prog W = .ok (.slice (some ⟨W.heap.size, 0, none⟩) l1.length l1.length) (W.alloc (.cells (wordCells [] l1.length).toArray 39)) := fun W => by
        have h := run_make_row' 114 39 (.slice none 0 0) 24 Tryd.underlying114 (by kernel_rfl) rfl .i64 .i64 l1.length (by omega) (by omega) W
        rw [madeCells_one] at h
        simpa [wordCells] using h
      clear h0 hal hlen
      go_enter Tryd.func80, Tryd.ntmps80
      go_wp2_with (first | ((with_reducible refine gate_dst (N := 2) rfl ?_); refine box_event ?hg (N := 2) ?hd (cs := #[.slice A0_0 l0_0.length c0_0, .slice A0_1 l0_1.length c0_1]) (t := 38) ?hr ?_; (case hd => rfl); (case hg => rfl); (case hr => first | (go_simp; done) | (go_simp; rfl)); intro gb hg w3 hbox hb; have HB := Aside0.mk hb; clear hb; have hcz0 : w3.cell? ⟨gb, 0, none⟩ = some (.slice A0_0 l0_0.length c0_0) := (blk_cell hbox 0).trans rfl; have hcz1 : w3.cell? ⟨gb, 1, none⟩ = some (.slice A0_1 l0_1.length c0_1) := (blk_cell hbox 1).trans rfl; clear hbox hg) | (go_at_call 69; refine (word_ranks.yes A0_0 c0_0 l0_0 A0_1 c0_1 l0_1 _ (Kd.C_below HR0.out HB.out) HC0.out (Kd.C_below HR1.out HB.out) HC1.out HFIT.out HAL.out).mono ?_; rintro e w4 ⟨bm, m, rfl, hbm, hM4, hRK, hb4⟩; have HBM : Aside0 (w.heap.size ≤ bm) := ⟨Nat.le_trans HB.out.size hbm⟩; have HB4 := Aside0.mk (below_step HB.out hb4); have HM4 := Aside0.mk hM4; have HRK := Aside0.mk hRK; clear hb4 hM4 hRK hbm))
      have HLT : Aside0 (bm < w4.heap.size) := ⟨HM4.out.lt⟩
      have HW4 : Aside0 (w.heap.size ≤ w4.heap.size) := ⟨HB4.out.size⟩
      go_loopg [28] l1.length (fun kq v28 w' => ∃ (k : Nat) (rs : List (Value × List Int)), v28 = .int .i64 (k : Int) ∧ k + kq = l1.length ∧ rs.length = k ∧
        Aside0 (w'.heap[w4.heap.size]? = some (.cells (wordCells rs l1.length).toArray 39 (0, 0))) ∧ Aside0 (Words w' w4.heap.size rs) ∧ Aside0 (rs.map (·.2) = (l1.take k).map (lettersOf l0_1)) ∧ Aside0 (allE l0_1 (l1.drop k) = r) ∧
        Aside0 (YtfpfdmenhgageaaDoorMp.MapI (YtfpfdmenhgageaaDoorMp.intKey Tryd.underlying21) (YtfpfdmenhgageaaDoorMp.intElem Tryd.underlying3) w' bm l0_1.length m) ∧ Aside0 (Below w.heap.size w w'))
      case atStart => exact ⟨0, [], rfl, by omega, rfl, ⟨blk_new w4 _⟩, ⟨fun p hp => by cases hp⟩, ⟨rfl⟩, HE0, ⟨HM4.out.alloc _⟩, ⟨below_alloc HB4.out _⟩⟩
      case round =>
        clear HM4 HE0
        obtain ⟨k, rs, rfl, hk, hrs, HBK, HWD, HMP, HEE, HMI, HBW⟩ := hrel
        by_cases hlt : k < l1.length
        · have b4 : decide ((k : Int) < (l1.length : Int)) = true := decide_eq_true (by omega)
          have hki : (k : Int) < (l1.length : Int) := by omega
          obtain ⟨ad, e0, hx⟩ := Kd.at_string (Kd.C_below HRL.out HBW.out) (k : Int) (by omega) (by omega)
          obtain rfl := e0
          simp only [Int.toNat_natCast] at hx
          have hd := rd_str_drop l1 k hlt
          have ht := rd_str_take l1 k hlt
          generalize rdOf ByteArray.empty l1 (k : Int) = s at hx hd ht
          have HD : Aside0 (allE l0_1 (l1.drop k) = if (readP l0_1 (pieces (cut65 s)) []).2 ≠ 0 then (readP l0_1 (pieces (cut65 s)) []).2 else allE l0_1 (l1.drop (k + 1))) := ⟨by rw [hd]; rfl⟩
          have HT := Aside0.mk ht
          have hbl : w4.heap.size < wr.heap.size := blk_lt HBK.out
          have hcl : k < (wordCells rs l1.length).length := by simp [wordCells]; omega
          clear hd ht
          obtain ⟨rl, hrl⟩ : ∃ x, x = lettersOf l0_1 s := ⟨_, rfl⟩
          obtain ⟨re, hre⟩ : ∃ x, x = (readP l0_1 (pieces (cut65 s)) []).2 := ⟨_, rfl⟩
          have HRD : Aside0 (readP l0_1 (pieces (cut65 s)) [] = (rl, re)) := ⟨by rw [hrl, hre]; rfl⟩
          have HRL2 := Aside0.mk hrl
          rw [← hre] at HD
          clear hrl hre
          go_wp2_with (go_at_call 70; (with_reducible refine (word_read.ok bm _ m l0_1 s _ (GLaid.below_ HG.out HBW.out) HMI.out HRK.out _ _ HRD.out).mono ?_); rintro e w6 ⟨v6, rfl, hR6, hB6⟩; obtain ⟨A6, c6, rfl, hl6, hC6⟩ := Kd.R_reads hR6; have hbk6 := blk_below HBK.out hB6; have hf6 : w6.frozen? ⟨w4.heap.size, k, none⟩ = false := blk_frozen hbk6 k; have hcc6 : w6.cell? ⟨w4.heap.size, k, none⟩ = some ((wordCells rs l1.length)[k]'hcl) := (blk_cell hbk6 k).trans (by simp [List.getElem?_eq_getElem hcl]); have HBK7 : Aside0 ((w6.setCell ⟨w4.heap.size, k, none⟩ (.slice A6 rl.length c6)).heap[w4.heap.size]? = some (.cells (wordCells (rs ++ [(.slice A6 rl.length c6, rl)]) l1.length).toArray 39 (0, 0))) := ⟨by rw [← wordCells_set rs l1.length (.slice A6 rl.length c6) rl (by omega), hrs]; exact blk_set hbk6 k _⟩; have HF6 : Aside0 (Kd.F (Kd.int .i32) w6 (fun k => k ≠ w4.heap.size) A6 rl.length rl) := ⟨Kd.R_F (Kd.R_mono (Kd.R_bound hR6) (fun q hq => by have := hq.2.1; omega))⟩; have HWD7 : Aside0 (Words (w6.setCell ⟨w4.heap.size, k, none⟩ (.slice A6 rl.length c6)) w4.heap.size (rs ++ [(.slice A6 rl.length c6, rl)])) := ⟨fun p hp => by rcases List.mem_append.1 hp with hp | hp; exact ((HWD.out.below hB6).step (fun q hq _ => Below.heap_setCell w6 ⟨w4.heap.size, k, none⟩ _ q hq)) p hp; (obtain rfl := List.mem_singleton.1 hp; exact ⟨A6, c6, rfl, hl6, Kd.F_far HF6.out (fun q hq => hq) _⟩)⟩; have HMI7 : Aside0 (YtfpfdmenhgageaaDoorMp.MapI (YtfpfdmenhgageaaDoorMp.intKey Tryd.underlying21) (YtfpfdmenhgageaaDoorMp.intElem Tryd.underlying3) (w6.setCell ⟨w4.heap.size, k, none⟩ (.slice A6 rl.length c6)) bm l0_1.length m) := ⟨(HMI.out.below hB6).setCell (Nat.ne_of_lt HLT.out) _⟩; have HB7 : Aside0 (Below w.heap.size w (w6.setCell ⟨w4.heap.size, k, none⟩ (.slice A6 rl.length c6))) := ⟨(below_step HBW.out hB6).setCell (p := ⟨w4.heap.size, k, none⟩) HW4.out _⟩; clear hR6 hB6 hbk6)
          · rename_i hz
            have hz' : re ≠ 0 := by simpa using hz
            have hr : r = re := by rw [← HEE.out, HD.out, if_pos hz']
            go_ret3
            exact ⟨HB7.out, .inl ⟨by rw [hr]; exact hz', by rw [hr]; rfl⟩⟩
          · rename_i hz
            have hz' : re = 0 := by simpa using hz
            go_roundg (l1.length - (k + 1))
            case measure => omega
            case rel =>
              exact ⟨k + 1, rs ++ [(.slice A6 rl.length c6, rl)], by rw [show wrap64 ((k : Int) + 1) = ((k + 1 : Nat) : Int) from by have := HLEN.out; unfold wrap64; omega], by omega, by simp [hrs], HBK7, HWD7, ⟨by rw [HT.out, List.map_append, List.map_append, HMP.out, HRL2.out]; rfl⟩, ⟨by rw [← HEE.out, HD.out, if_neg (by simpa using hz')]⟩, HMI7, HB7⟩
        · have b4 : decide ((k : Int) < (l1.length : Int)) = false := decide_eq_false (by omega)
          have hkn : k = l1.length := by omega
          have hr0 : r = 0 := by rw [← HEE.out, hkn, List.drop_length]; rfl
          have hbl : w4.heap.size < wr.heap.size := blk_lt HBK.out
          have HBK2 : Aside0 (wr.heap[w4.heap.size]? = some (.cells (rs.map (·.1)).toArray 39 (0, 0))) := ⟨by rw [HBK.out]; unfold wordCells; rw [hrs, hkn, Nat.sub_self]; simp⟩
          have HMP2 : Aside0 (rs.map (·.2) = l1.map (lettersOf l0_1)) := ⟨by rw [HMP.out, hkn, List.take_length]⟩
          clear HBK HMP
          go_wp2
          go_ret3
          exact ⟨HBW.out, .inr ⟨hr0, bm, m, w4.heap.size, rs, rfl, HBM.out, HLT.out, hbl, HMI.out, HRK.out, HBK2.out, HWD.out, HMP2.out⟩⟩

/-! ### word_Join: function 39 (by hand) -/
def joinW (fs : List ByteArray) (ls : List S118) (l : List ByteArray) : ByteArray × Int :=
  if allB fs ls l ≠ 0 then (⟨#[]⟩, allB fs ls l) else if (l.flatMap (lettersOf ls)).length > 256 then (⟨#[]⟩, 9) else (runesBytes (l.flatMap (lettersOf ls)), 0)
theorem flat_len_mono (f : ByteArray → List Int) (l : List ByteArray) (k : Nat) : ((l.take k).flatMap f).length ≤ (l.flatMap f).length := by
  have : l.flatMap f = (l.take k).flatMap f ++ (l.drop k).flatMap f := by rw [← List.flatMap_append, List.take_append_drop]
  rw [this]; simp
theorem rs_at {rs : List (Value × List Int)} {W : World} {b n : Nat} {T : TypeId} (h : W.heap[b]? = some (.cells (rs.map (·.1)).toArray T (0, 0))) (hw : Words W b rs) (k : Nat) (hk : k < rs.length) :
    ∃ A c, W.cell? ⟨b, k, none⟩ = some (.slice A (rs[k]'hk).2.length c) ∧ (rs[k]'hk).2.length ≤ c ∧ Kd.C (Kd.int .i32) W A (rs[k]'hk).2.length (rs[k]'hk).2 := by
  obtain ⟨A, c, h1, h2, h3⟩ := hw _ (List.getElem_mem hk)
  refine ⟨A, c, ?_, h2, Kd.F_now h3⟩
  rw [blk_cell h k, ← h1]
  simp [List.getElem?_eq_getElem hk]
def word_Join.f (l0_0 : List ByteArray) (l0_1 : List (S118)) (l1 : List ByteArray) : Option (ByteArray × Int) := if fitsS l0_0 = true then some (joinW l0_0 l0_1 l1) else none
set_option maxHeartbeats 4000000 in
set_option maxRecDepth 100000 in
theorem word_Join.calls (A0_0 : Option Addr) (c0_0 : Nat) (l0_0 : List ByteArray) (A0_1 : Option Addr) (c0_1 : Nat) (l0_1 : List (S118)) (A1 : Option Addr) (c1 : Nat) (l1 : List ByteArray) (r1 : ByteArray) (r2 : Int) (w : World) (hr0_0 : Kd.C Kd.string w A0_0 l0_0.length l0_0) (hc0_0 : l0_0.length ≤ c0_0) (hr0_1 : Kd.C k118 w A0_1 l0_1.length l0_1) (hc0_1 : l0_1.length ≤ c0_1) (hr1 : Kd.C Kd.string w A1 l1.length l1) (hc1 : l1.length ≤ c1) (hG : GLaid w) (h : word_Join.f l0_0 l0_1 l1 = some (r1, r2)) :
    Calls Tryd.prog 39 #[.agg #[.slice A0_0 l0_0.length c0_0, .slice A0_1 l0_1.length c0_1], .slice A1 l1.length c1] w fun e w' => e = .returned (.tuple #[.string r1, .int .i64 r2]) ∧ Below w.heap.size w w' := by
  unfold word_Join.f at h
  split at h
  case isFalse => cases h
  rename_i hfit
  replace h := Option.some.inj h
  have HFIT := Aside0.mk hfit
  have HG := Aside0.mk hG
  have HR0 := Aside0.mk hr0_0
  have HR1 := Aside0.mk hr0_1
  have HC0 := Aside0.mk hc0_0
  have HC1 := Aside0.mk hc0_1
  have HRL := Aside0.mk hr1
  have HCL := Aside0.mk hc1
  clear hfit hG hr0_0 hr0_1 hc0_0 hc0_1 hr1 hc1
  have hu := Tryd.underlying38
  unfold joinW at h
  have HAL := Aside0.mk (fun W a b c d => word_all A0_0 c0_0 l0_0 A0_1 c0_1 l0_1 A1 c1 l1 W a HC0.out b HC1.out c HCL.out d HFIT.out _ rfl)
  by_cases e : allB l0_0 l0_1 l1 = 0
  · rw [if_neg (by simpa using e)] at h
    have hlen : l1.length ≤ 4096 := by
      unfold allB at e
      split at e
      · simp at e
      · split at e
        · simp at e
        · omega
    rw [e] at HAL
    have HJ1 : Aside0 ((l1.flatMap (lettersOf l0_1)).length > 256 → r1 = ⟨#[]⟩ ∧ r2 = 9) := ⟨fun q => by rw [if_pos q] at h; exact (Prod.mk.inj h).imp Eq.symm Eq.symm⟩
    have HJ2 : Aside0 (¬ (l1.flatMap (lettersOf l0_1)).length > 256 → r1 = runesBytes (l1.flatMap (lettersOf l0_1)) ∧ r2 = 0) := ⟨fun q => by rw [if_neg q] at h; exact (Prod.mk.inj h).imp Eq.symm Eq.symm⟩
    have HLEN := Aside0.mk hlen
    clear h e hlen
    go_enter Tryd.func39, Tryd.ntmps39
    go_wp2_with (first | ((with_reducible refine gate_dst (N := 2) rfl ?_); refine box_event ?hg (N := 2) ?hd (cs := #[.slice A0_0 l0_0.length c0_0, .slice A0_1 l0_1.length c0_1]) (t := 38) ?hr ?_; (case hd => rfl); (case hg => rfl); (case hr => first | (go_simp; done) | (go_simp; rfl)); intro gb hg w3 hbox hb; have HB := Aside0.mk hb; clear hb; have hcz0 : w3.cell? ⟨gb, 0, none⟩ = some (.slice A0_0 l0_0.length c0_0) := (blk_cell hbox 0).trans rfl; have hcz1 : w3.cell? ⟨gb, 1, none⟩ = some (.slice A0_1 l0_1.length c0_1) := (blk_cell hbox 1).trans rfl; clear hbox hg) | (go_at_call 80; refine (HAL.out _ (Kd.C_below HR0.out HB.out) (Kd.C_below HR1.out HB.out) (Kd.C_below HRL.out HB.out) (GLaid.below_ HG.out HB.out)).mono ?_; rintro e w4 ⟨hB4, hor⟩; obtain ⟨_, bm, m, b, rs, rfl, _, _, hbl, _, _, hbk, hwd, hmp⟩ := hor.resolve_left (fun q => q.1 rfl); have HB4 := Aside0.mk (below_step HB.out hB4); have HBK := Aside0.mk hbk; have HWD := Aside0.mk hwd; have HMP := Aside0.mk hmp; clear hB4 hor hbk hwd hmp))
    have HRS : Aside0 (rs.length = l1.length) := ⟨by have := congrArg List.length HMP.out; simpa using this⟩
    go_loopg [9, 24] l1.length (fun kq v9 v24 w' => ∃ (k : Nat) (out : List Int), v24 = .int .i64 (k : Int) ∧ k + kq = l1.length ∧ Aside0 (out = (l1.take k).flatMap (lettersOf l0_1) ∧ out.length ≤ 256) ∧
      Aside0 (Kd.R (Kd.int .i32) 21 w' w4.heap.size (fun _ => True) v9 out) ∧ Aside0 (Below w4.heap.size w4 w'))
    case atStart => exact ⟨0, [], rfl, by omega, ⟨by simp⟩, ⟨Kd.R_nil _ _ _ _ _⟩, ⟨Below.refl _ _⟩⟩
    case round =>
      obtain ⟨k, out, rfl, hk, HO, HR, HBW⟩ := hrel
      obtain ⟨A9, c9, rfl, _, _⟩ := Kd.R_reads HR.out
      by_cases hlt : k < l1.length
      · have b4 : decide ((k : Int) < (l1.length : Int)) = true := decide_eq_true (by omega)
        have hki : (k : Int) < (l1.length : Int) := by omega
        have hkr : k < rs.length := by rw [HRS.out]; exact hlt
        obtain ⟨A7, c7, hx, hc7, hC7⟩ := rs_at (n := 0) (blk_below HBK.out HBW.out) (HWD.out.below HBW.out) k hkr
        have hsec : (rs[k]'hkr).2 = lettersOf l0_1 (rdOf ByteArray.empty l1 (k : Int)) := by
          have h1 : (rs.map (·.2))[k]? = (l1.map (lettersOf l0_1))[k]? := by rw [HMP.out]
          rw [List.getElem?_map, List.getElem?_map, List.getElem?_eq_getElem hkr, List.getElem?_eq_getElem hlt] at h1
          simpa [rdOf, List.getD_eq_getElem?_getD, List.getElem?_eq_getElem hlt] using h1
        have ht := rd_str_take l1 k hlt
        have hwl := (lettersOf_wf l0_1 (rdOf ByteArray.empty l1 (k : Int))).2
        rw [← hsec] at hwl
        generalize rdOf ByteArray.empty l1 (k : Int) = s at hsec ht
        generalize (rs[k]'hkr).2 = xs at hx hc7 hC7 hsec hwl
        have HX := Aside0.mk hC7
        have HO2 : Aside0 (out ++ xs = (l1.take (k + 1)).flatMap (lettersOf l0_1)) := ⟨by rw [ht, HO.out.1, List.flatMap_append, hsec]; simp⟩
        have HXL : Aside0 (xs.length ≤ 64) := ⟨hwl⟩
        clear hC7 hsec ht hwl hc7
        go_wp2_with ((with_reducible refine gate_builtin (b := .append) (xs := #[.tmp 28, .tmp 29]) rfl ?_); at_builtin; go_loud (refine Kd.R_append_row (Value.int .i32) (0 : Int) (h1 := fun _ => rfl) (w0 := w4) w4.heap.size rfl (.tmp 28) (.tmp 29) 39 21 (.int .i32 0) 4 rfl Tryd.underlying39 (by kernel_rfl) rfl (by decide) (.slice A9 out.length c9) out xs A7 xs.length c7 (fun _ => True) rfl rfl (fun _ _ => trivial) HR.out HX.out HBW.out (below_size HBW.out) (by have := HO.out.2; have := HXL.out; omega) ?_); intro v7 w7 hR7 hB7 hg7 hat7; obtain ⟨A10, c10, rfl, _, _⟩ := Kd.R_reads hR7; rw [show (out ++ xs).length = out.length + xs.length from List.length_append] at *; have HR7 := Aside0.mk hR7; have HB7 := Aside0.mk hB7; clear hR7 hB7 hg7 hat7)
        · rename_i hz
          have hov : (l1.flatMap (lettersOf l0_1)).length > 256 := by
            have h1 := flat_len_mono (lettersOf l0_1) l1 (k + 1)
            rw [← HO2.out, List.length_append] at h1
            omega
          obtain ⟨rfl, rfl⟩ := HJ1.out hov
          go_ret2
          exact ⟨rfl, below_step HB4.out HB7.out⟩
        · rename_i hz
          go_roundg (l1.length - (k + 1))
          case measure => omega
          case rel => exact ⟨k + 1, out ++ xs, by rw [show wrap64 ((k : Int) + 1) = ((k + 1 : Nat) : Int) from by have := HLEN.out; unfold wrap64; omega], by omega, ⟨HO2.out, by rw [List.length_append]; omega⟩, HR7, HB7⟩
      · have b4 : decide ((k : Int) < (l1.length : Int)) = false := decide_eq_false (by omega)
        have hout : out = l1.flatMap (lettersOf l0_1) := by rw [HO.out.1, List.take_of_length_le (by omega)]
        obtain ⟨rfl, rfl⟩ := HJ2.out (by rw [← hout]; have := HO.out.2; omega)
        obtain ⟨A9', c9', e9, _, hC9⟩ := Kd.R_reads HR.out
        obtain ⟨rfl, -, rfl⟩ := Value.slice.inj e9
        have hcv := C_runes (P := Tryd.prog) (A := A9) (c := c9) Tryd.underlying39 Tryd.underlying21 Tryd.underlying9 hC9
        have HFIN : Aside0 (out = l1.flatMap (lettersOf l0_1)) := ⟨hout⟩
        clear hC9 e9 hout
        go_wp2
        go_ret2
        exact ⟨by rw [← HFIN.out]; rfl, below_step HB4.out HBW.out⟩
  · rw [if_pos e] at h
    obtain ⟨rfl, rfl⟩ := Prod.mk.inj h
    have b1 : decide (allB l0_0 l0_1 l1 = 0) = false := decide_eq_false e
    have HE := Aside0.mk e
    clear h e
    generalize allB l0_0 l0_1 l1 = z at *
    go_enter Tryd.func39, Tryd.ntmps39
    go_wp2_with (first | ((with_reducible refine gate_dst (N := 2) rfl ?_); refine box_event ?hg (N := 2) ?hd (cs := #[.slice A0_0 l0_0.length c0_0, .slice A0_1 l0_1.length c0_1]) (t := 38) ?hr ?_; (case hd => rfl); (case hg => rfl); (case hr => first | (go_simp; done) | (go_simp; rfl)); intro gb hg w3 hbox hb; have HB := Aside0.mk hb; clear hb; have hcz0 : w3.cell? ⟨gb, 0, none⟩ = some (.slice A0_0 l0_0.length c0_0) := (blk_cell hbox 0).trans rfl; have hcz1 : w3.cell? ⟨gb, 1, none⟩ = some (.slice A0_1 l0_1.length c0_1) := (blk_cell hbox 1).trans rfl; clear hbox hg) | (go_at_call 80; refine (HAL.out _ (Kd.C_below HR0.out HB.out) (Kd.C_below HR1.out HB.out) (Kd.C_below HRL.out HB.out) (GLaid.below_ HG.out HB.out)).mono ?_; rintro e w4 ⟨hB4, hor⟩; obtain ⟨_, rfl⟩ := hor.resolve_right (fun q => HE.out q.1); have HB4 := Aside0.mk (below_step HB.out hB4); clear hB4 hor))
    go_ret2
    exact ⟨rfl, HB4.out⟩


end Go.Proofs.YtfpfdmenhgageaaDoor.W
