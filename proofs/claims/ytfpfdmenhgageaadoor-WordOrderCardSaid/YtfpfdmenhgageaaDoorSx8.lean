-- Written by this session's program (wip/ext) with the kit's printer. Not trusted: Lean checks it.
import Derived.Test.YtfpfdmenhgageaaDoorSx0
import Derived.Test.YtfpfdmenhgageaaDoorSx1
import Derived.Test.YtfpfdmenhgageaaDoorSx3
import Derived.Test.YtfpfdmenhgageaaDoorSx4
import Derived.Test.YtfpfdmenhgageaaDoorSx5
import Derived.Test.YtfpfdmenhgageaaDoorSx7
namespace Go.Proofs.YtfpfdmenhgageaaDoor.S
open Go.RowKit Go.Proofs.YtfpfdmenhgageaaDoorW.PrintWords Go.Proofs.YtfpfdmenhgageaaDoorW.PrintLast Go.Proofs.YtfpfdmenhgageaaDoorW.PrintMore
attribute [local go_sem] max2_int min2_int max_two min_two max_three min_three max_four min_four   -- for this text's walks alone
set_option linter.unusedVariables false
set_option linter.unusedSimpArgs false

set_option maxHeartbeats 4000000 in
set_option maxRecDepth 100000 in
theorem slices_EqualR (A1 A2 : Option Addr) (c1 c2 : Nat) (xs ys : List Int) (w : World)
    (h1 : Kd.C (Kd.int .i32) w A1 xs.length xs) (h2 : Kd.C (Kd.int .i32) w A2 ys.length ys) (hx : xs.length ≤ 4611686018427387904) :
    Calls Tryd.prog 89 #[.slice A1 xs.length c1, .slice A2 ys.length c2] w fun e w' => e = .returned (.bool (decide (xs = ys))) ∧ ∃ q, w' = w.drewN q := by
  have H1 := Aside0.mk h1
  have H2 := Aside0.mk h2
  clear h1 h2
  by_cases hl : xs.length = ys.length
  · have b1 : decide ((xs.length : Int) = (ys.length : Int)) = true := decide_eq_true (by omega)
    go_enter Tryd.func89, Tryd.ntmps89
    go_wp2
    go_loopg [13] xs.length (fun kq v13 w' => ∃ (k : Nat), v13 = .int .i64 (k : Int) ∧ k + kq = xs.length ∧ Aside0 (xs = ys ↔ xs.drop k = ys.drop k) ∧ Aside0 (∃ q, w' = w.drewN q))
    case atStart => exact ⟨0, rfl, by omega, ⟨by simp⟩, ⟨⟨0, rfl⟩⟩⟩
    case round =>
      obtain ⟨k, rfl, hk, HE, HW⟩ := hrel
      by_cases hlt : k < xs.length
      · have b4 : decide ((k : Int) < (xs.length : Int)) = true := decide_eq_true (by omega)
        have hi1 : (k : Int) < (xs.length : Int) := by omega
        have hi2 : (k : Int) < (ys.length : Int) := by omega
        have hi0 : (0 : Int) ≤ (k : Int) := by omega
        have hc1 : ∀ a, wr.cell? a = w.cell? a := by obtain ⟨q, hq⟩ := HW.out; intro a; rw [hq]; rfl
        obtain ⟨ad, e0, hx1⟩ := (Kd.reads_of_C (enc := Value.int .i32) (d := (0 : Int)) (h1 := fun _ => rfl) H1.out).at_ (k : Int) (by omega) (by omega)
        obtain rfl := e0
        rw [← hc1] at hx1
        have hd1 := rd_int_drop xs k hlt
        generalize rdOf (0 : Int) xs (k : Int) = f1 at hx1 hd1
        obtain ⟨ad2, e0, hx2⟩ := (Kd.reads_of_C (enc := Value.int .i32) (d := (0 : Int)) (h1 := fun _ => rfl) H2.out).at_ (k : Int) (by omega) (by omega)
        obtain rfl := e0
        rw [← hc1] at hx2
        have hd2 := rd_int_drop ys k (by omega)
        generalize rdOf (0 : Int) ys (k : Int) = f2 at hx2 hd2
        simp only [Int.toNat_natCast] at hx1 hx2
        have hEE : xs = ys ↔ f1 = f2 ∧ xs.drop (k + 1) = ys.drop (k + 1) := by rw [HE.out, hd1, hd2, List.cons.injEq]
        have HEE := Aside0.mk hEE
        clear hd1 hd2 HE hEE hc1
        by_cases hf : f1 = f2
        · have b6 : decide (f1 = f2) = true := decide_eq_true hf
          (go_wp2; repeat (go_quiet (fail); try go_wp2))
          go_roundg (xs.length - (k + 1))
          case measure => omega
          case rel => exact ⟨k + 1, by first | rfl | rw [show wrap64 ((k : Int) + 1) = ((k + 1 : Nat) : Int) from by unfold wrap64; omega], by omega, ⟨by rw [HEE.out]; exact ⟨fun h => h.2, fun h => ⟨hf, h⟩⟩⟩, ⟨by obtain ⟨q, hq⟩ := HW.out; exact ⟨q + nq, by rw [hq, World.drewN_drewN]⟩⟩⟩
        · have b6 : decide (f1 = f2) = false := decide_eq_false hf
          have HNE : Aside0 (decide (xs = ys) = false) := ⟨decide_eq_false (fun h => hf (HEE.out.1 h).1)⟩
          (go_wp2; repeat (go_quiet (fail); try go_wp2))
          go_ret
          exact ⟨by rw [HNE.out]; rfl, by obtain ⟨q, hq⟩ := HW.out; exact ⟨q + nq, by rw [hq, World.drewN_drewN]⟩⟩
      · have b4 : decide ((k : Int) < (xs.length : Int)) = false := decide_eq_false (by omega)
        have HYE : Aside0 (decide (xs = ys) = true) := ⟨decide_eq_true (HE.out.2 (by rw [List.drop_of_length_le (by omega), List.drop_of_length_le (by omega)]))⟩
        go_wp2
        go_ret
        exact ⟨by rw [HYE.out]; rfl, HW.out⟩
  · have b1 : decide ((xs.length : Int) = (ys.length : Int)) = false := decide_eq_false (by omega)
    have HNE : Aside0 (decide (xs = ys) = false) := ⟨decide_eq_false (fun h => hl (congrArg List.length h))⟩
    go_enter Tryd.func89, Tryd.ntmps89
    go_wp2
    go_ret
    exact ⟨by rw [HNE.out]; rfl, 0, rfl⟩
set_option maxHeartbeats 4000000 in
set_option maxRecDepth 100000 in
theorem word_Sort2 (A1 A2 : Option Addr) (c1 c2 : Nat) (xs ys : List Int) (w : World)
    (h1 : Kd.C (Kd.int .i32) w A1 xs.length xs) (h2 : Kd.C (Kd.int .i32) w A2 ys.length ys) (hx : xs.length ≤ 4611686018427387904) :
    Calls Tryd.prog 88 #[.slice A1 xs.length c1, .slice A2 ys.length c2] w fun e w' => e = .returned (.bool (decide (xs = ys))) ∧ ∃ q, w' = w.drewN q := by
  have HQ := Aside0.mk (slices_EqualR A1 A2 c1 c2 xs ys w h1 h2 hx)
  clear h1 h2
  go_enter Tryd.func88, Tryd.ntmps88
  go_wp2_with (go_at_call 89; refine HQ.out.mono ?_; rintro e w2 ⟨rfl, hg⟩; have HG2 := Aside0.mk hg; clear hg)
  go_ret
  exact ⟨rfl, HG2.out⟩
set_option maxHeartbeats 4000000 in
set_option maxRecDepth 100000 in
theorem word_Sort1 (bm n c : Nat) (m : Int → Option Int) (ls : List S118) (A1 A2 : Option Addr) (c1 c2 : Nat) (xs ys : List Int) (w : World) (hM : YtfpfdmenhgageaaDoorMp.MapI (YtfpfdmenhgageaaDoorMp.intKey Tryd.underlying21) (YtfpfdmenhgageaaDoorMp.intElem Tryd.underlying3) w bm n m) (hk : Ranked m ls)
    (hc : w.cell? ⟨c, 0, none⟩ = some (.map (some bm))) (h1 : Kd.C (Kd.int .i32) w A1 xs.length xs) (h2 : Kd.C (Kd.int .i32) w A2 ys.length ys) (hlx : xs.length ≤ 4611686018427387904) (hx : ∀ x ∈ xs, (Lit.int .i32 x).wf = true) (hy : ∀ y ∈ ys, (Lit.int .i32 y).wf = true) :
    Calls Tryd.prog 86 #[.slice A1 xs.length c1, .slice A2 ys.length c2, .pointer (some ⟨c, 0, none⟩)] w fun e w' => e = .returned (.int .i64 (cmpL (cmpR ls) xs ys)) ∧ Gr w w' := by
  have HQ := Aside0.mk (word_compared bm n m ls A1 A2 c1 c2 xs ys w hM hk h1 h2 hlx hx hy)
  clear h1 h2 hM hk hx hy
  go_enter Tryd.func86, Tryd.ntmps86
  go_wp2_with (go_at_call 84; refine HQ.out.mono ?_; rintro e w2 ⟨rfl, hg⟩; have HG2 := Aside0.mk hg; clear hg)
  go_ret
  exact ⟨rfl, HG2.out⟩

def allE (ls : List S118) : List ByteArray → Int
  | [] => 0
  | x :: xs => if (readP ls (pieces (cut65 x)) []).2 ≠ 0 then (readP ls (pieces (cut65 x)) []).2 else allE ls xs
def allB (fs : List ByteArray) (ls : List S118) (l : List ByteArray) : Int := if alphaB fs ls = false then 7 else if l.length > 4096 then 4 else allE ls l
def lettersOf (ls : List S118) (x : ByteArray) : List Int := (readP ls (pieces (cut65 x)) []).1
theorem lettersOf_wf (ls : List S118) (x : ByteArray) : (∀ r ∈ lettersOf ls x, (Lit.int .i32 r).wf = true) ∧ (lettersOf ls x).length ≤ 64 := readP_wf ls _ [] (fun p hp => piece_wf hp) (by simp) (by simp)
/-- Each of them is a slice of runes that lies outside of block b. -/
def Words (W : World) (b : Nat) (rs : List (Value × List Int)) : Prop := ∀ p ∈ rs, ∃ A c, p.1 = .slice A p.2.length c ∧ p.2.length ≤ c ∧ Kd.F (Kd.int .i32) W (fun k => k ≠ b) A p.2.length p.2
theorem Words.step {W W' : World} {b : Nat} {rs : List (Value × List Int)} (h : Words W b rs) (hs : ∀ k, k ≠ b → k < W.heap.size → W'.heap[k]? = W.heap[k]?) : Words W' b rs := fun p hp => by
  obtain ⟨A, c, h1, h2, h3⟩ := h p hp
  exact ⟨A, c, h1, h2, Kd.F_step h3 hs⟩
theorem Words.below {W W' : World} {b : Nat} {rs : List (Value × List Int)} (h : Words W b rs) (hb : Below W.heap.size W W') : Words W' b rs := h.step (fun k _ hk => hb.block k hk)
def wordCells (rs : List (Value × List Int)) (n : Nat) : List Value := rs.map (·.1) ++ List.replicate (n - rs.length) (.slice none 0 0)
theorem madeCells_one (z : Value) (n : Nat) : madeCells #[z] n = (List.replicate n z).toArray := by
  apply Array.ext
  · simp [size_madeCells]
  · intro i h1 h2
    simp [madeCells, Nat.mod_one]
theorem rd_str_drop (l : List ByteArray) (k : Nat) (h : k < l.length) : l.drop k = rdOf ByteArray.empty l (k : Int) :: l.drop (k + 1) := by
  rw [List.drop_eq_getElem_cons h]
  simp [rdOf, List.getD_eq_getElem?_getD, List.getElem?_eq_getElem h]
theorem rd_str_take (l : List ByteArray) (k : Nat) (h : k < l.length) : l.take (k + 1) = l.take k ++ [rdOf ByteArray.empty l (k : Int)] := by
  rw [List.take_add_one]
  simp [rdOf, List.getD_eq_getElem?_getD, List.getElem?_eq_getElem h]
theorem wordCells_set (rs : List (Value × List Int)) (n : Nat) (v : Value) (xs : List Int) (h : rs.length < n) : ((wordCells rs n).toArray.setIfInBounds rs.length v) = (wordCells (rs ++ [(v, xs)]) n).toArray := by
  unfold wordCells
  obtain ⟨d, hd⟩ : ∃ d, n - rs.length = d + 1 := ⟨n - rs.length - 1, by omega⟩
  rw [hd, show n - (rs ++ [(v, xs)]).length = d by simp; omega]
  apply Array.ext'
  simp [List.replicate_succ, List.set_append]
set_option maxHeartbeats 4000000 in
set_option maxRecDepth 100000 in
theorem word_all (A0_0 : Option Addr) (c0_0 : Nat) (l0_0 : List ByteArray) (A0_1 : Option Addr) (c0_1 : Nat) (l0_1 : List (S118)) (A1 : Option Addr) (c1 : Nat) (l1 : List ByteArray) (w : World) (hr0 : Kd.C Kd.string w A0_0 l0_0.length l0_0) (hc0 : l0_0.length ≤ c0_0) (hr1 : Kd.C k118 w A0_1 l0_1.length l0_1) (hc1 : l0_1.length ≤ c0_1)
    (hrl : Kd.C Kd.string w A1 l1.length l1) (hcl : l1.length ≤ c1) (hG : GLaid w) (hfit : fitsS l0_0 = true) (r : Int) (h0 : allB l0_0 l0_1 l1 = r) : Calls Tryd.prog 80 #[.agg #[.slice A0_0 l0_0.length c0_0, .slice A0_1 l0_1.length c0_1], .slice A1 l1.length c1] w fun e w' =>
      Below w.heap.size w w' ∧ ((r ≠ 0 ∧ e = .returned (.tuple #[.map none, .slice none 0 0, .int .i64 r])) ∨
        (r = 0 ∧ ∃ bm m b rs, e = .returned (.tuple #[.map (some bm), .slice (some ⟨b, 0, none⟩) l1.length l1.length, .int .i64 0]) ∧ w.heap.size ≤ bm ∧ bm < b ∧ b < w'.heap.size ∧
          YtfpfdmenhgageaaDoorMp.MapI (YtfpfdmenhgageaaDoorMp.intKey Tryd.underlying21) (YtfpfdmenhgageaaDoorMp.intElem Tryd.underlying3) w' bm l0_1.length m ∧ Ranked m l0_1 ∧ w'.heap[b]? = some (.cells (rs.map (·.1)).toArray 39 (0, 0)) ∧ Words w' b rs ∧ rs.map (·.2) = l1.map (lettersOf l0_1))) := by
  have HFIT := Aside0.mk hfit
  have HG := Aside0.mk hG
  have HR0 := Aside0.mk hr0
  have HR1 := Aside0.mk hr1
  have HC0 := Aside0.mk hc0
  have HC1 := Aside0.mk hc1
  have HRL := Aside0.mk hrl
  have HCL := Aside0.mk hcl
  clear hfit hG hr0 hr1 hc0 hc1 hrl hcl
  have hu := Tryd.underlying38
  cases hal : alphaB l0_0 l0_1 with
  | false =>
    have HAL := Aside0.mk hal
    obtain rfl : r = 7 := by rw [← h0]; unfold allB; rw [hal]; rfl
    clear h0 hal
    go_enter Tryd.func80, Tryd.ntmps80
    go_wp2_with (first | ((with_reducible refine gate_dst (N := 2) rfl ?_); refine box_event ?hg (N := 2) ?hd (cs := #[.slice A0_0 l0_0.length c0_0, .slice A0_1 l0_1.length c0_1]) (t := 38) ?hr ?_; (case hd => rfl); (case hg => rfl); (case hr => first | (go_simp; done) | (go_simp; rfl)); intro gb hg w3 hbox hb; have HB := Aside0.mk hb; clear hb; have hcz0 : w3.cell? ⟨gb, 0, none⟩ = some (.slice A0_0 l0_0.length c0_0) := (blk_cell hbox 0).trans rfl; have hcz1 : w3.cell? ⟨gb, 1, none⟩ = some (.slice A0_1 l0_1.length c0_1) := (blk_cell hbox 1).trans rfl; clear hbox hg) | (go_at_call 69; refine (word_ranks.no A0_0 c0_0 l0_0 A0_1 c0_1 l0_1 _ (Kd.C_below HR0.out HB.out) HC0.out (Kd.C_below HR1.out HB.out) HC1.out HFIT.out HAL.out).mono ?_; rintro e w4 ⟨rfl, hb4⟩; have HB4 := Aside0.mk (below_step HB.out hb4); clear hb4))
    go_ret3
    exact ⟨HB4.out, .inl ⟨by decide, rfl⟩⟩
  | true =>
    have HAL := Aside0.mk hal
    by_cases hlen : l1.length > 4096
    · obtain rfl : r = 4 := by rw [← h0]; unfold allB; rw [hal, if_neg (by simp), if_pos hlen]
      have b1 : decide ((4096 : Int) < (l1.length : Int)) = true := decide_eq_true (by omega)
      clear h0 hal
      go_enter Tryd.func80, Tryd.ntmps80
      go_wp2_with (first | ((with_reducible refine gate_dst (N := 2) rfl ?_); refine box_event ?hg (N := 2) ?hd (cs := #[.slice A0_0 l0_0.length c0_0, .slice A0_1 l0_1.length c0_1]) (t := 38) ?hr ?_; (case hd => rfl); (case hg => rfl); (case hr => first | (go_simp; done) | (go_simp; rfl)); intro gb hg w3 hbox hb; have HB := Aside0.mk hb; clear hb; have hcz0 : w3.cell? ⟨gb, 0, none⟩ = some (.slice A0_0 l0_0.length c0_0) := (blk_cell hbox 0).trans rfl; have hcz1 : w3.cell? ⟨gb, 1, none⟩ = some (.slice A0_1 l0_1.length c0_1) := (blk_cell hbox 1).trans rfl; clear hbox hg) | (go_at_call 69; refine (word_ranks.yes A0_0 c0_0 l0_0 A0_1 c0_1 l0_1 _ (Kd.C_below HR0.out HB.out) HC0.out (Kd.C_below HR1.out HB.out) HC1.out HFIT.out HAL.out).mono ?_; rintro e w4 ⟨bm, m, rfl, hbm, hM4, hRK, hb4⟩; have HB4 := Aside0.mk (below_step HB.out hb4); clear hb4 hM4 hRK hbm))
      go_ret3
      exact ⟨HB4.out, .inl ⟨by decide, rfl⟩⟩
    · have b1 : decide ((4096 : Int) < (l1.length : Int)) = false := decide_eq_false (by omega)
      have HE0 : Aside0 (allE l0_1 l1 = r) := ⟨by rw [← h0]; unfold allB; rw [hal, if_neg (by simp), if_neg hlen]⟩
      have HLEN : Aside0 (l1.length ≤ 4096) := ⟨by omega⟩
      have hmk : ∀ W : World, (Instr.makeSlice 114 (.int .i64 (l1.length : Int)) (.int .i64 (l1.length : Int))).run Tryd.prog W = .ok (.slice (some ⟨W.heap.size, 0, none⟩) l1.length l1.length) (W.alloc (.cells (wordCells [] l1.length).toArray 39)) := fun W => by
        have h := run_make_row' 114 39 (.slice none 0 0) 24 Tryd.underlying114 (by kernel_rfl) rfl .i64 .i64 l1.length (by omega) (by omega) W
        rw [madeCells_one] at h
        simpa [wordCells] using h
      clear h0 hal hlen
      go_enter Tryd.func80, Tryd.ntmps80
      go_wp2_with (first | ((with_reducible refine gate_dst (N := 2) rfl ?_); refine box_event ?hg (N := 2) ?hd (cs := #[.slice A0_0 l0_0.length c0_0, .slice A0_1 l0_1.length c0_1]) (t := 38) ?hr ?_; (case hd => rfl); (case hg => rfl); (case hr => first | (go_simp; done) | (go_simp; rfl)); intro gb hg w3 hbox hb; have HB := Aside0.mk hb; clear hb; have hcz0 : w3.cell? ⟨gb, 0, none⟩ = some (.slice A0_0 l0_0.length c0_0) := (blk_cell hbox 0).trans rfl; have hcz1 : w3.cell? ⟨gb, 1, none⟩ = some (.slice A0_1 l0_1.length c0_1) := (blk_cell hbox 1).trans rfl; clear hbox hg) | (go_at_call 69; refine (word_ranks.yes A0_0 c0_0 l0_0 A0_1 c0_1 l0_1 _ (Kd.C_below HR0.out HB.out) HC0.out (Kd.C_below HR1.out HB.out) HC1.out HFIT.out HAL.out).mono ?_; rintro e w4 ⟨bm, m, rfl, hbm, hM4, hRK, hb4⟩; have HBM : Aside0 (w.heap.size ≤ bm) := ⟨Nat.le_trans HB.out.size hbm⟩; have HB4 := Aside0.mk (below_step HB.out hb4); have HM4 := Aside0.mk hM4; have HRK := Aside0.mk hRK; clear hb4 hM4 hRK hbm))
      have HLT : Aside0 (bm < w4.heap.size) := ⟨HM4.out.lt⟩
      have HW4 : Aside0 (w.heap.size ≤ w4.heap.size) := ⟨HB4.out.size⟩
      go_loopg [28] l1.length (fun kq v28 w' => ∃ (k : Nat) (rs : List (Value × List Int)), v28 = .int .i64 (k : Int) ∧ k + kq = l1.length ∧ rs.length = k ∧
        Aside0 (w'.heap[w4.heap.size]? = some (.cells (wordCells rs l1.length).toArray 39 (0, 0))) ∧ Aside0 (Words w' w4.heap.size rs) ∧ Aside0 (rs.map (·.2) = (l1.take k).map (lettersOf l0_1)) ∧ Aside0 (allE l0_1 (l1.drop k) = r) ∧
        Aside0 (YtfpfdmenhgageaaDoorMp.MapI (YtfpfdmenhgageaaDoorMp.intKey Tryd.underlying21) (YtfpfdmenhgageaaDoorMp.intElem Tryd.underlying3) w' bm l0_1.length m) ∧ Aside0 (Below w.heap.size w w'))
      case atStart => exact ⟨0, [], rfl, by omega, rfl, ⟨blk_new w4 _⟩, ⟨fun p hp => by cases hp⟩, ⟨rfl⟩, HE0, ⟨HM4.out.alloc _⟩, ⟨below_alloc HB4.out _⟩⟩
      case round =>
        clear HM4 HE0
        obtain ⟨k, rs, rfl, hk, hrs, HBK, HWD, HMP, HEE, HMI, HBW⟩ := hrel
        by_cases hlt : k < l1.length
        · have b4 : decide ((k : Int) < (l1.length : Int)) = true := decide_eq_true (by omega)
          have hki : (k : Int) < (l1.length : Int) := by omega
          obtain ⟨ad, e0, hx⟩ := Kd.at_string (Kd.C_below HRL.out HBW.out) (k : Int) (by omega) (by omega)
          obtain rfl := e0
          simp only [Int.toNat_natCast] at hx
          have hd := rd_str_drop l1 k hlt
          have ht := rd_str_take l1 k hlt
          generalize rdOf ByteArray.empty l1 (k : Int) = s at hx hd ht
          have HD : Aside0 (allE l0_1 (l1.drop k) = if (readP l0_1 (pieces (cut65 s)) []).2 ≠ 0 then (readP l0_1 (pieces (cut65 s)) []).2 else allE l0_1 (l1.drop (k + 1))) := ⟨by rw [hd]; rfl⟩
          have HT := Aside0.mk ht
          have hbl : w4.heap.size < wr.heap.size := blk_lt HBK.out
          have hcl : k < (wordCells rs l1.length).length := by simp [wordCells]; omega
          clear hd ht
          obtain ⟨rl, hrl⟩ : ∃ x, x = lettersOf l0_1 s := ⟨_, rfl⟩
          obtain ⟨re, hre⟩ : ∃ x, x = (readP l0_1 (pieces (cut65 s)) []).2 := ⟨_, rfl⟩
          have HRD : Aside0 (readP l0_1 (pieces (cut65 s)) [] = (rl, re)) := ⟨by rw [hrl, hre]; rfl⟩
          have HRL2 := Aside0.mk hrl
          rw [← hre] at HD
          clear hrl hre
          go_wp2_with (go_at_call 70; (with_reducible refine (word_read.ok bm _ m l0_1 s _ (GLaid.below_ HG.out HBW.out) HMI.out HRK.out _ _ HRD.out).mono ?_); rintro e w6 ⟨v6, rfl, hR6, hB6⟩; obtain ⟨A6, c6, rfl, hl6, hC6⟩ := Kd.R_reads hR6; have hbk6 := blk_below HBK.out hB6; have hf6 : w6.frozen? ⟨w4.heap.size, k, none⟩ = false := blk_frozen hbk6 k; have hcc6 : w6.cell? ⟨w4.heap.size, k, none⟩ = some ((wordCells rs l1.length)[k]'hcl) := (blk_cell hbk6 k).trans (by simp [List.getElem?_eq_getElem hcl]); have HBK7 : Aside0 ((w6.setCell ⟨w4.heap.size, k, none⟩ (.slice A6 rl.length c6)).heap[w4.heap.size]? = some (.cells (wordCells (rs ++ [(.slice A6 rl.length c6, rl)]) l1.length).toArray 39 (0, 0))) := ⟨by rw [← wordCells_set rs l1.length (.slice A6 rl.length c6) rl (by omega), hrs]; exact blk_set hbk6 k _⟩; have HF6 : Aside0 (Kd.F (Kd.int .i32) w6 (fun k => k ≠ w4.heap.size) A6 rl.length rl) := ⟨Kd.R_F (Kd.R_mono (Kd.R_bound hR6) (fun q hq => by have := hq.2.1; omega))⟩; have HWD7 : Aside0 (Words (w6.setCell ⟨w4.heap.size, k, none⟩ (.slice A6 rl.length c6)) w4.heap.size (rs ++ [(.slice A6 rl.length c6, rl)])) := ⟨fun p hp => by rcases List.mem_append.1 hp with hp | hp; exact ((HWD.out.below hB6).step (fun q hq _ => Below.heap_setCell w6 ⟨w4.heap.size, k, none⟩ _ q hq)) p hp; (obtain rfl := List.mem_singleton.1 hp; exact ⟨A6, c6, rfl, hl6, Kd.F_far HF6.out (fun q hq => hq) _⟩)⟩; have HMI7 : Aside0 (YtfpfdmenhgageaaDoorMp.MapI (YtfpfdmenhgageaaDoorMp.intKey Tryd.underlying21) (YtfpfdmenhgageaaDoorMp.intElem Tryd.underlying3) (w6.setCell ⟨w4.heap.size, k, none⟩ (.slice A6 rl.length c6)) bm l0_1.length m) := ⟨(HMI.out.below hB6).setCell (Nat.ne_of_lt HLT.out) _⟩; have HB7 : Aside0 (Below w.heap.size w (w6.setCell ⟨w4.heap.size, k, none⟩ (.slice A6 rl.length c6))) := ⟨(below_step HBW.out hB6).setCell (p := ⟨w4.heap.size, k, none⟩) HW4.out _⟩; clear hR6 hB6 hbk6)
          · rename_i hz
            have hz' : re ≠ 0 := by simpa using hz
            have hr : r = re := by rw [← HEE.out, HD.out, if_pos hz']
            go_ret3
            exact ⟨HB7.out, .inl ⟨by rw [hr]; exact hz', by rw [hr]; rfl⟩⟩
          · rename_i hz
            have hz' : re = 0 := by simpa using hz
            go_roundg (l1.length - (k + 1))
            case measure => omega
            case rel =>
              exact ⟨k + 1, rs ++ [(.slice A6 rl.length c6, rl)], by rw [show wrap64 ((k : Int) + 1) = ((k + 1 : Nat) : Int) from by have := HLEN.out; unfold wrap64; omega], by omega, by simp [hrs], HBK7, HWD7, ⟨by rw [HT.out, List.map_append, List.map_append, HMP.out, HRL2.out]; rfl⟩, ⟨by rw [← HEE.out, HD.out, if_neg (by simpa using hz')]⟩, HMI7, HB7⟩
        · have b4 : decide ((k : Int) < (l1.length : Int)) = false := decide_eq_false (by omega)
          have hkn : k = l1.length := by omega
          have hr0 : r = 0 := by rw [← HEE.out, hkn, List.drop_length]; rfl
          have hbl : w4.heap.size < wr.heap.size := blk_lt HBK.out
          have HBK2 : Aside0 (wr.heap[w4.heap.size]? = some (.cells (rs.map (·.1)).toArray 39 (0, 0))) := ⟨by rw [HBK.out]; unfold wordCells; rw [hrs, hkn, Nat.sub_self]; simp⟩
          have HMP2 : Aside0 (rs.map (·.2) = l1.map (lettersOf l0_1)) := ⟨by rw [HMP.out, hkn, List.take_length]⟩
          clear HBK HMP
          go_wp2
          go_ret3
          exact ⟨HBW.out, .inr ⟨hr0, bm, m, w4.heap.size, rs, rfl, HBM.out, HLT.out, hbl, HMI.out, HRK.out, HBK2.out, HWD.out, HMP2.out⟩⟩

end Go.Proofs.YtfpfdmenhgageaaDoor.S
