-- Written by this session's program (wip/ext) with the kit's printer. Not trusted: Lean checks it.
import Derived.Test.YtfpfdmenhgageaaDoorSx0
import Derived.Test.YtfpfdmenhgageaaDoorSx3
import Derived.Test.YtfpfdmenhgageaaDoorSx4
import Derived.Test.YtfpfdmenhgageaaDoorSx5
import Derived.Test.YtfpfdmenhgageaaDoorSx7
import Derived.Test.YtfpfdmenhgageaaDoorSx8
namespace Go.Proofs.YtfpfdmenhgageaaDoor.S
open Go.RowKit Go.Proofs.YtfpfdmenhgageaaDoorW.PrintWords Go.Proofs.YtfpfdmenhgageaaDoorW.PrintLast Go.Proofs.YtfpfdmenhgageaaDoorW.PrintMore
attribute [local go_sem] max2_int min2_int max_two min_two max_three min_three max_four min_four   -- for this text's walks alone
set_option linter.unusedVariables false
set_option linter.unusedSimpArgs false

def insU (ls : List S118) (x : List Int) : List (List Int) → List (List Int)
  | [] => [x]
  | y :: ys => if cmpL (cmpR ls) x y < 0 then x :: y :: ys else if x = y then y :: ys else y :: insU ls x ys
/-! sorting words -/
theorem sw_heap {α : Type} [Inhabited α] (enc : α → Value) (w : World) (blk off m : Nat) (dk : Array α) (os : Array Obj) (k : Nat) (hk : k < w.heap.size) (hne : k ≠ blk) : (sortWorld enc w blk off m dk os).heap[k]? = w.heap[k]? := by
  unfold sortWorld
  rw [Go.Sort.heap_grow_old _ _ (by rw [size_putRow]; exact hk)]
  simp [Go.Sort.putRow, Go.Sort.mapBlock, Array.getElem?_modify, Go.Sort.ahead, Ne.symm hne]
theorem sw_grown {α : Type} [Inhabited α] (enc : α → Value) (w : World) (blk off m : Nat) (dk : Array α) (os : Array Obj) : w.grownBy (sortWorld enc w blk off m dk os) (some blk) :=
  ⟨rfl, rfl, rfl, by unfold sortWorld; rw [Go.Sort.size_grow, size_putRow]; exact Nat.le_add_right _ _, fun k hk hne => sw_heap enc w blk off m dk os k hk (fun e => hne (by rw [e]))⟩
theorem putRow_row {α : Type} [Inhabited α] (enc : α → Value) {w : World} {blk off : Nat} (dk : Array α) {cs : Array Value} {T : TypeId} (h : w.heap[blk]? = some (.cells cs T (0, 0))) : (Go.Sort.putRow enc w blk off dk).heap[blk]? = some (.cells (Go.Sort.putCells enc off dk cs) T (0, 0)) := by
  simp [Go.Sort.putRow, Go.Sort.mapBlock, Array.getElem?_modify, h, Go.Sort.onCells]
theorem sw_row {α : Type} [Inhabited α] (enc : α → Value) {w : World} {blk off m : Nat} (dk : Array α) (os : Array Obj) {cs : Array Value} {T : TypeId} (h : w.heap[blk]? = some (.cells cs T (0, 0))) : (sortWorld enc w blk off m dk os).heap[blk]? = some (.cells (Go.Sort.putCells enc off dk cs) T (0, 0)) := by
  unfold sortWorld
  rw [Go.Sort.heap_grow_old _ _ (by rw [size_putRow]; exact blk_lt h)]
  exact putRow_row enc dk h
theorem putCells_all {α : Type} [Inhabited α] (enc : α → Value) (dk : Array α) (cs : Array Value) (h : cs.size = dk.size) : Go.Sort.putCells enc 0 dk cs = dk.map enc := by
  apply Array.ext_getElem?
  intro k
  simp only [Go.Sort.putCells, Array.getElem?_mapIdx, Array.getElem?_map]
  by_cases hk : k < dk.size
  · rw [Array.getElem?_eq_getElem (by omega), Array.getElem?_eq_getElem hk]
    simp [hk]
  · rw [Array.getElem?_eq_none (by omega), Array.getElem?_eq_none (by omega)]
    rfl
/-- A word by its number: its slice, its runes. -/
def wv (rs : List (Value × List Int)) (i : Nat) : Value := ((rs[i]?).map (·.1)).getD (.slice none 0 0)
def wd (rs : List (Value × List Int)) (i : Nat) : List Int := ((rs[i]?).map (·.2)).getD []
theorem wv_is {W : World} {b : Nat} {rs : List (Value × List Int)} (h : Words W b rs) (i : Nat) : ∃ A c, wv rs i = .slice A (wd rs i).length c ∧ (wd rs i).length ≤ c ∧ Kd.F (Kd.int .i32) W (fun k => k ≠ b) A (wd rs i).length (wd rs i) := by
  unfold wv wd
  cases he : rs[i]? with
  | none => exact ⟨none, 0, rfl, Nat.le_refl _, Kd.F_nil _ _ _⟩
  | some p => exact h p (List.mem_of_getElem? he)
theorem wd_mem {rs : List (Value × List Int)} {P : List Int → Prop} (h : ∀ p ∈ rs, P p.2) (h0 : P []) (i : Nat) : P (wd rs i) := by
  unfold wd
  cases he : rs[i]? with
  | none => exact h0
  | some p => exact h p (List.mem_of_getElem? he)
theorem wv_get {rs : List (Value × List Int)} {i : Nat} (h : i < rs.length) : wv rs i = rs[i].1 := by simp [wv, h]
theorem wd_get {rs : List (Value × List Int)} {i : Nat} (h : i < rs.length) : wd rs i = rs[i].2 := by simp [wd, h]
/-- The order of words. -/
def rkL (ls : List S118) (x : List Int) : List Nat := x.map fun r => (rankOf ls r).getD 0
theorem cmpL_tri (ls : List S118) : ∀ xs ys, (cmpL (cmpR ls) xs ys < 0 ↔ rkL ls xs < rkL ls ys) ∧ (cmpL (cmpR ls) xs ys = 0 ↔ rkL ls xs = rkL ls ys)
  | [], [] => by simp [cmpL, rkL]
  | [], y :: ys => by simp [cmpL, rkL]
  | x :: xs, [] => by simp [cmpL, rkL]
  | x :: xs, y :: ys => by
    obtain ⟨h1, h2⟩ := cmpL_tri ls xs ys
    have hr : ∀ x xs, rkL ls (x :: xs) = (rankOf ls x).getD 0 :: rkL ls xs := fun _ _ => rfl
    rw [hr, hr, List.cons_lt_cons_iff, List.cons.injEq]
    rw [show cmpL (cmpR ls) (x :: xs) (y :: ys) = if cmpR ls x y ≠ 0 then cmpR ls x y else cmpL (cmpR ls) xs ys from rfl, show cmpR ls x y = if (rankOf ls x).getD 0 < (rankOf ls y).getD 0 then -1 else if (rankOf ls y).getD 0 < (rankOf ls x).getD 0 then 1 else 0 from rfl]
    by_cases c1 : (rankOf ls x).getD 0 < (rankOf ls y).getD 0
    · rw [if_pos c1, if_pos (by decide)]
      exact ⟨⟨fun _ => .inl c1, fun _ => by decide⟩, ⟨fun h => absurd h (by decide), fun h => absurd h.1 (Nat.ne_of_lt c1)⟩⟩
    · rw [if_neg c1]
      by_cases c2 : (rankOf ls y).getD 0 < (rankOf ls x).getD 0
      · rw [if_pos c2, if_pos (by decide)]
        exact ⟨⟨fun h => absurd h (by decide), fun h => absurd h (by omega)⟩, ⟨fun h => absurd h (by decide), fun h => absurd h.1 (by omega)⟩⟩
      · have e : (rankOf ls x).getD 0 = (rankOf ls y).getD 0 := by omega
        rw [if_neg c2, if_neg (by decide), h1, h2]
        exact ⟨⟨fun h => .inr ⟨e, h⟩, fun h => by rcases h with h | h; exact absurd h c1; exact h.2⟩, ⟨fun h => ⟨e, h⟩, fun h => h.2⟩⟩
theorem cmpL_lt (ls : List S118) (xs ys : List Int) : cmpL (cmpR ls) xs ys < 0 ↔ rkL ls xs < rkL ls ys := (cmpL_tri ls xs ys).1
theorem words_swo (ls : List S118) (f : Nat → List Int) : Go.Sort.SWO (ltOf fun i j => cmpL (cmpR ls) (f i) (f j)) where
  irrefl x := by simp only [ltOf, decide_eq_false_iff_not, cmpL_lt]; exact List.lt_irrefl _
  trans x y z h1 h2 := by
    simp only [ltOf, decide_eq_true_eq, cmpL_lt] at *
    exact List.lt_trans h1 h2
  ntrans x y z h1 h2 := by
    simp only [ltOf, decide_eq_false_iff_not, cmpL_lt, List.not_lt] at *
    exact List.le_trans h2 h1
theorem range_get (n j : Nat) (h : j < n) : (List.range n).toArray[j]! = j := by
  rw [getElem!_pos _ j (by simpa using h)]; simp
theorem words_perm {rs : List (Value × List Int)} {d' : Array Nat} (h : d'.toList.Perm (List.range rs.length)) : (d'.toList.map (fun i => (wv rs i, wd rs i))).Perm rs := by
  have e : (List.range rs.length).map (fun i => (wv rs i, wd rs i)) = rs := by
    apply List.ext_getElem
    · simp
    · intro i h1 h2
      simp only [List.getElem_map, List.getElem_range]
      rw [wv_get h2, wd_get h2]
  have := h.map (fun i => (wv rs i, wd rs i))
  rwa [e] at this
theorem words_below {W W' : World} {b : Nat} {rs rs' : List (Value × List Int)} (h : Words W b rs) (hg : W.grownBy W' (some b)) (hp : ∀ p ∈ rs', p ∈ rs) : Words W' b rs' := fun p hm => by
  obtain ⟨A, c, h1, h2, h3⟩ := h p (hp p hm)
  exact ⟨A, c, h1, h2, Kd.F_grown h3 hg (fun k hk e => hk (Option.some.inj e))⟩
set_option maxHeartbeats 4000000 in
set_option maxRecDepth 100000 in
theorem word_sorted (bm n c b cap : Nat) (m : Int → Option Int) (ls : List S118) (rs : List (Value × List Int)) (w : World) (hM : YtfpfdmenhgageaaDoorMp.MapI (YtfpfdmenhgageaaDoorMp.intKey Tryd.underlying21) (YtfpfdmenhgageaaDoorMp.intElem Tryd.underlying3) w bm n m) (hk : Ranked m ls)
    (hbm : bm ≠ b) (hcb : c ≠ b) (hc : w.cell? ⟨c, 0, none⟩ = some (.map (some bm))) (hbk : w.heap[b]? = some (.cells (rs.map (·.1)).toArray 39 (0, 0))) (hw : Words w b rs) (hwf : ∀ p ∈ rs, (∀ x ∈ p.2, (Lit.int .i32 x).wf = true) ∧ p.2.length ≤ 64) (hlen : rs.length ≤ 4096) :
    Calls Tryd.prog 85 #[.slice (some ⟨b, 0, none⟩) rs.length cap, .func (.func 86) #[] #[.pointer (some ⟨c, 0, none⟩)]] w fun e w' => e = .returned (.tuple #[]) ∧
      ∃ rs' : List (Value × List Int), rs'.Perm rs ∧ (rs'.map (·.2)).Pairwise (fun x y => ¬ cmpL (cmpR ls) y x < 0) ∧ w'.heap[b]? = some (.cells (rs'.map (·.1)).toArray 39 (0, 0)) ∧ w.grownBy w' (some b) := by
  have hcl : c < w.heap.size := World.block_lt_of_cell? w _ hc
  have hd : (List.range rs.length).toArray.size = rs.length := by simp
  have h := Tryd.slices_SortFunc_f85 (wv rs) (fun i => by obtain ⟨A, c, e, _⟩ := wv_is hw i; rw [e]; rfl) (fun i j => cmpL (cmpR ls) (wd rs i) (wd rs j)) (words_swo ls (wd rs)) 86 #[.pointer (some ⟨c, 0, none⟩)] b 0 cap (List.range rs.length).toArray w (enters_of Tryd.func86 (by kernel_rfl) rfl)
    (fun q os dk hs x y => by
      have hg := sw_grown (wv rs) w b 0 q dk os
      obtain ⟨A1, c1, e1, _, f1⟩ := wv_is hw x
      obtain ⟨A2, c2, e2, _, f2⟩ := wv_is hw y
      rw [e1, e2]
      have w1 := wd_mem (P := fun l => (∀ x ∈ l, (Lit.int .i32 x).wf = true) ∧ l.length ≤ 64) hwf ⟨by simp, by simp⟩ x
      have w2 := wd_mem (P := fun l => (∀ x ∈ l, (Lit.int .i32 x).wf = true) ∧ l.length ≤ 64) hwf ⟨by simp, by simp⟩ y
      exact word_Sort1 bm n c m ls A1 A2 c1 c2 (wd rs x) (wd rs y) _ (hM.kept hg (fun e => hbm (Option.some.inj e))) hk ((World.cell?_of_block (hg.block c hcl (fun e => hcb (Option.some.inj e)))).trans hc)
        (Kd.F_now (Kd.F_grown f1 hg (fun k hk e => hk (Option.some.inj e)))) (Kd.F_now (Kd.F_grown f2 hg (fun k hk e => hk (Option.some.inj e)))) (by omega) w1.1 w2.1)
    (fun j hj => by
      rw [hd] at hj
      refine ⟨?_, by rw [Nat.zero_add]; exact blk_frozen hbk j⟩
      rw [range_get _ _ hj, Nat.zero_add, blk_cell hbk j, wv_get hj]
      simp [hj])
    (blk_lt hbk) (by rw [hd]; omega)
  rw [hd] at h
  refine h.mono ?_
  rintro e w' ⟨he, d', q, os, hp, hs, rfl⟩
  have hz : d'.size = rs.length := by rw [hp.1, hd]
  have hpm : d'.toList.Perm (List.range rs.length) := by
    have := hp.2.2
    rw [show d'.extract 0 rs.length = d' by have := Array.extract_size (xs := d'); rwa [hz] at this, show (List.range rs.length).toArray.extract 0 rs.length = (List.range rs.length).toArray by have := Array.extract_size (xs := (List.range rs.length).toArray); rwa [hd] at this] at this
    simpa using this
  refine ⟨he, d'.toList.map (fun i => (wv rs i, wd rs i)), words_perm hpm, ?_, ?_, sw_grown (wv rs) w b 0 q d' os⟩
  · rw [List.pairwise_iff_getElem]
    intro i j hi hj hij
    simp only [List.length_map, Array.length_toList] at hi hj
    have := hs i j (Nat.zero_le _) hij (by omega)
    rw [getElem!_pos d' j (by omega), getElem!_pos d' i (by omega)] at this
    simp only [ltOf, decide_eq_false_iff_not] at this
    simpa using this
  · rw [sw_row (wv rs) d' os hbk, putCells_all _ _ _ (by simp [hz])]
    congr 2
    apply Array.ext'
    simp [Function.comp_def]
/-! what is kept of neighbours that are alike -/
section
variable {α : Type} [Inhabited α]
def cpU (d : Array α) (kp : Nat → Bool) (m : Nat) : List α := ((List.range m).filter kp).map (d[·]!)
theorem cpU_succ (d : Array α) (kp : Nat → Bool) (m : Nat) : cpU d kp (m + 1) = cpU d kp m ++ (if kp m then [d[m]!] else []) := by
  unfold cpU
  rw [List.range_succ, List.filter_append, List.map_append]
  congr 1
  by_cases h : kp m <;> simp [h]
theorem cpU_all (d : Array α) (kp : Nat → Bool) (m : Nat) (h : ∀ j, j < m → kp j = true) : cpU d kp m = (List.range m).map (d[·]!) := by
  unfold cpU
  rw [List.filter_eq_self.2 (fun j hj => h j (List.mem_range.1 hj))]
structure CpI (d : Array α) (kp : Nat → Bool) (m k : Nat) (dk : Array α) : Prop where
  size : dk.size = d.size
  len : (cpU d kp m).length = k
  lt : k < m
  low : ∀ j, j < k → (cpU d kp m)[j]? = some dk[j]!
  high : ∀ j, k ≤ j → dk[j]! = d[j]!
theorem CpI.start {d : Array α} {kp : Nat → Bool} {k0 : Nat} (hall : ∀ j, j < k0 → kp j = true) (hdup : kp k0 = false) : CpI d kp (k0 + 1) k0 d where
  size := rfl
  len := by rw [cpU_succ, hdup, cpU_all d kp k0 hall]; simp
  lt := Nat.lt_succ_self _
  low := fun j hj => by rw [cpU_succ, hdup, cpU_all d kp k0 hall]; simp [hj]
  high := fun _ _ => rfl
theorem CpI.keep {d dk : Array α} {kp : Nat → Bool} {m k : Nat} (h : CpI d kp m k dk) (hm : m < d.size) (hk : kp m = true) : CpI d kp (m + 1) (k + 1) (dk.setIfInBounds k d[m]!) where
  size := by simp [h.size]
  len := by rw [cpU_succ, hk]; simp [h.len]
  lt := by have := h.lt; omega
  low := fun j hj => by
    rw [cpU_succ, hk, if_pos rfl]
    by_cases e : j = k
    · subst e
      rw [List.getElem?_append_right (by rw [h.len]; exact Nat.le_refl _), h.len, Nat.sub_self, Go.Sort.getElem!_set_same dk j _ (by have := h.lt; have := h.size; omega)]
      rfl
    · rw [List.getElem?_append_left (by rw [h.len]; omega), h.low j (by omega), Go.Sort.getElem!_set_other dk k j _ e]
  high := fun j hj => by rw [Go.Sort.getElem!_set_other dk k j _ (by omega), h.high j (by omega)]
theorem CpI.skip {d dk : Array α} {kp : Nat → Bool} {m k : Nat} (h : CpI d kp m k dk) (hk : kp m = false) : CpI d kp (m + 1) k dk where
  size := h.size
  len := by rw [cpU_succ, hk]; simpa using h.len
  lt := by have := h.lt; omega
  low := fun j hj => by rw [cpU_succ, hk]; simpa using h.low j hj
  high := h.high
end
theorem putRow_heap {α : Type} [Inhabited α] (enc : α → Value) (w : World) (blk off : Nat) (d : Array α) (k : Nat) (hne : k ≠ blk) : (Go.Sort.putRow enc w blk off d).heap[k]? = w.heap[k]? := by
  simp [Go.Sort.putRow, Go.Sort.mapBlock, Array.getElem?_modify, Ne.symm hne]
theorem putRow_grown {α : Type} [Inhabited α] (enc : α → Value) (w : World) (blk off q : Nat) (d : Array α) : w.grownBy (Go.Sort.putRow enc (Go.Sort.ahead w q) blk off d) (some blk) :=
  ⟨rfl, rfl, rfl, by rw [size_putRow]; exact Nat.le_refl _, fun k _ hne => putRow_heap enc _ blk off d k (fun e => hne (by rw [e]))⟩
theorem setCells_grown {w : World} {b : Nat} : ∀ (vs : List Value) (off : Nat) (W : World), w.grownBy W (some b) → w.grownBy (W.setCells b off vs) (some b)
  | [], _, _, h => h
  | v :: vs, off, W, h => setCells_grown vs (off + 1) _ ⟨h.os, h.tape, h.output, by simpa [World.setCell] using h.size, fun k hk hne => (Below.heap_setCell W ⟨b, off, none⟩ v k (fun e => hne (by rw [e]))).trans (h.block k hk hne)⟩
set_option maxHeartbeats 8000000 in
set_option maxRecDepth 100000 in
theorem slices_CompactR {α : Type} [Inhabited α] (enc : α → Value) (h1 : ∀ x, ∃ A n c, enc x = .slice A n c) (eqf : α → α → Bool) (blk cap : Nat) (d : Array α) (w : World) (hH : Go.Sort.Holds enc w blk 0 d) (hblk : blk < w.heap.size) (hsz : d.size ≤ 4611686018427387904) (hcap : d.size ≤ cap)
    (heq : ∀ q dk, dk.size = d.size → ∀ x y : α, Calls Tryd.prog 88 #[enc x, enc y] (Go.Sort.putRow enc (Go.Sort.ahead w q) blk 0 dk) fun e w' => e = .returned (.bool (eqf x y)) ∧ ∃ n, w' = (Go.Sort.putRow enc (Go.Sort.ahead w q) blk 0 dk).drewN n)
    (kp : Nat → Bool) (hkp : ∀ j, kp j = (decide (j = 0) || !eqf d[j]! d[j - 1]!)) :
    Calls Tryd.prog 87 #[.slice (some ⟨blk, 0, none⟩) d.size cap, .func (.func 88) #[] #[]] w fun e w' => e = .returned (.slice (some ⟨blk, 0, none⟩) (cpU d kp d.size).length cap) ∧
      w.grownBy w' (some blk) ∧ ∀ j v, (cpU d kp d.size)[j]? = some v → w'.cell? ⟨blk, j, none⟩ = some (enc v) := by
  have eg : ∀ args w, (callFunc 88 args).run Tryd.prog w = .ok (.enter 88 args) w := enters_of Tryd.func88 (by kernel_rfl) rfl
  have HEQ := Aside0.mk heq
  have HKP := Aside0.mk hkp
  have HH := Aside0.mk hH
  have same : ∀ q, (∀ j, j < d.size → kp j = true) → (cpU d kp d.size).length = d.size ∧ w.grownBy (w.drewN q) (some blk) ∧ ∀ j v, (cpU d kp d.size)[j]? = some v → (w.drewN q).cell? ⟨blk, j, none⟩ = some (enc v) := fun q hall => by
    have e : cpU d kp d.size = d.toList := by
      rw [cpU_all d kp _ hall]
      apply List.ext_getElem
      · simp
      · intro i h1 h2
        have hi : i < d.size := by simpa using h2
        simp [getElem!_pos, hi]
    rw [e]
    refine ⟨by simp, ⟨rfl, rfl, rfl, Nat.le_refl _, fun _ _ _ => rfl⟩, fun j v hv => ?_⟩
    obtain ⟨hj, hv⟩ := List.getElem?_eq_some_iff.1 hv
    have hj2 : j < d.size := by simpa using hj
    have := (hH j hj2).1
    rw [getElem!_pos d j hj2, Nat.zero_add] at this
    rw [← hv]
    simpa using this
  have HS := Aside0.mk same
  have HKP0 : Aside0 (kp 0 = true) := ⟨by rw [hkp]; rfl⟩
  clear same heq hkp hH
  by_cases h2 : d.size < 2
  · have b1 : decide ((d.size : Int) < 2) = true := decide_eq_true (by omega)
    go_enter Tryd.func87, Tryd.ntmps87
    go_wp2
    go_ret
    obtain ⟨e1, e2, e3⟩ := HS.out 0 (fun j hj => by rw [show j = 0 by omega]; exact HKP0.out)
    exact ⟨by rw [e1]; rfl, e2, e3⟩
  · have b1 : decide ((d.size : Int) < 2) = false := decide_eq_false (by omega)
    go_enter Tryd.func87, Tryd.ntmps87
    go_wp2
    go_loopg [5] d.size (fun g s5 wr => ∃ (k q : Nat), 1 ≤ k ∧ k ≤ d.size ∧ d.size - k ≤ g ∧ s5 = .int .i64 (k : Int) ∧ Aside0 (wr = w.drewN q) ∧ Aside0 (∀ j, j < k → kp j = true))
    case atStart => exact ⟨1, 0, Nat.le_refl _, by omega, by omega, rfl, ⟨rfl⟩, ⟨fun j hj => by rw [show j = 0 by omega]; exact HKP0.out⟩⟩
    case round =>
      obtain ⟨k, q, hk1, hk, hg, rfl, HWR, HALL⟩ := hrel
      by_cases hlt : k < d.size
      · obtain ⟨i, rfl⟩ : ∃ i, k = i + 1 := ⟨k - 1, by omega⟩
        obtain ⟨kN, hkN⟩ : ∃ z, z = i + 1 := ⟨_, rfl⟩
        have b4 : decide ((i : Int) + 1 < (d.size : Int)) = true := decide_eq_true (by omega)
        have ea : ((i : Int) + 1).toNat = kN := by omega
        have pa : (0 : Int) ≤ (i : Int) + 1 := by omega
        have ba : (i : Int) + 1 < (d.size : Int) := by omega
        have ra : IntKind.i64.wrap ((i : Int) + 1) = (i : Int) + 1 := by rw [IntKind.wrap_i64]; omega
        have bc : (i : Int) < (d.size : Int) := by omega
        have rc : IntKind.i64.wrap (i : Int) = (i : Int) := by rw [IntKind.wrap_i64]; omega
        have c1 : wr.cell? ⟨blk, 0 + (i + 1), none⟩ = some (enc d[i + 1]!) := by rw [HWR.out]; exact (HH.out (i + 1) hlt).1
        have c0 : wr.cell? ⟨blk, 0 + i, none⟩ = some (enc d[i]!) := by rw [HWR.out]; exact (HH.out i (by omega)).1
        rw [Nat.zero_add] at c1 c0
        rw [← hkN] at c1
        have hkv : kp (i + 1) = !eqf d[i + 1]! d[i]! := by rw [HKP.out]; simp
        rw [← hkN] at hkv
        have hq := fun n => HEQ.out (q + n) d rfl d[kN]! d[i]!
        have hw : ∀ n, Go.Sort.putRow enc (Go.Sort.ahead w (q + n)) blk 0 d = wr.drewN n := fun n => by
          rw [Go.Sort.putRow_self enc (Go.Sort.ahead w (q + n)) blk 0 d (fun j hj => HH.out j hj), HWR.out, World.drewN_drewN]; rfl
        simp only [hw] at hq
        have HQ := Aside0.mk hq
        clear hq hw
        generalize d[kN]! = x at c1 hkv HQ
        generalize d[i]! = y at c0 hkv HQ
        cases hxy : eqf x y with
        | false =>
          rw [hxy] at hkv
          have HKV : Aside0 (kp (i + 1) = true) := ⟨by rw [← hkN]; exact hkv⟩
          rw [hxy] at HQ
          clear hkv hxy hkN
          go_wp2
          go_quiet (first | (go_at_fn 88; with_reducible exact Calls.quiet_of (HQ.out _)))
          go_wp2
          go_roundg (d.size - (i + 1 + 1))
          case measure => omega
          case rel =>
            refine ⟨i + 1 + 1, q + nq, by omega, by omega, by omega, by first | rfl | (congr 1; unfold wrap64; omega), ⟨by rw [HWR.out, World.drewN_drewN]⟩, ⟨fun j hj => ?_⟩⟩
            by_cases e : j = i + 1
            · subst e; exact HKV.out
            · exact HALL.out j (by omega)
        | true =>
          rw [hxy] at hkv
          have HKV : Aside0 (kp (i + 1) = false) := ⟨by rw [← hkN]; exact hkv⟩
          have HKN := Aside0.mk hkN
          rw [hxy] at HQ
          clear hkv hxy hkN
          go_wp2
          go_quiet (first | (go_at_fn 88; with_reducible exact Calls.quiet_of (HQ.out _)))
          go_wp2
          go_loopg [5, 7] d.size (fun g s5 s7 wr2 => ∃ (kk k2 q2 : Nat) (dk : Array α), s5 = .int .i64 (kk : Int) ∧ s7 = .int .i64 (k2 : Int) ∧ 1 ≤ k2 ∧ kN + k2 ≤ d.size ∧ d.size - (kN + k2) ≤ g ∧ Aside0 (wr2 = Go.Sort.putRow enc (Go.Sort.ahead w q2) blk 0 dk) ∧ Aside0 (CpI d kp (kN + k2) kk dk))
          case atStart =>
            have e := HKN.out
            exact ⟨i + 1, 1, q + nq, d, rfl, rfl, Nat.le_refl _, by omega, by omega, ⟨by rw [Go.Sort.putRow_self enc (Go.Sort.ahead w (q + nq)) blk 0 d (fun j hj => HH.out j hj), HWR.out, World.drewN_drewN]; rfl⟩, ⟨by rw [e]; exact CpI.start HALL.out HKV.out⟩⟩
          case round =>
            clear c1 c0 HQ ea pa ba ra bc rc b4
            obtain ⟨kk, k2, q2, dk, rfl, rfl, h1k, hle, hg2, HW2, HI⟩ := hrel
            have hkk := HI.out.lt
            have hds := HI.out.size
            have hHk : Go.Sort.Holds enc wr blk 0 dk := by rw [HW2.out]; exact Go.Sort.holds_putRow enc _ blk 0 d dk (Go.Sort.holds_ahead enc w q2 blk 0 d HH.out) hds
            have HHK := Aside0.mk hHk
            clear hHk
            by_cases hlt2 : kN + k2 < d.size
            · obtain ⟨j, rfl⟩ : ∃ j, k2 = j + 1 := ⟨k2 - 1, by omega⟩
              obtain ⟨mN, hmN⟩ : ∃ z, z = j + 1 := ⟨_, rfl⟩
              have b4 : decide ((j : Int) + 1 < ((d.size - kN : Nat) : Int)) = true := decide_eq_true (by omega)
              have ea : ((j : Int) + 1).toNat = mN := by omega
              have pa : (0 : Int) ≤ (j : Int) + 1 := by omega
              have ba : (j : Int) + 1 < ((d.size - kN : Nat) : Int) := by omega
              have ra : IntKind.i64.wrap ((j : Int) + 1) = (j : Int) + 1 := by rw [IntKind.wrap_i64]; omega
              have bc : (j : Int) < ((d.size - kN : Nat) : Int) := by omega
              have rc : IntKind.i64.wrap (j : Int) = (j : Int) := by rw [IntKind.wrap_i64]; omega
              have bk : (kk : Int) < (d.size : Int) := by omega
              have rk : IntKind.i64.wrap ((kk : Int) + 1) = (kk : Int) + 1 := by rw [IntKind.wrap_i64]; omega
              have r2 : IntKind.i64.wrap ((j : Int) + 1 + 1) = (j : Int) + 1 + 1 := by rw [IntKind.wrap_i64]; omega
              have c1 := (HHK.out (kN + mN) (by omega)).1
              have c0 := (HHK.out (kN + j) (by omega)).1
              have ck := (HHK.out kk (by omega)).1
              have fk := (HHK.out kk (by omega)).2
              rw [Nat.zero_add] at c1 c0 ck fk
              rw [HI.out.high (kN + mN) (by omega)] at c1
              rw [HI.out.high (kN + j) (by omega)] at c0
              have hkv : kp (kN + mN) = !eqf d[kN + mN]! d[kN + j]! := by rw [HKP.out, show kN + mN - 1 = kN + j by omega]; simp; omega
              have hq := fun n => HEQ.out (q2 + n) dk hds d[kN + mN]! d[kN + j]!
              have hw : ∀ n, Go.Sort.putRow enc (Go.Sort.ahead w (q2 + n)) blk 0 dk = wr.drewN n := fun n => by rw [HW2.out, putRow_drewN]
              simp only [hw] at hq
              have HQ := Aside0.mk hq
              have HMN := Aside0.mk hmN
              have HX : Aside0 (∃ x, x = d[kN + mN]!) := ⟨_, rfl⟩
              obtain ⟨x, hx⟩ := HX.out
              rw [← hx] at c1 hkv HQ
              have HX2 := Aside0.mk hx
              obtain ⟨Ax, nx, cx, hex⟩ := h1 x
              rw [hex] at c1 HQ
              have HEX := Aside0.mk hex
              generalize d[kN + j]! = y at c0 hkv HQ
              generalize dk[kk]! = z at ck
              have HKK := Aside0.mk hkk
              clear hq hw hx hmN HX hkk hex
              cases hxy : eqf x y with
              | false =>
                rw [hxy] at hkv HQ
                have HKV2 : Aside0 (kp (kN + mN) = true) := ⟨hkv⟩
                clear hkv hxy
                go_wp2
                go_quiet (first | (go_at_fn 88; with_reducible exact Calls.quiet_of (HQ.out _)))
                go_wp2
                go_roundg (d.size - (kN + (j + 1 + 1)))
                case measure => omega
                case rel => exact ⟨kk + 1, j + 1 + 1, q2 + nq, dk.setIfInBounds kk x, by first | rfl | (congr 1; omega), by first | rfl | (congr 1; omega), by omega, by omega, by omega, ⟨by rw [← Go.Sort.putRow_set enc _ blk 0 dk kk x (by omega), Nat.zero_add, HEX.out, ← putRow_drewN, HW2.out]⟩, ⟨by
                  have e := HMN.out
                  have k2 := HKV2.out
                  have x2 := HX2.out
                  subst e
                  rw [x2]
                  exact HI.out.keep hlt2 k2⟩⟩
              | true =>
                rw [hxy] at hkv HQ
                have HKV2 : Aside0 (kp (kN + mN) = false) := ⟨hkv⟩
                clear hkv hxy
                go_wp2
                go_quiet (first | (go_at_fn 88; with_reducible exact Calls.quiet_of (HQ.out _)))
                go_wp2
                go_roundg (d.size - (kN + (j + 1 + 1)))
                case measure => omega
                case rel => exact ⟨kk, j + 1 + 1, q2 + nq, dk, rfl, by first | rfl | (congr 1; omega), by omega, by omega, by omega, ⟨by rw [HW2.out, putRow_drewN]⟩, ⟨by
                  have e := HMN.out
                  exact HI.out.skip (by rw [← e]; exact HKV2.out)⟩⟩
            · have hend : kN + k2 = d.size := by omega
              have b4 : decide ((k2 : Int) < ((d.size - kN : Nat) : Int)) = false := decide_eq_false (by omega)
              have bk : (kk : Int) ≤ (d.size : Int) := by omega
              have bk2 : (kk : Int) ≤ (cap : Int) := by omega
              have hcl : ∀ ty, (Builtin.clear_ #[114] ty #[.slice (some ⟨blk, kk, none⟩) (d.size - kk) (cap - kk)]).run Tryd.prog wr = .ok (.tuple #[]) (wr.setCells blk kk (List.replicate (d.size - kk) (.slice none 0 0))) :=
                fun ty => Lib.run_clear_slice wr _ _ ty _ Tryd.underlying114 (fun _ => by kernel_rfl) rfl rfl blk kk _ _ (by omega) (fun j hj => by rw [show kk + j = 0 + (kk + j) by omega, (HHK.out (kk + j) (by omega)).1]; rfl) (fun j hj => by rw [show kk + j = 0 + (kk + j) by omega]; exact (HHK.out (kk + j) (by omega)).2)
              have HEND := Aside0.mk hend
              clear hend
              go_wp2
              go_ret
              have hI := HI.out
              rw [HEND.out] at hI
              refine ⟨by rw [hI.len]; rfl, setCells_grown _ _ _ (by rw [HW2.out]; exact putRow_grown enc w blk 0 q2 dk), fun j v hj => ?_⟩
              have hjk : j < kk := by rw [← hI.len]; exact (List.getElem?_eq_some_iff.1 hj).1
              rw [World.cell?_setCells_out blk _ _ _ ⟨blk, j, none⟩ (fun _ _ => .inl hjk)]
              have := (HHK.out j (by omega)).1
              rw [Nat.zero_add] at this
              rw [this]
              have h3 := hI.low j hjk
              rw [hj] at h3
              rw [Option.some.inj h3]
      · have hkd : k = d.size := by omega
        subst hkd
        have b4 : decide ((d.size : Int) < (d.size : Int)) = false := decide_eq_false (by omega)
        go_wp2
        go_ret
        obtain ⟨e1, e2, e3⟩ := HS.out q HALL.out
        rw [← HWR.out] at e2 e3
        exact ⟨by rw [e1]; rfl, e2, e3⟩
/-! the row of words is one -/
def ltW (ls : List S118) (x y : List Int) : Prop := cmpL (cmpR ls) x y < 0
theorem ltW_iff (ls : List S118) (x y : List Int) : ltW ls x y ↔ rkL ls x < rkL ls y := cmpL_lt ls x y
def rankedW (ls : List S118) (x : List Int) : Prop := ∀ r ∈ x, (rankOf ls r).isSome = true
theorem rank_inj {ls : List S118} {r s : Int} (hr : (rankOf ls r).isSome = true) (hs : (rankOf ls s).isSome = true) (h : (rankOf ls r).getD 0 = (rankOf ls s).getD 0) : r = s := by
  obtain ⟨i, hi⟩ := Option.isSome_iff_exists.1 hr
  obtain ⟨j, hj⟩ := Option.isSome_iff_exists.1 hs
  rw [hi, hj] at h
  simp only [Option.getD_some] at h
  subst h
  unfold rankOf at hi hj
  rw [List.findIdx?_eq_some_iff_getElem] at hi hj
  obtain ⟨h1, h2, _⟩ := hi
  obtain ⟨h3, h4, _⟩ := hj
  have a := of_decide_eq_true h2
  have b := of_decide_eq_true h4
  exact a.symm.trans b
theorem rkL_inj (ls : List S118) : ∀ x y : List Int, rankedW ls x → rankedW ls y → rkL ls x = rkL ls y → x = y
  | [], [], _, _, _ => rfl
  | [], y :: ys, _, _, h => by simp [rkL] at h
  | x :: xs, [], _, _, h => by simp [rkL] at h
  | x :: xs, y :: ys, hx, hy, h => by
    have hr : ∀ x xs, rkL ls (x :: xs) = (rankOf ls x).getD 0 :: rkL ls xs := fun _ _ => rfl
    rw [hr, hr, List.cons.injEq] at h
    rw [rank_inj (hx x (List.mem_cons_self ..)) (hy y (List.mem_cons_self ..)) h.1, rkL_inj ls xs ys (fun r hr => hx r (List.mem_cons_of_mem _ hr)) (fun r hr => hy r (List.mem_cons_of_mem _ hr)) h.2]
theorem ltW_tri {ls : List S118} {x y : List Int} (hx : rankedW ls x) (hy : rankedW ls y) (h1 : ¬ ltW ls x y) (h2 : x ≠ y) : ltW ls y x := by
  rw [ltW_iff] at *
  rcases List.le_total (rkL ls x) (rkL ls y) with h | h
  · rcases Classical.em (rkL ls x < rkL ls y) with q | q
    · exact absurd q h1
    · exact absurd (rkL_inj ls x y hx hy (List.le_antisymm h (List.not_lt.1 q))) h2
  · rcases Classical.em (rkL ls y < rkL ls x) with q | q
    · exact q
    · exact absurd (rkL_inj ls x y hx hy (List.le_antisymm (List.not_lt.1 q) h)) h2
theorem ltW_irr (ls : List S118) (x : List Int) : ¬ ltW ls x x := by rw [ltW_iff]; exact List.lt_irrefl _
theorem ltW_trans {ls : List S118} {x y z : List Int} (h1 : ltW ls x y) (h2 : ltW ls y z) : ltW ls x z := by
  rw [ltW_iff] at *; exact List.lt_trans h1 h2
theorem strict_unique (ls : List S118) : ∀ a b : List (List Int), a.Pairwise (ltW ls) → b.Pairwise (ltW ls) → (∀ x, x ∈ a ↔ x ∈ b) → a = b
  | [], [], _, _, _ => rfl
  | [], y :: ys, _, _, h => absurd ((h y).2 (List.mem_cons_self ..)) (by simp)
  | x :: xs, [], _, _, h => absurd ((h x).1 (List.mem_cons_self ..)) (by simp)
  | x :: xs, y :: ys, ha, hb, h => by
    obtain ⟨a1, a2⟩ := List.pairwise_cons.1 ha
    obtain ⟨b1, b2⟩ := List.pairwise_cons.1 hb
    have e : x = y := by
      rcases List.mem_cons.1 ((h x).1 (List.mem_cons_self ..)) with q | q
      · exact q
      · rcases List.mem_cons.1 ((h y).2 (List.mem_cons_self ..)) with q2 | q2
        · exact q2.symm
        · exact absurd (ltW_trans (a1 y q2) (b1 x q)) (ltW_irr ls x)
    subst e
    congr 1
    refine strict_unique ls xs ys a2 b2 (fun z => ⟨fun hz => ?_, fun hz => ?_⟩)
    · rcases List.mem_cons.1 ((h z).1 (List.mem_cons_of_mem _ hz)) with q | q
      · subst q; exact absurd (a1 z hz) (ltW_irr ls z)
      · exact q
    · rcases List.mem_cons.1 ((h z).2 (List.mem_cons_of_mem _ hz)) with q | q
      · subst q; exact absurd (b1 z hz) (ltW_irr ls z)
      · exact q
theorem insU_cons (ls : List S118) (x y : List Int) (ys : List (List Int)) : insU ls x (y :: ys) = if cmpL (cmpR ls) x y < 0 then x :: y :: ys else if x = y then y :: ys else y :: insU ls x ys := rfl
theorem insU_mem (ls : List S118) (x : List Int) : ∀ l z, z ∈ insU ls x l ↔ z = x ∨ z ∈ l
  | [], z => by simp [insU]
  | y :: ys, z => by
    rw [insU_cons]
    split
    · simp
    · split
      · rename_i e; subst e; simp
      · rw [List.mem_cons, insU_mem ls x ys z, List.mem_cons]
        constructor
        · rintro (h | h | h)
          · exact .inr (.inl h)
          · exact .inl h
          · exact .inr (.inr h)
        · rintro (h | h | h)
          · exact .inr (.inl h)
          · exact .inl h
          · exact .inr (.inr h)
theorem insU_sorted (ls : List S118) (x : List Int) (hx : rankedW ls x) : ∀ l, (∀ y ∈ l, rankedW ls y) → l.Pairwise (ltW ls) → (insU ls x l).Pairwise (ltW ls)
  | [], _, _ => by simp [insU]
  | y :: ys, hr, h => by
    obtain ⟨h1, h2⟩ := List.pairwise_cons.1 h
    rw [insU_cons]
    split
    · rename_i q
      exact List.pairwise_cons.2 ⟨fun z hz => by
        rcases List.mem_cons.1 hz with e | hz
        · subst e; exact q
        · exact ltW_trans q (h1 z hz), h⟩
    · rename_i q
      split
      · exact h
      · rename_i ne
        refine List.pairwise_cons.2 ⟨fun z hz => ?_, insU_sorted ls x hx ys (fun y hy => hr y (List.mem_cons_of_mem _ hy)) h2⟩
        rcases (insU_mem ls x ys z).1 hz with e | hz
        · subst e; exact ltW_tri hx (hr y (List.mem_cons_self ..)) q ne
        · exact h1 z hz
theorem sortU_ok (ls : List S118) : ∀ ws : List (List Int), (∀ x ∈ ws, rankedW ls x) → (ws.foldr (insU ls) []).Pairwise (ltW ls) ∧ ∀ z, z ∈ ws.foldr (insU ls) [] ↔ z ∈ ws
  | [], _ => by simp
  | w :: ws, h => by
    obtain ⟨h1, h2⟩ := sortU_ok ls ws (fun x hx => h x (List.mem_cons_of_mem _ hx))
    rw [List.foldr_cons]
    exact ⟨insU_sorted ls w (h w (List.mem_cons_self ..)) _ (fun y hy => h y (List.mem_cons_of_mem _ ((h2 y).1 hy))) h1, fun z => by rw [insU_mem, h2, List.mem_cons]⟩
theorem sort_unique (ls : List S118) (rs : List (Value × List Int)) (ws : List (List Int)) (hp : (rs.map (·.2)).Perm ws) (hs : (rs.map (·.2)).Pairwise (fun x y => ¬ cmpL (cmpR ls) y x < 0)) (hr : ∀ x ∈ ws, rankedW ls x) (kp : Nat → Bool)
    (hkp : ∀ j, j < rs.length → kp j = (decide (j = 0) || !decide (wd rs j = wd rs (j - 1)))) : ((List.range rs.length).filter kp).map (wd rs) = ws.foldr (insU ls) [] := by
  obtain ⟨u1, u2⟩ := sortU_ok ls ws hr
  have hle : ∀ i j, i < j → j < rs.length → ¬ ltW ls (wd rs j) (wd rs i) := fun i j hij hj => by
    have := List.pairwise_iff_getElem.1 hs i j (by simp; omega) (by simpa using hj) hij
    rw [wd_get hj, wd_get (show i < rs.length by omega)]
    simpa [ltW] using this
  have hmem : ∀ i, i < rs.length → wd rs i ∈ ws := fun i hi => hp.mem_iff.1 (by rw [wd_get hi]; exact List.mem_map_of_mem (List.getElem_mem hi))
  have hin : ∀ i, i < rs.length → wd rs i ∈ ((List.range rs.length).filter kp).map (wd rs) := by
    intro i
    induction i with
    | zero => intro hi; exact List.mem_map_of_mem (List.mem_filter.2 ⟨List.mem_range.2 hi, by rw [hkp 0 hi]; rfl⟩)
    | succ i ih =>
      intro hi
      by_cases e : wd rs (i + 1) = wd rs i
      · rw [e]; exact ih (by omega)
      · exact List.mem_map_of_mem (List.mem_filter.2 ⟨List.mem_range.2 hi, by rw [hkp _ hi]; simp [e]⟩)
  refine strict_unique ls _ _ ?_ u1 (fun z => ?_)
  · rw [List.pairwise_map]
    refine ((List.pairwise_lt_range (n := rs.length)).filter kp).imp_of_mem ?_
    intro i j hi hj hij
    obtain ⟨hj1, hj2⟩ := List.mem_filter.1 hj
    have hjl := List.mem_range.1 hj1
    rw [hkp j hjl] at hj2
    have hne : wd rs j ≠ wd rs (j - 1) := by
      simp only [Bool.or_eq_true, decide_eq_true_eq, Bool.not_eq_true', decide_eq_false_iff_not] at hj2
      rcases hj2 with h | h
      · omega
      · exact h
    have l1 : ltW ls (wd rs (j - 1)) (wd rs j) := ltW_tri (hr _ (hmem j hjl)) (hr _ (hmem (j - 1) (by omega))) (hle (j - 1) j (by omega) hjl) hne
    rcases Nat.lt_or_ge i (j - 1) with q | q
    · have l2 := hle i (j - 1) q (by omega)
      rw [ltW_iff] at *
      exact List.lt_of_le_of_lt (List.not_lt.1 l2) l1
    · rw [show i = j - 1 by omega]; exact l1
  · rw [u2]
    constructor
    · intro hz
      obtain ⟨i, hi, rfl⟩ := List.mem_map.1 hz
      exact hmem i (List.mem_range.1 (List.mem_filter.1 hi).1)
    · intro hz
      obtain ⟨p, hp1, rfl⟩ := List.mem_map.1 (hp.mem_iff.2 hz)
      obtain ⟨i, hi, rfl⟩ := List.mem_iff_getElem.1 hp1
      have := hin i hi
      rwa [wd_get hi] at this
theorem readP_ranked (ls : List S118) : ∀ (ps : List S97) (out : List Int), (readP ls ps out).2 = 0 → rankedW ls out → rankedW ls (readP ls ps out).1
  | [], out, _, h => h
  | p :: ps, out, h0, h => by
    unfold readP at h0 ⊢
    split at h0
    · exact absurd h0 (by decide)
    · rename_i q1
      split at h0
      · exact absurd h0 (by decide)
      · rename_i q2
        split at h0
        · exact absurd h0 (by decide)
        · rename_i q3
          rw [if_neg q1, if_neg q2, if_neg q3]
          refine readP_ranked ls ps _ h0 (fun r hr => ?_)
          rcases List.mem_append.1 hr with hr | hr
          · exact h r hr
          · rw [List.mem_singleton.1 hr]; cases hh : (rankOf ls p.f0).isSome with
            | true => rfl
            | false => exact absurd hh q2
theorem allE_ranked (ls : List S118) : ∀ l : List ByteArray, allE ls l = 0 → ∀ x ∈ l.map (lettersOf ls), rankedW ls x
  | [], _ => by simp
  | s :: l, h => by
    have hc : allE ls (s :: l) = if (readP ls (pieces (cut65 s)) []).2 ≠ 0 then (readP ls (pieces (cut65 s)) []).2 else allE ls l := rfl
    rw [hc] at h
    by_cases q : (readP ls (pieces (cut65 s)) []).2 = 0
    · rw [if_neg (by simpa using q)] at h
      intro x hx
      rw [List.map_cons] at hx
      rcases List.mem_cons.1 hx with e | hx
      · rw [e]; exact readP_ranked ls _ [] q (by intro r hr; cases hr)
      · exact allE_ranked ls l h x hx
    · rw [if_pos q] at h; exact absurd h q
set_option maxHeartbeats 4000000 in
set_option maxRecDepth 100000 in
def kpW (rs : List (Value × List Int)) (j : Nat) : Bool := decide (j = 0) || !decide (wd rs j = wd rs (j - 1))
theorem cpU_range (n : Nat) (kp : Nat → Bool) : cpU (List.range n).toArray kp n = (List.range n).filter kp := by
  unfold cpU
  have : ((List.range n).filter kp).map (fun x => (List.range n).toArray[x]!) = ((List.range n).filter kp).map id := List.map_congr_left (fun i hi => range_get n i (List.mem_range.1 (List.mem_filter.1 hi).1))
  rw [this, List.map_id]
theorem word_compact (b cap : Nat) (rs : List (Value × List Int)) (w : World) (hbk : w.heap[b]? = some (.cells (rs.map (·.1)).toArray 39 (0, 0))) (hw : Words w b rs) (hl : ∀ p ∈ rs, p.2.length ≤ 64) (hlen : rs.length ≤ 4096) (hcap : rs.length ≤ cap) :
    Calls Tryd.prog 87 #[.slice (some ⟨b, 0, none⟩) rs.length cap, .func (.func 88) #[] #[]] w fun e w' =>
      e = .returned (.slice (some ⟨b, 0, none⟩) ((List.range rs.length).filter (kpW rs)).length cap) ∧ w.grownBy w' (some b) ∧ ∀ j i, ((List.range rs.length).filter (kpW rs))[j]? = some i → w'.cell? ⟨b, j, none⟩ = some (wv rs i) := by
  have hd : (List.range rs.length).toArray.size = rs.length := by simp
  have h := slices_CompactR (wv rs) (fun x => by obtain ⟨A, c, e, _⟩ := wv_is hw x; exact ⟨_, _, _, e⟩) (fun i j => decide (wd rs i = wd rs j)) b cap (List.range rs.length).toArray w
    (fun j hj => by
      rw [hd] at hj
      refine ⟨?_, by rw [Nat.zero_add]; exact blk_frozen hbk j⟩
      rw [range_get _ _ hj, Nat.zero_add, blk_cell hbk j, wv_get hj]
      simp [hj]) (blk_lt hbk) (by rw [hd]; omega) (by rw [hd]; exact hcap)
    (fun q dk hs x y => by
      have hg := putRow_grown (wv rs) w b 0 q dk
      obtain ⟨A1, c1, e1, _, f1⟩ := wv_is hw x
      obtain ⟨A2, c2, e2, _, f2⟩ := wv_is hw y
      rw [e1, e2]
      have w1 := wd_mem (P := fun l => l.length ≤ 64) hl (by simp) x
      exact word_Sort2 A1 A2 c1 c2 (wd rs x) (wd rs y) _ (Kd.F_now (Kd.F_grown f1 hg (fun k hk e => hk (Option.some.inj e)))) (Kd.F_now (Kd.F_grown f2 hg (fun k hk e => hk (Option.some.inj e)))) (by omega))
    (fun j => if j < rs.length then kpW rs j else (decide (j = 0) || !decide (wd rs ((List.range rs.length).toArray[j]!) = wd rs ((List.range rs.length).toArray[j - 1]!))))
    (fun j => by
      by_cases hj : j < rs.length
      · rw [if_pos hj, range_get _ _ hj]
        rcases Nat.eq_zero_or_pos j with h0 | h0
        · subst h0; rfl
        · rw [range_get _ _ (show j - 1 < rs.length by omega)]; rfl
      · rw [if_neg hj])
  rw [hd, cpU_range] at h
  have e : (List.range rs.length).filter (fun j => if j < rs.length then kpW rs j else (decide (j = 0) || !decide (wd rs ((List.range rs.length).toArray[j]!) = wd rs ((List.range rs.length).toArray[j - 1]!)))) = (List.range rs.length).filter (kpW rs) :=
    List.filter_congr (fun j hj => by rw [if_pos (List.mem_range.1 hj)])
  rw [e] at h
  exact h
def strCells (ss : List ByteArray) (n : Nat) : List Value := ss.map Value.string ++ List.replicate (n - ss.length) (.string ⟨#[]⟩)
theorem strCells_set (ss : List ByteArray) (n : Nat) (s : ByteArray) (h : ss.length < n) : ((strCells ss n).toArray.setIfInBounds ss.length (.string s)) = (strCells (ss ++ [s]) n).toArray := by
  unfold strCells
  obtain ⟨d, hd⟩ : ∃ d, n - ss.length = d + 1 := ⟨n - ss.length - 1, by omega⟩
  rw [hd, show n - (ss ++ [s]).length = d by simp; omega]
  apply Array.ext'
  simp [List.replicate_succ, List.set_append]

end Go.Proofs.YtfpfdmenhgageaaDoor.S
