-- Written by this session's program (wip/ext) with the kit's printer. Not trusted: Lean checks it.
import Derived.Test.YtfpfdmenhgageaaDoorCx0
import Derived.Test.YtfpfdmenhgageaaDoorCx2
import Derived.Test.YtfpfdmenhgageaaDoorCx3
namespace Go.Proofs.YtfpfdmenhgageaaDoor.C
open Go.RowKit Go.Proofs.YtfpfdmenhgageaaDoorW.PrintWords Go.Proofs.YtfpfdmenhgageaaDoorW.PrintLast Go.Proofs.YtfpfdmenhgageaaDoorW.PrintMore
attribute [local go_sem] max2_int min2_int max_two min_two max_three min_three max_four min_four   -- for this text's walks alone
set_option linter.unusedVariables false
set_option linter.unusedSimpArgs false

def plc (s : ByteArray) (i : Int) : Int := if i = ((pieces s).length : Int) then (s.size : Int) else (rd_T97 (pieces s) i).f1
theorem pcs_rise (s : ByteArray) : ∀ f i, (pcs s f i).Pairwise (fun p q => p.f1 < q.f1) ∧ ∀ p ∈ pcs s f i, (i : Int) ≤ p.f1 ∧ p.f1 < s.size
  | 0, i => by simp [pcs]
  | f + 1, i => by
    unfold pcs
    split
    · rename_i hi
      have hw := Lib.decode_width_pos s i hi
      obtain ⟨h1, h2⟩ := pcs_rise s f (i + (Utf8.decode s i).2)
      refine ⟨List.pairwise_cons.2 ⟨fun q hq => ?_, h1⟩, fun p hp => ?_⟩
      · have := (h2 q hq).1
        simp only [pcAt]
        omega
      · rcases List.mem_cons.1 hp with rfl | hp
        · simp only [pcAt]; omega
        · have := h2 p hp; omega
    · simp
theorem rd_pc (l : List S97) (i : Int) (h0 : 0 ≤ i) (h : i.toNat < l.length) : rd_T97 l i = l[i.toNat] := by
  simp [rd_T97, List.getD_eq_getElem?_getD, List.getElem?_eq_getElem h]
theorem plc_ok (s : ByteArray) (i j : Int) (h0 : 0 ≤ i) (h1 : i ≤ j) (h2 : j ≤ (pieces s).length) : 0 ≤ plc s i ∧ plc s i ≤ plc s j ∧ plc s j ≤ s.size := by
  obtain ⟨p1, p2⟩ := pcs_rise s s.size 0
  have mem : ∀ k : Int, 0 ≤ k → k < (pieces s).length → 0 ≤ (rd_T97 (pieces s) k).f1 ∧ (rd_T97 (pieces s) k).f1 < s.size := fun k hk0 hk => by
    rw [rd_pc _ k hk0 (by omega)]
    have := p2 _ (List.getElem_mem (l := pieces s) (n := k.toNat) (by omega))
    omega
  unfold plc
  by_cases ej : j = (pieces s).length
  · rw [if_pos ej]
    by_cases ei : i = (pieces s).length
    · rw [if_pos ei]; omega
    · rw [if_neg ei]
      have := mem i h0 (by omega)
      omega
  · rw [if_neg ej, if_neg (by omega)]
    have hi := mem i h0 (by omega)
    have hj := mem j (by omega) (by omega)
    refine ⟨hi.1, ?_, by omega⟩
    by_cases e : i = j
    · subst e; exact Int.le_refl _
    · rw [rd_pc _ i h0 (by omega), rd_pc _ j (by omega) (by omega)]
      have := List.pairwise_iff_getElem.1 p1 i.toNat j.toNat (show i.toNat < (pieces s).length by omega) (show j.toNat < (pieces s).length by omega) (by omega)
      exact Int.le_of_lt this
set_option maxHeartbeats 4000000 in
set_option maxRecDepth 100000 in
theorem runes_Part.place (s : ByteArray) (cl cs : Nat) (A : Option Addr) (c : Nat) (i : Int) (W : World) (h1 : W.cell? ⟨cl, 0, none⟩ = some (.slice A (pieces s).length c)) (h2 : W.cell? ⟨cs, 0, none⟩ = some (.string s))
    (hC : Kd.C k97 W A (pieces s).length (pieces s)) (h0 : 0 ≤ i) (hi : i ≤ (pieces s).length) (hsz : s.size ≤ 65536) :
    Calls Tryd.prog 133 #[.int .i64 i, .pointer (some ⟨cl, 0, none⟩), .pointer (some ⟨cs, 0, none⟩)] W fun e W' => e = .returned (.int .i64 (plc s i)) ∧ W' = W := by
  have HC := Aside0.mk hC
  have hpl : plc s i = if i = ((pieces s).length : Int) then (s.size : Int) else (rd_T97 (pieces s) i).f1 := rfl
  have HPL := Aside0.mk hpl
  clear hC hpl
  by_cases e : i = ((pieces s).length : Int)
  · have b1 : decide (i = ((pieces s).length : Int)) = true := decide_eq_true e
    have HE : Aside0 (plc s i = (s.size : Int)) := ⟨by rw [HPL.out, if_pos e]⟩
    clear HPL HC hi
    generalize (pieces s).length = n at *
    go_enter Tryd.func133, Tryd.ntmps133
    go_wp2
    go_ret
    exact ⟨by rw [HE.out]; rfl, rfl⟩
  · have b1 : decide (i = ((pieces s).length : Int)) = false := decide_eq_false e
    have HE : Aside0 (plc s i = (rd_T97 (pieces s) i).f1) := ⟨by rw [HPL.out, if_neg e]⟩
    obtain ⟨ad, e0, hx0, hx1, hx2, hx3⟩ := at_T97 HC.out i h0 (by omega)
    obtain rfl := e0
    have hlt : i < ((pieces s).length : Int) := by omega
    clear HPL HC
    generalize rd_T97 (pieces s) i = f at hx0 hx1 hx2 hx3 HE
    generalize (pieces s).length = n at *
    go_enter Tryd.func133, Tryd.ntmps133
    go_wp2
    go_ret
    exact ⟨by rw [HE.out]; rfl, rfl⟩

/-! ### runes_Part: function 108 (by hand) -/
def partS (s : ByteArray) (lo hi : Int) : ByteArray := s.extract (plc s lo).toNat (plc s hi).toNat
def runes_Part.f (a0 : ByteArray) (a1 : Int) (a2 : Int) : Option (ByteArray × Int) := if a0.size > 65536 then some (⟨#[]⟩, 3) else if a1 < 0 ∨ a2 < a1 ∨ ((pieces a0).length : Int) < a2 then some (⟨#[]⟩, 10) else some (partS a0 a1 a2, 0)
set_option maxHeartbeats 4000000 in
set_option maxRecDepth 100000 in
theorem runes_Part.calls (a0 : ByteArray) (a1 : Int) (a2 : Int) (r1 : ByteArray) (r2 : Int) (w : World) (hG : GLaid w) (h : runes_Part.f a0 a1 a2 = some (r1, r2)) :
    Calls Tryd.prog 108 #[.string a0, .int .i64 a1, .int .i64 a2] w fun e w' => e = .returned (.tuple #[.string r1, .int .i64 r2]) ∧ Below w.heap.size w w' := by
  unfold runes_Part.f at h
  have HG := Aside0.mk hG
  clear hG
  by_cases hs : a0.size > 65536
  · rw [if_pos hs] at h
    obtain ⟨rfl, rfl⟩ := Prod.mk.inj (Option.some.inj h)
    have HPC : Aside0 (runes_Pieces.f a0 = some ([], 3)) := ⟨by unfold runes_Pieces.f; rw [if_pos hs]⟩
    clear h hs
    go_enter Tryd.func108, Tryd.ntmps108
    go_wp2_with (first | ((with_reducible refine gate_dst (N := 3) rfl ?_); refine box_event ?hg (N := 3) ?hd (cs := #[.string a0]) (t := 9) ?hr ?_; (case hd => rfl); (case hg => rfl); (case hr => first | (go_simp; done) | (go_simp; rfl)); intro gb hg w3 hbox hb; have HB := Aside0.mk hb; clear hb; have hcz0 : w3.cell? ⟨gb, 0, none⟩ = some (.string a0) := (blk_cell hbox 0).trans rfl; clear hbox hg) | (go_at_call 101; refine (runes_Pieces.calls a0 [] 3 _ (GLaid.below_ HG.out HB.out) HPC.out).mono ?_; rintro e w4 ⟨v4, rfl, hR4, hB4⟩; obtain ⟨A4, c4, rfl, hc4, hc5⟩ := Kd.R_reads hR4; have HB4 := Aside0.mk (below_step HB.out hB4); clear hR4 hB4))
    go_ret2
    exact ⟨rfl, below_alloc HB4.out _⟩
  · rw [if_neg hs] at h
    have HPC : Aside0 (runes_Pieces.f a0 = some (pieces a0, 0)) := ⟨by unfold runes_Pieces.f; rw [if_neg hs]⟩
    have HS : Aside0 (a0.size ≤ 65536) := ⟨by omega⟩
    have HPS : Aside0 (partS a0 a1 a2 = a0.extract (plc a0 a1).toNat (plc a0 a2).toNat) := ⟨rfl⟩
    have HPK := Aside0.mk (plc_ok a0 a1 a2)
    clear hs
    by_cases q1 : a1 < 0
    · have b1 : decide (a1 < 0) = true := decide_eq_true q1
      rw [if_pos (.inl q1)] at h
      obtain ⟨rfl, rfl⟩ := Prod.mk.inj (Option.some.inj h)
      clear h
      go_enter Tryd.func108, Tryd.ntmps108
      go_wp2_with (first | ((with_reducible refine gate_dst (N := 3) rfl ?_); refine box_event ?hg (N := 3) ?hd (cs := #[.string a0]) (t := 9) ?hr ?_; (case hd => rfl); (case hg => rfl); (case hr => first | (go_simp; done) | (go_simp; rfl)); intro gb hg w3 hbox hb; have HB := Aside0.mk hb; clear hb; have hcz0 : w3.cell? ⟨gb, 0, none⟩ = some (.string a0) := (blk_cell hbox 0).trans rfl; clear hbox hg) | (go_at_call 101; refine (runes_Pieces.calls a0 (pieces a0) 0 _ (GLaid.below_ HG.out HB.out) HPC.out).mono ?_; rintro e w4 ⟨v4, rfl, hR4, hB4⟩; obtain ⟨A4, c4, rfl, hc4, hc5⟩ := Kd.R_reads hR4; have HB4 := Aside0.mk (below_step HB.out hB4); clear hR4 hB4))
      go_ret2
      exact ⟨rfl, below_alloc HB4.out _⟩
    · have b1 : decide (a1 < 0) = false := decide_eq_false q1
      by_cases q2 : a2 < a1
      · have b2 : decide (a2 < a1) = true := decide_eq_true q2
        rw [if_pos (.inr (.inl q2))] at h
        obtain ⟨rfl, rfl⟩ := Prod.mk.inj (Option.some.inj h)
        clear h
        go_enter Tryd.func108, Tryd.ntmps108
        go_wp2_with (first | ((with_reducible refine gate_dst (N := 3) rfl ?_); refine box_event ?hg (N := 3) ?hd (cs := #[.string a0]) (t := 9) ?hr ?_; (case hd => rfl); (case hg => rfl); (case hr => first | (go_simp; done) | (go_simp; rfl)); intro gb hg w3 hbox hb; have HB := Aside0.mk hb; clear hb; have hcz0 : w3.cell? ⟨gb, 0, none⟩ = some (.string a0) := (blk_cell hbox 0).trans rfl; clear hbox hg) | (go_at_call 101; refine (runes_Pieces.calls a0 (pieces a0) 0 _ (GLaid.below_ HG.out HB.out) HPC.out).mono ?_; rintro e w4 ⟨v4, rfl, hR4, hB4⟩; obtain ⟨A4, c4, rfl, hc4, hc5⟩ := Kd.R_reads hR4; have HB4 := Aside0.mk (below_step HB.out hB4); clear hR4 hB4))
        go_ret2
        exact ⟨rfl, below_alloc HB4.out _⟩
      · have b2 : decide (a2 < a1) = false := decide_eq_false q2
        by_cases q3 : ((pieces a0).length : Int) < a2
        · have b3 : decide (((pieces a0).length : Int) < a2) = true := decide_eq_true q3
          rw [if_pos (.inr (.inr q3))] at h
          obtain ⟨rfl, rfl⟩ := Prod.mk.inj (Option.some.inj h)
          clear h
          go_enter Tryd.func108, Tryd.ntmps108
          go_wp2_with (first | ((with_reducible refine gate_dst (N := 3) rfl ?_); refine box_event ?hg (N := 3) ?hd (cs := #[.string a0]) (t := 9) ?hr ?_; (case hd => rfl); (case hg => rfl); (case hr => first | (go_simp; done) | (go_simp; rfl)); intro gb hg w3 hbox hb; have HB := Aside0.mk hb; clear hb; have hcz0 : w3.cell? ⟨gb, 0, none⟩ = some (.string a0) := (blk_cell hbox 0).trans rfl; clear hbox hg) | (go_at_call 101; refine (runes_Pieces.calls a0 (pieces a0) 0 _ (GLaid.below_ HG.out HB.out) HPC.out).mono ?_; rintro e w4 ⟨v4, rfl, hR4, hB4⟩; obtain ⟨A4, c4, rfl, hc4, hc5⟩ := Kd.R_reads hR4; have HB4 := Aside0.mk (below_step HB.out hB4); have hcp : (w4.alloc (.cells #[.slice A4 (pieces a0).length c4] 88)).cell? ⟨w4.heap.size, 0, none⟩ = some (.slice A4 (pieces a0).length c4) := (blk_cell (blk_new w4 _) 0).trans rfl; clear hR4 hB4))
          go_ret2
          exact ⟨rfl, below_alloc HB4.out _⟩
        · have b3 : decide (((pieces a0).length : Int) < a2) = false := decide_eq_false q3
          rw [if_neg (by omega)] at h
          obtain ⟨rfl, rfl⟩ := Prod.mk.inj (Option.some.inj h)
          obtain ⟨k1, k2, k3⟩ := HPK.out (by omega) (by omega) (by omega)
          have k4 : plc a0 a1 ≤ (a0.size : Int) := by omega
          rw [HPS.out]
          have hq1 : ∀ W cl cs A c, _ := fun (W : World) (cl cs : Nat) (A : Option Addr) (c : Nat) h1 h2 hC => runes_Part.place a0 cl cs A c a1 W h1 h2 hC (by omega) (by omega) HS.out
          have hq2 : ∀ W cl cs A c, _ := fun (W : World) (cl cs : Nat) (A : Option Addr) (c : Nat) h1 h2 hC => runes_Part.place a0 cl cs A c a2 W h1 h2 hC (by omega) (by omega) HS.out
          have HQ1 := Aside0.mk hq1
          have HQ2 := Aside0.mk hq2
          have hmf : ∀ (W : World) (x y : Nat), (Instr.makeFunc (.func 133) #[] #[.pointer (some ⟨x, 0, none⟩), .pointer (some ⟨y, 0, none⟩)]).run Tryd.prog W = .ok (.func (.func 133) #[] #[.pointer (some ⟨x, 0, none⟩), .pointer (some ⟨y, 0, none⟩)]) W := by intro W x y; simp [go_sem, Instr.makeFunc]
          have eg := enters_of Tryd.func133 (by kernel_rfl) rfl
          generalize plc a0 a1 = p1 at k1 k2 k4 HQ1
          generalize plc a0 a2 = p2 at k2 k3 HQ2
          clear h hq1 hq2 HPK HPS
          go_enter Tryd.func108, Tryd.ntmps108
          go_wp2_with (first | ((with_reducible refine gate_dst (N := 3) rfl ?_); refine box_event ?hg (N := 3) ?hd (cs := #[.string a0]) (t := 9) ?hr ?_; (case hd => rfl); (case hg => rfl); (case hr => first | (go_simp; done) | (go_simp; rfl)); intro gb hg w3 hbox hb; have HB := Aside0.mk hb; clear hb; have hcz0 : w3.cell? ⟨gb, 0, none⟩ = some (.string a0) := (blk_cell hbox 0).trans rfl; clear hbox hg) | (go_at_call 101; refine (runes_Pieces.calls a0 (pieces a0) 0 _ (GLaid.below_ HG.out HB.out) HPC.out).mono ?_; rintro e w4 ⟨v4, rfl, hR4, hB4⟩; obtain ⟨A4, c4, rfl, hc4, hc5⟩ := Kd.R_reads hR4; have hcp : (w4.alloc (.cells #[.slice A4 (pieces a0).length c4] 88)).cell? ⟨w4.heap.size, 0, none⟩ = some (.slice A4 (pieces a0).length c4) := (blk_cell (blk_new w4 _) 0).trans rfl; have hcs : (w4.alloc (.cells #[.slice A4 (pieces a0).length c4] 88)).cell? ⟨gb, 0, none⟩ = some (.string a0) := pw_cell_below (below_alloc (Below.refl _ w4) _) (pw_cell_below hB4 hcz0); have HCC : Aside0 (Kd.C k97 (w4.alloc (.cells #[.slice A4 (pieces a0).length c4] 88)) A4 (pieces a0).length (pieces a0)) := ⟨Kd.C_below hc5 (below_alloc (Below.refl _ w4) _)⟩; have HX1 := Aside0.mk (fun n : Nat => HQ1.out ((w4.alloc (.cells #[.slice A4 (pieces a0).length c4] 88)).drewN n) w4.heap.size gb A4 c4 hcp hcs (Kd.C_below HCC.out (pw_below_drewN (Below.refl _ _) n))); have HX2 := Aside0.mk (fun n : Nat => HQ2.out ((w4.alloc (.cells #[.slice A4 (pieces a0).length c4] 88)).drewN n) w4.heap.size gb A4 c4 hcp hcs (Kd.C_below HCC.out (pw_below_drewN (Below.refl _ _) n))); have HB4 := Aside0.mk (below_alloc (below_step HB.out hB4) (.cells #[.slice A4 (pieces a0).length c4] 88)); clear hR4 hB4))
          repeat (go_quiet (first | (go_at_call 133; first | (with_reducible exact Calls.quiet_of_same (HX1.out _)) | (with_reducible exact Calls.quiet_of_same (HX2.out _)))); try go_wp2)
          go_ret2
          exact ⟨rfl, pw_below_drewN HB4.out _⟩

/-! ### corpus_part: function 63 -/
def corpus_part.f (a0 : ByteArray) (a1 : Int) (a2 : Bool) : Option (ByteArray) := (runes_Len.f a0).bind fun bt110 => (if a2 = true then ((runes_Part.f a0 (mx (wrap64 (bt110.1 - a1)) 0) bt110.1).bind fun bt112 => ((runes_Back.f bt112.1).bind fun bt114 => (some bt114.1))) else ((runes_Part.f a0 0 (mn bt110.1 a1)).bind fun bt116 => ((runes_Back.f bt116.1).bind fun bt118 => (some bt118.1))))
set_option maxHeartbeats 8000000 in
set_option maxRecDepth 100000 in
theorem corpus_part.calls (a0 : ByteArray) (a1 : Int) (a2 : Bool) (r : ByteArray) (w : World) (hG : GLaid w) (h : corpus_part.f a0 a1 a2 = some r) :
    Calls Tryd.prog 63 #[.string a0, .int .i64 a1, .bool a2] w fun e w' => e = .returned (.string r) ∧ Below w.heap.size w w' := by
  have HG := Aside0.mk hG
  clear hG
  have HB := Aside0.mk (Below.refl w.heap.size w)
  have H : ((runes_Len.f a0).bind fun bt110 => (if a2 = true then ((runes_Part.f a0 (mx (wrap64 (bt110.1 - a1)) 0) bt110.1).bind fun bt112 => ((runes_Back.f bt112.1).bind fun bt114 => (some bt114.1))) else ((runes_Part.f a0 0 (mn bt110.1 a1)).bind fun bt116 => ((runes_Back.f bt116.1).bind fun bt118 => (some bt118.1))))) = some r := h
  clear h
  replace H := Option.bind_eq_some_iff.mp H
  obtain ⟨⟨t110, t111⟩, A40, H⟩ := H
  replace H : (if a2 = true then ((runes_Part.f a0 (mx (wrap64 (t110 - a1)) 0) t110).bind fun bt112 => ((runes_Back.f bt112.1).bind fun bt114 => (some bt114.1))) else ((runes_Part.f a0 0 (mn t110 a1)).bind fun bt116 => ((runes_Back.f bt116.1).bind fun bt118 => (some bt118.1)))) = some r := H
  have A4 := Aside0.mk A40
  clear A40
  obtain ⟨ji5, hji5⟩ : ∃ j_ : Int, (mn t110 a1) = j_ := ⟨_, rfl⟩
  replace H : (if a2 = true then ((runes_Part.f a0 (mx (wrap64 (t110 - a1)) 0) t110).bind fun bt112 => ((runes_Back.f bt112.1).bind fun bt114 => (some bt114.1))) else ((runes_Part.f a0 0 (ji5)).bind fun bt116 => ((runes_Back.f bt116.1).bind fun bt118 => (some bt118.1)))) = some r := by first | (rw [hji5] at H; exact H) | (simp only [hji5] at H ⊢; exact H)
  (try rw [hji5] at A4)
  have hji5_ : (if a1 < t110 then a1 else t110) = ji5 := hji5
  by_cases c6 : a2 = true
  · subst c6
    have H1 : ((runes_Part.f a0 (mx (wrap64 (t110 - a1)) 0) t110).bind fun bt112 => ((runes_Back.f bt112.1).bind fun bt114 => (some bt114.1))) = some r := by rw [if_pos rfl] at H; exact H
    clear H
    have H := H1
    clear H1
    obtain ⟨ji7, hji7⟩ : ∃ j_ : Int, (mx (wrap64 (t110 - a1)) 0) = j_ := ⟨_, rfl⟩
    replace H : ((runes_Part.f a0 (ji7) t110).bind fun bt112 => ((runes_Back.f bt112.1).bind fun bt114 => (some bt114.1))) = some r := by first | (rw [hji7] at H; exact H) | (simp only [hji7] at H ⊢; exact H)
    (try rw [hji7] at A4)
    (try (have hji7l : 0 ≤ ji7 := by (rw [← hji7]; unfold mx; (repeat' split) <;> omega)))
    (try (have hji7m : 0 ≤ ji7 := by omega))
    have hji7_ : (if (wrap64 (t110 - a1)) < 0 then 0 else (wrap64 (t110 - a1))) = ji7 := hji7
    replace H := Option.bind_eq_some_iff.mp H
    obtain ⟨⟨t112, t113⟩, A80, H⟩ := H
    replace H : ((runes_Back.f t112).bind fun bt114 => (some bt114.1)) = some r := H
    have A8 := Aside0.mk A80
    clear A80
    replace H := Option.bind_eq_some_iff.mp H
    obtain ⟨⟨t114, t115⟩, A90, H⟩ := H
    replace H : (some t114) = some r := H
    have A9 := Aside0.mk A90
    clear A90
    obtain rfl := Option.some.inj H
    go_enter Tryd.func63, Tryd.ntmps63
    go_wp2_with (first | ((with_reducible refine gate_callee (f := 107) rfl ?_); refine goesL_ (some 15) rfl rfl Tryd.func107 (by kernel_rfl) rfl #[.string a0] rfl (by (try simp only [List.map_toArray, List.map_cons, List.map_nil]); first | done | rfl | (simp only [List.length_drop, List.length_take]; rfl)) ?_; (with_reducible refine (runes_Len.calls a0 t110 t111 _ A4.out).mono ?_); rintro e w10 ⟨rfl, hb⟩; refine ⟨_, rfl, ?_⟩; have n0_ := Aside0.mk (below_step (by repeat (first | (with_reducible first | exact HB.out | apply below_alloc | apply pw_below_drewN | apply below_drew1) | exact HB.out)) hb); clear HB; have HB := n0_; clear n0_; (try clear hb); (try clear hb2); (try clear hk); (try clear hi)) | ((with_reducible refine gate_callee (f := 108) rfl ?_); refine goesL_ (some 31) rfl rfl Tryd.func108 (by kernel_rfl) rfl #[.string a0, .int .i64 ji7, .int .i64 t110] rfl (by (try simp only [List.map_toArray, List.map_cons, List.map_nil]); first | done | (simp only [hji7]; rfl) | rfl | (simp only [List.length_drop, List.length_take]; rfl)) ?_; (with_reducible refine (runes_Part.calls a0 ji7 t110 t112 t113 _ ?side1 A8.out).mono ?_); (case side1 => exact GLaid.below_ HG.out (by repeat (first | (with_reducible first | exact HB.out | apply below_alloc | apply pw_below_drewN | apply below_drew1) | exact HB.out))); rintro e w11 ⟨rfl, hb⟩; refine ⟨_, rfl, ?_⟩; have n0_ := Aside0.mk (below_step (by repeat (first | (with_reducible first | exact HB.out | apply below_alloc | apply pw_below_drewN | apply below_drew1) | exact HB.out)) hb); clear HB; have HB := n0_; clear n0_; (try clear hb); (try clear hb2); (try clear hk); (try clear hi)) | ((with_reducible refine gate_callee (f := 62) rfl ?_); refine goesL_ (some 36) rfl rfl Tryd.func62 (by kernel_rfl) rfl #[.string t112] rfl (by (try simp only [List.map_toArray, List.map_cons, List.map_nil]); first | done | rfl | (simp only [List.length_drop, List.length_take]; rfl)) ?_; (with_reducible refine (runes_Back.calls t112 t114 t115 _ A9.out).mono ?_); rintro e w12 ⟨rfl, hb⟩; refine ⟨_, rfl, ?_⟩; have n0_ := Aside0.mk (below_step (by repeat (first | (with_reducible first | exact HB.out | apply below_alloc | apply pw_below_drewN | apply below_drew1) | exact HB.out)) hb); clear HB; have HB := n0_; clear n0_; (try clear hb); (try clear hb2); (try clear hk); (try clear hi)))
    go_ret
    exact ⟨by first | rfl | (simp [errW_none, errW_some] <;> rfl) | (simp only [← hji5, ← hji7]; first | rfl | (simp [errW_none, errW_some] <;> rfl)) | (simp [*, errW_none, errW_some] <;> rfl), by repeat (first | (with_reducible first | exact HB.out | apply below_alloc | apply pw_below_drewN | apply below_drew1) | exact HB.out)⟩
  · replace c6 := Bool.eq_false_iff.mpr c6
    subst c6
    have H1 : ((runes_Part.f a0 0 (ji5)).bind fun bt116 => ((runes_Back.f bt116.1).bind fun bt118 => (some bt118.1))) = some r := by rw [if_neg (show ¬ (false = true) by decide)] at H; exact H
    clear H
    have H := H1
    clear H1
    replace H := Option.bind_eq_some_iff.mp H
    obtain ⟨⟨t116, t117⟩, A130, H⟩ := H
    replace H : ((runes_Back.f t116).bind fun bt118 => (some bt118.1)) = some r := H
    have A13 := Aside0.mk A130
    clear A130
    replace H := Option.bind_eq_some_iff.mp H
    obtain ⟨⟨t118, t119⟩, A140, H⟩ := H
    replace H : (some t118) = some r := H
    have A14 := Aside0.mk A140
    clear A140
    obtain rfl := Option.some.inj H
    go_enter Tryd.func63, Tryd.ntmps63
    go_wp2_with (first | ((with_reducible refine gate_callee (f := 107) rfl ?_); refine goesL_ (some 15) rfl rfl Tryd.func107 (by kernel_rfl) rfl #[.string a0] rfl (by (try simp only [List.map_toArray, List.map_cons, List.map_nil]); first | done | rfl | (simp only [List.length_drop, List.length_take]; rfl)) ?_; (with_reducible refine (runes_Len.calls a0 t110 t111 _ A4.out).mono ?_); rintro e w15 ⟨rfl, hb⟩; refine ⟨_, rfl, ?_⟩; have n0_ := Aside0.mk (below_step (by repeat (first | (with_reducible first | exact HB.out | apply below_alloc | apply pw_below_drewN | apply below_drew1) | exact HB.out)) hb); clear HB; have HB := n0_; clear n0_; (try clear hb); (try clear hb2); (try clear hk); (try clear hi)) | ((with_reducible refine gate_callee (f := 108) rfl ?_); refine goesL_ (some 31) rfl rfl Tryd.func108 (by kernel_rfl) rfl #[.string a0, .int .i64 0, .int .i64 ji5] rfl (by (try simp only [List.map_toArray, List.map_cons, List.map_nil]); first | done | (simp only [hji5]; rfl) | rfl | (simp only [List.length_drop, List.length_take]; rfl)) ?_; (with_reducible refine (runes_Part.calls a0 0 ji5 t116 t117 _ ?side1 A13.out).mono ?_); (case side1 => exact GLaid.below_ HG.out (by repeat (first | (with_reducible first | exact HB.out | apply below_alloc | apply pw_below_drewN | apply below_drew1) | exact HB.out))); rintro e w16 ⟨rfl, hb⟩; refine ⟨_, rfl, ?_⟩; have n0_ := Aside0.mk (below_step (by repeat (first | (with_reducible first | exact HB.out | apply below_alloc | apply pw_below_drewN | apply below_drew1) | exact HB.out)) hb); clear HB; have HB := n0_; clear n0_; (try clear hb); (try clear hb2); (try clear hk); (try clear hi)) | ((with_reducible refine gate_callee (f := 62) rfl ?_); refine goesL_ (some 36) rfl rfl Tryd.func62 (by kernel_rfl) rfl #[.string t116] rfl (by (try simp only [List.map_toArray, List.map_cons, List.map_nil]); first | done | rfl | (simp only [List.length_drop, List.length_take]; rfl)) ?_; (with_reducible refine (runes_Back.calls t116 t118 t119 _ A14.out).mono ?_); rintro e w17 ⟨rfl, hb⟩; refine ⟨_, rfl, ?_⟩; have n0_ := Aside0.mk (below_step (by repeat (first | (with_reducible first | exact HB.out | apply below_alloc | apply pw_below_drewN | apply below_drew1) | exact HB.out)) hb); clear HB; have HB := n0_; clear n0_; (try clear hb); (try clear hb2); (try clear hk); (try clear hi)))
    go_ret
    exact ⟨by first | rfl | (simp [errW_none, errW_some] <;> rfl) | (simp only [← hji5]; first | rfl | (simp [errW_none, errW_some] <;> rfl)) | (simp [*, errW_none, errW_some] <;> rfl), by repeat (first | (with_reducible first | exact HB.out | apply below_alloc | apply pw_below_drewN | apply below_drew1) | exact HB.out)⟩

end Go.Proofs.YtfpfdmenhgageaaDoor.C
