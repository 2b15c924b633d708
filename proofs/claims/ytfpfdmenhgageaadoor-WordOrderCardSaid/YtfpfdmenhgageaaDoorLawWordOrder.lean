/- The law WordOrder: cognate/cognatelaw03.WordOrder returns true at every input, and its arguments read afterwards as before. Conditions: the package variables that the row lists hold what the program's text lays. -/
import Derived.Test.YtfpfdmenhgageaaDoorRows
import Derived.Test.YtfpfdmenhgageaaDoorCards
import Derived.Test.YtfpfdmenhgageaaDoorTie
import Derived.Test.YtfpfdmenhgageaaDoorDrS
import Derived.Test.YtfpfdmenhgageaaDoorSRd
import Derived.Test.YtfpfdmenhgageaaDoorSx11
import Derived.Test.YtfpfdmenhgageaaDoorPureWordOrder
import Derived.WalkKit
import Derived.ProofKit
import Derived.OpenShut
import Derived.ShutString
import Derived.ChangeOld
import Derived.Below
import Derived.SizedLaws
import Derived.LaidMore
import Derived.Stop.Joined
import Derived.SevenTiedAt
namespace Go.Proofs.YtfpfdmenhgageaaDoor.wordOrder
open Go.ChangeShapes Go.WideShapes Go.ChangeAt Go.RowKit Go.Proofs.YtfpfdmenhgageaaDoor.S Go.Proofs.YtfpfdmenhgageaaDoorRd Go.Proofs.YtfpfdmenhgageaaDoorW.PrintWords
open Go.ChangeMaps (open_string shut_string)
set_option linter.unusedVariables false
theorem own : ownKnob Tryd.prog.godebug = none := by kernel_rfl
theorem laidOut : laidOutB Tryd.prog = true := by kernel_rfl
theorem pure_ : ∀ (l0_0 : List ByteArray) (l0_1 : List (S118)) (a1 : ByteArray) (a2 : ByteArray) (a3 : ByteArray) (l4 : List ByteArray), (l0_0.length * 16 ≤ 140737488351232 ∧ ∀ y ∈ l0_0, y.size ≤ 140737488351232) → (l0_1.length * 12 ≤ 140737488351232 ∧ ∀ y ∈ l0_1, wfS118 y) → (a1.size ≤ 140737488351232) → (a2.size ≤ 140737488351232) → (a3.size ≤ 140737488351232) → (l4.length * 16 ≤ 140737488351232 ∧ ∀ y ∈ l4, y.size ≤ 140737488351232) → ∃ k, cognatelaw03_WordOrder.f k l0_0 l0_1 a1 a2 a3 l4 = some true := Pure.WordOrder
set_option maxRecDepth 100000 in
set_option maxHeartbeats 1000000 in
theorem lifted (os : Os) (started : os.Started) (H : Type) (enc : TypeId × Value → H) :
    ReturnsInHanded {} Tryd.checked os 9 .any (fun w args => (Rows.wordOrderSpec.pre enc Tryd.prog Tryd.f9 Rows.wordOrderRow.domain false w args ∧ laidMetH Tryd.prog Rows.wordOrderRow.laid w) ∧ sizedMet enc Tryd.prog Tryd.f9 (OpenSpec.ofChange Rows.wordOrderSpec) false w args) (Rows.wordOrderSpec.post enc Tryd.prog Tryd.f9 false true false false) := by
  refine returnsInHanded_of_change_and (C := Tryd.checked) (X := fun w _ => laidMetH Tryd.prog Rows.wordOrderRow.laid w) (fun _ _ _ hh h => h.of_heap hh) own started (by kernel_rfl) Tryd.func9
    (ChangeSpec.witness_shaped (enc := enc) (C := Tryd.checked) (os := os) (X := fun w _ => laidMetH Tryd.prog Rows.wordOrderRow.laid w) false (laidWorld os) #[.agg #[.slice none 0 0, .slice none 0 0], .string ByteArray.empty, .string ByteArray.empty, .string ByteArray.empty, .slice none 0 0] 8 rfl (World.shaped_of_RefB (by kernel_rfl) (by kernel_rfl)) (by kernel_rfl) (by kernel_rfl) (by kernel_rfl) (laid_met os _)) ?_
  intro W base args ds gs before hval0 hW hcnd hsz0 hL _
  have hGL : GLaid W := of_laid hL
  clear hL
  have hsz : (DataW.weightsEach Tryd.prog (Tryd.f9.params.toList ++ Rows.wordOrderSpec.plain.varTypes Tryd.prog) (ds ++ gs)).all (· ≤ reachBytes) = true := hsz0
  have hval : ∀ (j : Nat) t v, Tryd.f9.params[j]? = some t → args[j]? = some v → Value.okWide Tryd.prog W .any base t v := hval0
  have hW' := hW
  obtain ⟨p, q, hA0, hV, rfl, hfz, hnd⟩ := hW
  have hA : DataW.TrodAll enc Tryd.prog W 0 (fun _ => true) true Tryd.f9.params.toList args.toList ds p := hA0
  rw [Tryd.params9] at hA hval hsz
  obtain ⟨v0, vs0, d0, ds0, p0, q0, hargs, rfl, rfl, h0, r0⟩ := trodAll_cons hA
  obtain ⟨v1, vs1, d1, ds1, p1, q1, rfl, rfl, rfl, h1, r1⟩ := trodAll_cons r0
  obtain ⟨v2, vs2, d2, ds2, p2, q2, rfl, rfl, rfl, h2, r2⟩ := trodAll_cons r1
  obtain ⟨v3, vs3, d3, ds3, p3, q3, rfl, rfl, rfl, h3, r3⟩ := trodAll_cons r2
  obtain ⟨v4, vs4, d4, ds4, p4, q4, rfl, rfl, rfl, h4, r4⟩ := trodAll_cons r3
  obtain ⟨rfl, rfl, rfl⟩ := trodAll_nil r4
  obtain rfl : args = #[v0, v1, v2, v3, v4] := by cases args; simp_all
  obtain ⟨rfl, rfl⟩ := trodVars_none hV
  have k0 := h0
  have lt0 : ∀ x ∈ p0, x.block < W.heap.size := by obtain ⟨m, hm⟩ := k0; exact DataW.trod_lt m _ _ _ hm
  have z0 : ∀ n ∈ d0.weights Tryd.prog 38, n ≤ reachBytes := fun n hn => by have := List.all_eq_true.1 hsz _ (DataW.weights_mem_each (j := 0) (t := 38) (d := d0) rfl rfl n hn); simpa using this
  obtain ⟨cs0, rfl, _⟩ := okWide_struct Tryd.underlying38 (hval 0 38 v0 rfl rfl)
  obtain ⟨fu0, hf0⟩ := h0
  obtain ⟨x0, hk0, w0⟩ := (rdS38 _ _) _ _ _ hf0 z0
  obtain ⟨A0_0, c0_0, A0_1, c0_1, hcs0, hm0_0, hr0_0, hm0_1, hr0_1⟩ := k38_open hk0
  obtain rfl : cs0 = #[.slice A0_0 x0.f0.length c0_0, .slice A0_1 x0.f1.length c0_1] := by cases cs0; simp only [Value.cells] at hcs0; simpa using hcs0
  have k1 := h1
  have lt1 : ∀ x ∈ p1, x.block < W.heap.size := by obtain ⟨m, hm⟩ := k1; exact DataW.trod_lt m _ _ _ hm
  have z1 : ∀ n ∈ d1.weights Tryd.prog 9, n ≤ reachBytes := fun n hn => by have := List.all_eq_true.1 hsz _ (DataW.weights_mem_each (j := 1) (t := 9) (d := d1) rfl rfl n hn); simpa using this
  obtain ⟨a1, rfl⟩ := okWide_string Tryd.underlying9 (hval 1 9 v1 rfl rfl)
  obtain ⟨fu1, hf1⟩ := h1
  obtain ⟨x1, hk1, w1⟩ := (rd_string Tryd.underlying9) _ _ _ hf1 z1
  obtain rfl : a1 = x1 := Value.string.inj (List.cons.inj hk1).1
  have k2 := h2
  have lt2 : ∀ x ∈ p2, x.block < W.heap.size := by obtain ⟨m, hm⟩ := k2; exact DataW.trod_lt m _ _ _ hm
  have z2 : ∀ n ∈ d2.weights Tryd.prog 9, n ≤ reachBytes := fun n hn => by have := List.all_eq_true.1 hsz _ (DataW.weights_mem_each (j := 2) (t := 9) (d := d2) rfl rfl n hn); simpa using this
  obtain ⟨a2, rfl⟩ := okWide_string Tryd.underlying9 (hval 2 9 v2 rfl rfl)
  obtain ⟨fu2, hf2⟩ := h2
  obtain ⟨x2, hk2, w2⟩ := (rd_string Tryd.underlying9) _ _ _ hf2 z2
  obtain rfl : a2 = x2 := Value.string.inj (List.cons.inj hk2).1
  have k3 := h3
  have lt3 : ∀ x ∈ p3, x.block < W.heap.size := by obtain ⟨m, hm⟩ := k3; exact DataW.trod_lt m _ _ _ hm
  have z3 : ∀ n ∈ d3.weights Tryd.prog 9, n ≤ reachBytes := fun n hn => by have := List.all_eq_true.1 hsz _ (DataW.weights_mem_each (j := 3) (t := 9) (d := d3) rfl rfl n hn); simpa using this
  obtain ⟨a3, rfl⟩ := okWide_string Tryd.underlying9 (hval 3 9 v3 rfl rfl)
  obtain ⟨fu3, hf3⟩ := h3
  obtain ⟨x3, hk3, w3⟩ := (rd_string Tryd.underlying9) _ _ _ hf3 z3
  obtain rfl : a3 = x3 := Value.string.inj (List.cons.inj hk3).1
  have k4 := h4
  have lt4 : ∀ x ∈ p4, x.block < W.heap.size := by obtain ⟨m, hm⟩ := k4; exact DataW.trod_lt m _ _ _ hm
  have z4 : ∀ n ∈ d4.weights Tryd.prog 35, n ≤ reachBytes := fun n hn => by have := List.all_eq_true.1 hsz _ (DataW.weights_mem_each (j := 4) (t := 35) (d := d4) rfl rfl n hn); simpa using this
  obtain ⟨a4, n4, c4, rfl⟩ := okWide_slice Tryd.underlying35 (hval 4 35 v4 rfl rfl)
  obtain ⟨fu4, hf4⟩ := h4
  obtain ⟨x4, hk4, w4⟩ := (rd_slice (B := 16) Tryd.underlying35 (by kernel_rfl) (by kernel_rfl) (rd_string Tryd.underlying9)) _ _ _ hf4 z4
  obtain ⟨A4, C4, he4, hm4, hr4⟩ := hk4
  simp only [Value.cells, List.cons.injEq, Value.slice.injEq, and_true] at he4
  obtain ⟨rfl, rfl, rfl⟩ := he4
  clear hA0 hval0 hsz0 hsz
  obtain ⟨kr, hp⟩ := pure_ x0.f0 x0.f1 a1 a2 a3 x4 w0.1 w0.2 w1 w2 w3 w4
  refine (cognatelaw03_WordOrder.calls kr _ _ x0.f0 _ _ x0.f1 a1 a2 a3 _ _ x4 true W hr0_0 hm0_0 hr0_1 hm0_1 hr4 hm4 hGL hp).mono fun e W' ⟨he, bel0⟩ => ?_
  have bel : Below W.heap.size W W' := bel0
  subst he
  exact ⟨_, rfl, _, _, _, [], _, [], hW', trodAll_mk1 (shut_bool Tryd.underlying4 _), (trodAll_cons_mk (Below.trod laidOut (by kernel_rfl) (of_decide_eq_true (by kernel_rfl)) k0 bel lt0) (trodAll_cons_mk (Below.trod laidOut (by kernel_rfl) (of_decide_eq_true (by kernel_rfl)) k1 bel lt1) (trodAll_cons_mk (Below.trod laidOut (by kernel_rfl) (of_decide_eq_true (by kernel_rfl)) k2 bel lt2) (trodAll_cons_mk (Below.trod laidOut (by kernel_rfl) (of_decide_eq_true (by kernel_rfl)) k3 bel lt3) (trodAll_cons_mk (Below.trod laidOut (by kernel_rfl) (of_decide_eq_true (by kernel_rfl)) k4 bel lt4) trodAll_mk0))))), rfl, bel.frame _, fun h => by cases h⟩
theorem over : Rows.wordOrderRow.holds Tryd.pinned (OpenSpec.ofChange Rows.wordOrderSpec) :=
  OpenClaim.holds_of_wide 9 Tryd.f9 rfl rfl rfl rfl rfl rfl rfl ⟨rfl, rfl, rfl, rfl, rfl⟩ rfl rfl rfl rfl rfl (by kernel_rfl) Tryd.func9 (by kernel_rfl)
    (of_decide_eq_true (by kernel_rfl)) (by unfold Func.isWrapper; first | (rw [if_pos (by decide +kernel)]; kernel_rfl) | (rw [if_neg (by decide +kernel)]; exact ⟨rfl, rfl⟩))
    (fun os started H enc _ => lifted os started H enc)
theorem card_proved : Rows.WordOrderCardSaid :=
  Claim7.holds_tied_plain_at .later [] [.data, .pinned] true (true, "aa35884ca752636ec932c6eae968f027aff2afe29cc4dfb3c0e240644c44f690") false over (fun _ h => by cases h) (by kernel_rfl) (fun _ h => by cases h) wordOrder_row_tie rfl ⟨rfl, rfl⟩ (by kernel_rfl) rfl
    (fun f fn hf hfn => by
      obtain rfl : f = 9 := Option.some.inj ((show Tryd.prog.funcNamed "cognate/cognatelaw03.WordOrder" = some 9 by kernel_rfl).symm.trans hf) |>.symm
      obtain rfl : fn = Tryd.f9 := (Option.some.inj (Tryd.func9.symm.trans hfn)).symm
      exact ⟨by kernel_rfl, fun j t ht => by
        rw [Tryd.params9] at ht
        have hm : t ∈ [38, 9, 9, 9, 35] := by simpa using Array.mem_of_getElem? ht
        have hall : ([38, 9, 9, 9, 35].all fun u => !Tryd.prog.wantsStandIn u) = true := by kernel_rfl
        exact (show Tryd.prog.wantsStandIn t = false by simpa using List.all_eq_true.1 hall t hm)⟩)
    (by kernel_rfl)
#print axioms card_proved
theorem proved : Rows.WordOrderSaid := over
#print axioms proved
end Go.Proofs.YtfpfdmenhgageaaDoor.wordOrder
namespace Go.Proofs.YtfpfdmenhgageaaDoor
/-- The row's card, under a short name, for the claim. -/
theorem wordOrder_card : Rows.WordOrderCardSaid := wordOrder.card_proved
end Go.Proofs.YtfpfdmenhgageaaDoor
