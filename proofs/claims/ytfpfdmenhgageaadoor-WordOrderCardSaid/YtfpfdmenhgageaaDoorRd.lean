import Derived.Test.YtfpfdmenhgageaaDoorWWords
import Derived.Deep.Slices
import Derived.DataReads
import Derived.ChangeArms
import Derived.SizedLaws
import Derived.ProofKit
namespace Go.Proofs.YtfpfdmenhgageaaDoorRd
open Go.RowKit Go.Deep Go.Proofs.YtfpfdmenhgageaaDoorW.PrintWords
set_option linter.unusedVariables false
variable {H : Type} {enc : TypeId × Value → H} {P : Program} {w : World}
def RdK (enc : TypeId × Value → H) (P : Program) (w : World) (t : TypeId) {α : Type} (d : Kd α) (wf : α → Prop) : Prop :=
  ∀ fuel cs x, DataW.trod enc P w 0 (fun _ => true) true fuel t cs = some x → (∀ n ∈ x.1.weights P t, n ≤ reachBytes) → ∃ a, d.K w a cs ∧ wf a
theorem rd_int {t : TypeId} {k : IntKind} (ht : P.underlying t = some (.int k)) : RdK enc P w t (Kd.int k) (fun a => (Lit.int k a).wf = true) := by
  intro fuel cs x h _
  obtain ⟨n, rfl, rfl, hw⟩ := DataW.trod_int ht h
  exact ⟨n, rfl, hw⟩
theorem rd_bool {t : TypeId} (ht : P.underlying t = some .bool) : RdK enc P w t Kd.bool (fun _ => True) := by
  intro fuel cs x h _
  obtain ⟨b, rfl, rfl⟩ := DataW.trod_bool ht h
  exact ⟨b, rfl, trivial⟩
theorem rd_string {t : TypeId} (ht : P.underlying t = some .string) : RdK enc P w t Kd.string (fun s => s.size ≤ 140737488351232) := by
  intro fuel cs x h hz
  obtain ⟨s, rfl, rfl, _⟩ := DataW.trod_string ht h
  refine ⟨s, rfl, ?_⟩
  have := hz s.data.toList.length (by simp [DataW.weights])
  simpa [reachBytes] using this
theorem weightsAll_mem (P : Program) (e : TypeId) : ∀ (l : List (DataW H)) (d : DataW H), d ∈ l → ∀ n ∈ d.weights P e, n ∈ DataW.weightsAll P e l
  | d0 :: r, d, hd, n, hn => by
    simp only [DataW.weightsAll, List.mem_append]
    rcases List.mem_cons.1 hd with rfl | h
    · exact .inl hn
    · exact .inr (weightsAll_mem P e r d h n hn)
theorem rd_slice {t e B : Nat} {α : Type} {d : Kd α} {wf : α → Prop} (ht : P.underlying t = some (.slice e)) (hc : P.cellsOf e = d.sz) (hB : P.bytesOf e = B) (hd : RdK enc P w e d wf) :
    RdK enc P w t (Kd.slice e d) (fun l => l.length * B ≤ 140737488351232 ∧ ∀ a ∈ l, wf a) := by
  subst hB
  intro fuel cs x h hz
  rcases open_slice ht h with ⟨rfl, rfl⟩ | ⟨a, len, cap, m, n, D, Pl, rfl, hb, hl, hm, hmm, rfl, hx⟩
  · exact ⟨[], ⟨none, 0, rfl, by simp, ⟨rfl, by simp, fun h => absurd h (by simp)⟩⟩, by simp⟩
  · simp only [if_true] at hmm
    subst hmm
    simp only [DataW.weights, ht] at hz
    have hz0 := hz _ (List.mem_cons_self ..)
    simp only [List.length_map, List.length_range] at hz0
    have hel : ∀ i, i < len → ∃ y : α × List Value, w.cells? 0 (a.add (i * P.cellsOf e)) (P.cellsOf e) = some y.2 ∧ d.K w y.1 y.2 ∧ wf y.1 := by
      intro i hi
      obtain ⟨cs', h1, h2⟩ := hx i (by omega)
      obtain ⟨y, h3, h4⟩ := hd _ _ _ h2 (fun n hn => hz n (List.mem_cons_of_mem _ (List.mem_append_left _ (weightsAll_mem P e _ (D i) (List.mem_map.2 ⟨i, List.mem_range.2 hi, rfl⟩) n hn))))
      exact ⟨(y, cs'), h1, h3, h4⟩
    by_cases h0 : len = 0
    · subst h0
      exact ⟨[], ⟨some a, m, rfl, by simp, ⟨rfl, by simp, fun h => absurd h (by simp)⟩⟩, by simp⟩
    · obtain ⟨y0, _⟩ := hel 0 (by omega)
      haveI : Inhabited (α × List Value) := ⟨y0⟩
      obtain ⟨f, hf⟩ := choose_lt hel
      have hlen : ((List.range len).map fun i => (f i).1).length = len := by simp
      refine ⟨(List.range len).map fun i => (f i).1, ⟨some a, m, by rw [hlen], by rw [hlen]; exact hl, ⟨rfl, ?_, fun _ => ⟨a, rfl, fun j p hj => ?_⟩⟩⟩, ?_, ?_⟩
      · rw [hlen]; unfold maxLen at hm; omega
      · have hjl : j < len := by
          have := (List.getElem?_eq_some_iff.1 hj).1
          simpa using this
        obtain ⟨h1, h2, h3⟩ := hf j hjl
        have hp : (f j).1 = p := by
          rw [List.getElem?_map, List.getElem?_range hjl] at hj
          simpa using hj
        obtain ⟨_, hcl, hcc⟩ := World.cells?_some h1
        refine ⟨(f j).2, by rw [hcl, hc], hp ▸ h2, fun i u hu => ?_⟩
        have hi : i < P.cellsOf e := by rw [← hcl]; exact (List.getElem?_eq_some_iff.1 hu).1
        have := hcc i hi
        rw [Go.Deep.add_add, hu, hc] at this
        exact this
      · rw [hlen]
        refine Nat.le_trans (Nat.mul_le_mul_right _ (show len ≤ len + (m - len) by omega)) ?_
        simpa [reachBytes] using hz0
      · intro q hq
        obtain ⟨i, hi, rfl⟩ := List.mem_map.1 hq
        exact (hf i (List.mem_range.1 hi)).2.2
theorem rd_two {α β : Type} {a : Kd α} {b : Kd β} {x : α} {y : β} {cs c0 c1 : List Value} (hs : c0 ++ c1 = cs) (h0 : a.K w x c0) (h1 : b.K w y c1) : (Kd.pair a b).K w (x, y) cs := ⟨c0, c1, hs.symm, h0, h1⟩
theorem rd_fields {t : TypeId} {fs : Array Field} {fuel : Nat} {cs : List Value} {x : DataW H × List MemPlace} (ht : P.underlying t = some (.struct fs)) (h : DataW.trod enc P w 0 (fun _ => true) true fuel t cs = some x)
    (hz : ∀ n ∈ x.1.weights P t, n ≤ reachBytes) : cs.length = P.cellsOf t ∧ ∀ (i : Nat) (f : Field), fs[i]? = some f → ∃ n y, DataW.trod enc P w 0 (fun _ => true) true n f.type ((cs.drop f.offset).take (P.cellsOf f.type)) = some y ∧ ∀ n ∈ y.1.weights P f.type, n ≤ reachBytes := by
  obtain ⟨xs, n, rfl, rfl, hl, hxl, hf⟩ := DataW.trod_struct ht h
  refine ⟨hl, fun i f hi => ?_⟩
  have h1 := hf i f hi
  have hil : i < xs.length := by rw [hxl]; exact (Array.getElem?_eq_some_iff.1 hi).1
  rw [List.getElem?_eq_getElem hil] at h1
  refine ⟨n, xs[i], h1, fun q hq => hz q ?_⟩
  simp only [DataW.weights, ht]
  exact DataW.weights_mem_each (j := i) (t := f.type) (d := xs[i].1) (by simp [hi]) (by simp [List.getElem?_eq_getElem hil]) q hq
theorem take_drop_split {l : List Value} {a b n : Nat} (h : l.length = n) (hn : a + b = n) : (l.drop a).take b = l.drop a := by
  rw [List.take_of_length_le]
  rw [List.length_drop]
  omega
theorem drop_split (l : List Value) (a b c : Nat) (h : a + b = c) : (l.drop a).take b ++ l.drop c = l.drop a := by
  subst h
  rw [← List.drop_drop, List.take_append_drop]
end Go.Proofs.YtfpfdmenhgageaaDoorRd
