/- A map that a call makes, told as a partial function: made, looked into, written. -/
import Derived.WalkKit
import Derived.Deep.Draws
import Derived.ProofKit
import Derived.Maps.Own
import Derived.Maps.OwnOps
import Derived.Maps.OwnSet
import Derived.Maps.Views
namespace Go.Proofs.YtfpfdmenhgageaaDoorMp
open Go.RowKit Go.Maps
set_option linter.unusedVariables false

/-- Keys of type k, told by values of κ. -/
structure KeyE (P : Program) (k : TypeId) (κ : Type) where
  enc : κ → Value
  lit : κ → Lit
  ok : κ → Prop
  keyed : Keyed P k
  key : ∀ x, ok x → keyOf P k (enc x) = some (lit x)
  inj : ∀ x y, enc x = enc y → x = y
/-- Elements, told by values of ν. -/
structure ElemE (ν : Type) where
  enc : ν → Value
  R : Value → Option (DataW Unit × List MemPlace)
  d : ν → DataW Unit
  ok : ν → Prop
  rd : ∀ v, ok v → R (enc v) = some (d v, [])
  inv : ∀ val v ps, R val = some (d v, ps) → val = enc v

theorem KeyE.lit_inj {P : Program} {k : TypeId} {κ : Type} (K : KeyE P k κ) {x y : κ} (hx : K.ok x) (hy : K.ok y) (h : K.lit x = K.lit y) : x = y :=
  K.inj x y (K.keyed.inj (K.key x hx) (by rw [h]; exact K.key y hy))

def strKey {P : Program} {k : TypeId} (hk : P.underlying k = some .string) : KeyE P k ByteArray where
  enc := Value.string
  lit := fun s => .string s.data.toList
  ok := fun s => s.size ≤ maxLen
  keyed := string_keyed hk
  key := fun s hs => WideMaps.keyOf_string_mk hk hs
  inj := fun x y h => Value.string.inj h
def intKey {P : Program} {k : TypeId} {q : IntKind} (hk : P.underlying k = some (.int q)) : KeyE P k Int where
  enc := Value.int q
  lit := fun n => .int q n
  ok := fun n => (Lit.int q n).wf = true
  keyed := int_keyed hk
  key := fun n hn => keyOf_int_mk hk hn
  inj := fun x y h => (Value.int.inj h).2
def boolElem {P : Program} {e : TypeId} (he : P.underlying e = some .bool) : ElemE Bool where
  enc := Value.bool
  R := plainElem P e
  d := fun b => .lit (.bool b)
  ok := fun _ => True
  rd := fun v _ => plainElem_bool he v
  inv := fun val v ps h => by
    unfold plainElem at h
    rw [he] at h
    cases val <;> simp at h
    rw [h.1]
def intElem {P : Program} {e : TypeId} {q : IntKind} (he : P.underlying e = some (.int q)) : ElemE Int where
  enc := Value.int q
  R := plainElem P e
  d := fun n => .lit (.int q n)
  ok := fun n => (Lit.int q n).wf = true
  rd := fun v hv => plainElem_int he hv
  inv := fun val v ps h => by
    obtain ⟨a, rfl, hz, _⟩ := plainElem_int_inv he h
    simp only [Prod.mk.injEq, DataW.lit.injEq, Lit.int.injEq, true_and] at hz
    rw [hz.1]
def unitElemE : ElemE Unit where
  enc := fun _ => .agg #[]
  R := unitElem
  d := fun _ => .agg []
  ok := fun _ => True
  rd := fun _ _ => unitElem_mk
  inv := fun val v ps h => (unitElem_inv h).1

section
variable {P : Program} {k e : TypeId} {κ ν : Type} {K : KeyE P k κ} {E : ElemE ν} {w w1 : World} {b n : Nat} {m : κ → Option ν}

/-- Block b is a map of at most n entries that holds what m tells, at the keys that may be. -/
def MapI (K : KeyE P k κ) (E : ElemE ν) (w : World) (b n : Nat) (m : κ → Option ν) : Prop :=
  ∃ D : DataW Unit, w.ownsMap P k E.R b n D ∧ IsMap D ∧ ∀ x, K.ok x → Maps.has D (K.lit x) = (m x).isSome ∧ (∀ v, m x = some v → E.ok v ∧ ∀ z, D.atKey (K.lit x) z = E.d v) ∧ (m x = none → ∀ z, D.atKey (K.lit x) z = z)

theorem MapI.made (K : KeyE P k κ) (E : ElemE ν) (w : World) : MapI K E (w.alloc (.map #[] 0)) w.heap.size 0 (fun _ => none) :=
  ⟨.map [], World.ownsMap_made _ _ _ _, isMap_empty, fun x _ => ⟨rfl, by simp, fun _ z => rfl⟩⟩
theorem MapI.lt (h : MapI K E w b n m) : b < w.heap.size := by obtain ⟨D, h, _⟩ := h; exact h.lt
theorem MapI.kept {row : Option Nat} (h : MapI K E w b n m) (hg : w.grownBy w1 row) (hne : some b ≠ row) : MapI K E w1 b n m := by
  obtain ⟨D, h, r⟩ := h; exact ⟨D, h.kept hg hne, r⟩
theorem MapI.alloc (h : MapI K E w b n m) (o : Obj) : MapI K E (w.alloc o) b n m := h.kept (World.grownBy_alloc w o none) (by simp)
theorem MapI.drew (h : MapI K E w b n m) : MapI K E w.drew b n m := h
theorem MapI.drewN (h : MapI K E w b n m) (q : Nat) : MapI K E (w.drewN q) b n m := h
theorem MapI.below (h : MapI K E w b n m) (hb : Below w.heap.size w w1) : MapI K E w1 b n m :=
  h.kept (row := none) ⟨hb.os, hb.tape, hb.output, hb.size, fun i hi _ => hb.block i hi⟩ (by simp)
theorem MapI.mono (h : MapI K E w b n m) {n' : Nat} (hn : n ≤ n') : MapI K E w b n' m := by obtain ⟨D, h, r⟩ := h; exact ⟨D, h.mono hn, r⟩
theorem MapI.setCell (h : MapI K E w b n m) {a : Addr} (ha : b ≠ a.block) (u : Value) : MapI K E (w.setCell a u) b n m := by obtain ⟨D, h, r⟩ := h; exact ⟨D, h.setCell ha u, r⟩

theorem MapI.look {t : TypeId} (h : MapI K E w b n m) (ht : P.underlying t = some (.map k e)) (z0 : ν) (hz : (zeroValue e).run P w = .ok (E.enc z0) w) (hz0 : E.ok z0) {x : κ} (hx : K.ok x) :
    (Instr.lookup t (.map (some b)) (K.enc x) false).run P w = .ok (E.enc ((m x).getD z0)) w := by
  obtain ⟨D, h, _, r⟩ := h
  obtain ⟨v, ps, hrun, hv⟩ := h.lookup K.keyed ht hz (E.rd z0 hz0) (K.key x hx)
  rw [hrun]
  congr 1
  obtain ⟨_, r1, r2⟩ := r x hx
  cases hm : m x with
  | none => rw [r2 hm] at hv; exact E.inv _ _ _ hv
  | some y => rw [(r1 y hm).2] at hv; exact E.inv _ _ _ hv
theorem MapI.look_ok {t : TypeId} (h : MapI K E w b n m) (ht : P.underlying t = some (.map k e)) (z0 : ν) (hz : (zeroValue e).run P w = .ok (E.enc z0) w) (hz0 : E.ok z0) {x : κ} (hx : K.ok x) :
    (Instr.lookup t (.map (some b)) (K.enc x) true).run P w = .ok (.tuple #[E.enc ((m x).getD z0), .bool (m x).isSome]) w := by
  obtain ⟨D, h, _, r⟩ := h
  obtain ⟨v, ps, hrun, hv⟩ := h.look_ok K.keyed ht hz (E.rd z0 hz0) (K.key x hx)
  obtain ⟨r0, r1, r2⟩ := r x hx
  rw [hrun, r0]
  congr 3
  cases hm : m x with
  | none => rw [r2 hm] at hv; rw [E.inv _ _ _ hv]; rfl
  | some y => rw [(r1 y hm).2] at hv; rw [E.inv _ _ _ hv]; rfl
open Classical in
theorem MapI.update {t : TypeId} (h : MapI K E w b n m) (ht : P.underlying t = some (.map k e)) (hn : n < maxLen) {x : κ} (hx : K.ok x) {v : ν} (hv : E.ok v) :
    ∃ w', (Instr.mapUpdate t (.map (some b)) (K.enc x) (E.enc v)).run P w = .ok () w' ∧ MapI K E w' b (n + 1) (fun y => if y = x then some v else m y) ∧ w.grownBy w' (some b) := by
  obtain ⟨D, h, hm, r⟩ := h
  obtain ⟨w', hrun, ho, hg⟩ := h.update K.keyed ht hn (K.key x hx) (E.rd v hv)
  refine ⟨w', hrun, ⟨_, ho, hm.put _ _, fun y hy => ?_⟩, hg⟩
  by_cases hyx : y = x
  · subst hyx
    simp only [if_true]
    exact ⟨has_put_same hm (K.keyed.key (K.key y hx)) _, fun v' hv' => by cases hv'; exact ⟨hv, fun z => atKey_put_same hm (K.keyed.key (K.key y hx)) _ z⟩, fun h => by cases h⟩
  · simp only [if_neg hyx]
    have hne : K.lit y ≠ K.lit x := fun e => hyx (K.lit_inj hy hx e)
    rw [has_put_other hne]
    obtain ⟨r0, r1, r2⟩ := r y hy
    exact ⟨r0, fun v' hv' => ⟨(r1 v' hv').1, fun z => by rw [atKey_put_other hne]; exact (r1 v' hv').2 z⟩, fun hn z => by rw [atKey_put_other hne]; exact r2 hn z⟩
end

theorem run_makeMap_hint {P : Program} {t k e : TypeId} (h : P.underlying t = some (.map k e)) (n : Int) (w : World) : (Instr.makeMap t (some (.int .i64 n))).run P w = .ok (.map (some w.heap.size)) (w.alloc (.map #[] 0)) := by
  simp only [Instr.makeMap, Sem.run_bind, run_underlying h, Result.andThen, asInt]
  rfl
/-! At the operation, for the walk. -/
section
variable {P : Program} (w : World) {ops : Array Oper} {rest : List Oper} {o : Oper} {a : Act} {Q : Exit → Act → World → Prop} {k e : TypeId} {κ ν : Type}
theorem wp_look (hg : o.guard = none) (mo xo : Operand) (t : TypeId) (hop : o.op = Op.lookup t mo xo false) (K : KeyE P k κ) (E : ElemE ν) (ht : P.underlying t = some (.map k e)) (z0 : ν) (hz : (zeroValue e).run P w = .ok (E.enc z0) w) (hz0 : E.ok z0)
    (b n : Nat) (m : κ → Option ν) (hm : a.eval mo = .map (some b)) (hown : MapI K E w b n m) (x : κ) (hx : a.eval xo = K.enc x) (hkey : K.ok x)
    (hK : wpList P ops Q rest (a.put o.dst (E.enc ((m x).getD z0))) w) : wpList P ops Q (o :: rest) a w := by
  refine wpList_plain hg fun K' hK' => ?_
  have hrun := hown.look ht z0 hz hz0 hkey
  unfold Oper.wp
  simp [execOp, hop, hm, hx, hrun, Result.andThen]
  exact hK' _ _ hK
theorem wp_look_ok (hg : o.guard = none) (mo xo : Operand) (t : TypeId) (hop : o.op = Op.lookup t mo xo true) (K : KeyE P k κ) (E : ElemE ν) (ht : P.underlying t = some (.map k e)) (z0 : ν) (hz : (zeroValue e).run P w = .ok (E.enc z0) w) (hz0 : E.ok z0)
    (b n : Nat) (m : κ → Option ν) (hm : a.eval mo = .map (some b)) (hown : MapI K E w b n m) (x : κ) (hx : a.eval xo = K.enc x) (hkey : K.ok x)
    (hK : wpList P ops Q rest (a.put o.dst (.tuple #[E.enc ((m x).getD z0), .bool (m x).isSome])) w) : wpList P ops Q (o :: rest) a w := by
  refine wpList_plain hg fun K' hK' => ?_
  have hrun := hown.look_ok ht z0 hz hz0 hkey
  unfold Oper.wp
  simp [execOp, hop, hm, hx, hrun, Result.andThen]
  exact hK' _ _ hK
open Classical in
theorem wp_update (hg : o.guard = none) (mo xo vo : Operand) (t : TypeId) (hop : o.op = Op.mapUpdate t mo xo vo) (K : KeyE P k κ) (E : ElemE ν) (ht : P.underlying t = some (.map k e))
    (b n : Nat) (m : κ → Option ν) (hm : a.eval mo = .map (some b)) (hown : MapI K E w b n m) (hn : n < maxLen) (x : κ) (hx : a.eval xo = K.enc x) (hkey : K.ok x) (v : ν) (hv : a.eval vo = E.enc v) (hok : E.ok v)
    (hK : ∀ w', MapI K E w' b (n + 1) (fun y => if y = x then some v else m y) → w.grownBy w' (some b) → wpList P ops Q rest (a.put o.dst undef) w') : wpList P ops Q (o :: rest) a w := by
  refine wpList_plain hg fun K' hK' => ?_
  obtain ⟨w', hrun, r1, r2⟩ := hown.update ht hn hkey hok
  unfold Oper.wp
  simp [execOp, hop, hm, hx, hv, hrun, Result.andThen]
  exact hK' _ _ (hK w' r1 r2)
end
end Go.Proofs.YtfpfdmenhgageaaDoorMp
