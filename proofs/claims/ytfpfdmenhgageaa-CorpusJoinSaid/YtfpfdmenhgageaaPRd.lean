/- How the laws' arguments, as the rows read them, are values of the walks' kinds (written by wip/ext). -/
import Derived.Test.YtfpfdmenhgageaaPx0
import Derived.Test.YtfpfdmenhgageaaRd
import Derived.KernelRfl
namespace Go.Proofs.Ytfpfdmenhgageaa.P
open Go.RowKit Go.Proofs.YtfpfdmenhgageaaRd Go.Proofs.YtfpfdmenhgageaaW.PrintWords
set_option linter.unusedVariables false
def wfS34 (x : S34) : Prop := ((Lit.int .i64 x.f0).wf = true) ∧ ((Lit.int .i64 x.f1).wf = true) ∧ (x.f2.size ≤ 140737488351232) ∧ (True)
theorem rdS34 {H : Type} (enc : TypeId × Value → H) (w : World) : RdK enc Try.prog w 34 k34 wfS34 := by
  intro fuel cs x h hz
  obtain ⟨hl, hf⟩ := rd_fields Try.underlying34 h hz
  have hcs : Try.prog.cellsOf 34 = 4 := by kernel_rfl
  rw [hcs] at hl
  obtain ⟨n0, y0, g0, z0⟩ := hf 0 _ rfl
  obtain ⟨a0, q0, w0⟩ := (rd_int Try.underlying3) _ _ _ g0 z0
  have hc0 : Try.prog.cellsOf 3 = 1 := by kernel_rfl
  replace q0 : ((Kd.int .i64)).K w a0 ((cs.drop 0).take (Try.prog.cellsOf 3)) := q0
  rw [hc0] at q0
  obtain ⟨n1, y1, g1, z1⟩ := hf 1 _ rfl
  obtain ⟨a1, q1, w1⟩ := (rd_int Try.underlying3) _ _ _ g1 z1
  have hc1 : Try.prog.cellsOf 3 = 1 := by kernel_rfl
  replace q1 : ((Kd.int .i64)).K w a1 ((cs.drop 1).take (Try.prog.cellsOf 3)) := q1
  rw [hc1] at q1
  obtain ⟨n2, y2, g2, z2⟩ := hf 2 _ rfl
  obtain ⟨a2, q2, w2⟩ := (rd_string Try.underlying9) _ _ _ g2 z2
  have hc2 : Try.prog.cellsOf 9 = 1 := by kernel_rfl
  replace q2 : (Kd.string).K w a2 ((cs.drop 2).take (Try.prog.cellsOf 9)) := q2
  rw [hc2] at q2
  obtain ⟨n3, y3, g3, z3⟩ := hf 3 _ rfl
  obtain ⟨a3, q3, w3⟩ := (rd_bool Try.underlying4) _ _ _ g3 z3
  have hc3 : Try.prog.cellsOf 4 = 1 := by kernel_rfl
  replace q3 : (Kd.bool).K w a3 ((cs.drop 3).take (Try.prog.cellsOf 4)) := q3
  rw [hc3] at q3
  rw [take_drop_split (a := 3) (b := 1) hl rfl] at q3
  exact ⟨⟨a0, a1, a2, a3⟩, (rd_two (drop_split cs 0 1 1 rfl) q0 (rd_two (drop_split cs 1 1 2 rfl) q1 (rd_two (drop_split cs 2 1 3 rfl) q2 q3))), ⟨w0, w1, w2, w3⟩⟩
end Go.Proofs.Ytfpfdmenhgageaa.P
