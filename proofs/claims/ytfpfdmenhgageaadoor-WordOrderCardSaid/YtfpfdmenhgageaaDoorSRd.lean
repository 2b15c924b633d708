/- How the laws' arguments, as the rows read them, are values of the walks' kinds (written by wip/ext). -/
import Derived.Test.YtfpfdmenhgageaaDoorSx0
import Derived.Test.YtfpfdmenhgageaaDoorRd
import Derived.KernelRfl
namespace Go.Proofs.YtfpfdmenhgageaaDoor.S
open Go.RowKit Go.Proofs.YtfpfdmenhgageaaDoorRd Go.Proofs.YtfpfdmenhgageaaDoorW.PrintWords
set_option linter.unusedVariables false
def wfS118 (x : S118) : Prop := ((Lit.int .i32 x.f0).wf = true) ∧ ((Lit.int .u32 x.f1).wf = true) ∧ ((Lit.int .u32 x.f2).wf = true)
theorem rdS118 {H : Type} (enc : TypeId × Value → H) (w : World) : RdK enc Tryd.prog w 118 k118 wfS118 := by
  intro fuel cs x h hz
  obtain ⟨hl, hf⟩ := rd_fields Tryd.underlying118 h hz
  have hcs : Tryd.prog.cellsOf 118 = 3 := by kernel_rfl
  rw [hcs] at hl
  obtain ⟨n0, y0, g0, z0⟩ := hf 0 _ rfl
  obtain ⟨a0, q0, w0⟩ := (rd_int Tryd.underlying21) _ _ _ g0 z0
  have hc0 : Tryd.prog.cellsOf 21 = 1 := by kernel_rfl
  replace q0 : ((Kd.int .i32)).K w a0 ((cs.drop 0).take (Tryd.prog.cellsOf 21)) := q0
  rw [hc0] at q0
  obtain ⟨n1, y1, g1, z1⟩ := hf 1 _ rfl
  obtain ⟨a1, q1, w1⟩ := (rd_int Tryd.underlying49) _ _ _ g1 z1
  have hc1 : Tryd.prog.cellsOf 49 = 1 := by kernel_rfl
  replace q1 : ((Kd.int .u32)).K w a1 ((cs.drop 1).take (Tryd.prog.cellsOf 49)) := q1
  rw [hc1] at q1
  obtain ⟨n2, y2, g2, z2⟩ := hf 2 _ rfl
  obtain ⟨a2, q2, w2⟩ := (rd_int Tryd.underlying49) _ _ _ g2 z2
  have hc2 : Tryd.prog.cellsOf 49 = 1 := by kernel_rfl
  replace q2 : ((Kd.int .u32)).K w a2 ((cs.drop 2).take (Tryd.prog.cellsOf 49)) := q2
  rw [hc2] at q2
  rw [take_drop_split (a := 2) (b := 1) hl rfl] at q2
  exact ⟨⟨a0, a1, a2⟩, (rd_two (drop_split cs 0 1 1 rfl) q0 (rd_two (drop_split cs 1 1 2 rfl) q1 q2)), ⟨w0, w1, w2⟩⟩
def wfS38 (x : S38) : Prop := (x.f0.length * 16 ≤ 140737488351232 ∧ ∀ y ∈ x.f0, y.size ≤ 140737488351232) ∧ (x.f1.length * 12 ≤ 140737488351232 ∧ ∀ y ∈ x.f1, wfS118 y)
theorem rdS38 {H : Type} (enc : TypeId × Value → H) (w : World) : RdK enc Tryd.prog w 38 k38 wfS38 := by
  intro fuel cs x h hz
  obtain ⟨hl, hf⟩ := rd_fields Tryd.underlying38 h hz
  have hcs : Tryd.prog.cellsOf 38 = 2 := by kernel_rfl
  rw [hcs] at hl
  obtain ⟨n0, y0, g0, z0⟩ := hf 0 _ rfl
  obtain ⟨a0, q0, w0⟩ := (rd_slice (B := 16) Tryd.underlying35 (by kernel_rfl) (by kernel_rfl) (rd_string Tryd.underlying9)) _ _ _ g0 z0
  have hc0 : Tryd.prog.cellsOf 35 = 1 := by kernel_rfl
  replace q0 : ((Kd.slice 9 Kd.string)).K w a0 ((cs.drop 0).take (Tryd.prog.cellsOf 35)) := q0
  rw [hc0] at q0
  obtain ⟨n1, y1, g1, z1⟩ := hf 1 _ rfl
  obtain ⟨a1, q1, w1⟩ := (rd_slice (B := 12) Tryd.underlying36 (by kernel_rfl) (by kernel_rfl) (rdS118 _ _)) _ _ _ g1 z1
  have hc1 : Tryd.prog.cellsOf 36 = 1 := by kernel_rfl
  replace q1 : ((Kd.slice 118 k118)).K w a1 ((cs.drop 1).take (Tryd.prog.cellsOf 36)) := q1
  rw [hc1] at q1
  rw [take_drop_split (a := 1) (b := 1) hl rfl] at q1
  exact ⟨⟨a0, a1⟩, (rd_two (drop_split cs 0 1 1 rfl) q0 q1), ⟨w0, w1⟩⟩
end Go.Proofs.YtfpfdmenhgageaaDoor.S
