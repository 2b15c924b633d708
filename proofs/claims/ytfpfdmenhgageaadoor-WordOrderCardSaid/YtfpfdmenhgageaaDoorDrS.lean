/- The door: what the rows' cell 'laid' gives the walks (Go's two tables of unicode/utf8), and a start in which it is met. -/
import Derived.Test.YtfpfdmenhgageaaDoorShelfS
import Derived.Test.YtfpfdmenhgageaaDoorRows
import Derived.Test.YtfpfdmenhgageaaDoorWWords
import Derived.Shelf.Strings.SlTrimAscii
import Derived.Lib.LaidIn
import Derived.Lib.LaidU8
import Derived.LaidMore
import Derived.MakeChecks
import Derived.KernelRfl
import Derived.ProofKit
namespace Go.Proofs.YtfpfdmenhgageaaDoor
open Go.Shelf Go.RowKit Go.Proofs.YtfpfdmenhgageaaDoorW.PrintWords
def GLaid (w : World) : Prop := Lib.Utf8Tabs (Tryd.lays260_ren.g 3) (Tryd.lays260_ren.g 4) w
theorem GLaid.below_ {w W : World} (h : GLaid w) (hb : Below w.heap.size w W) : GLaid W :=
  ⟨fun c hc => pw_cell_below hb (h.1 c hc), fun i hi => ⟨pw_cell_below hb (h.2 i hi).1, pw_cell_below hb (h.2 i hi).2⟩⟩
theorem GLaid.drawn_ {w W : World} (h : GLaid w) (hb : Drawn0 w W) : GLaid W := GLaid.below_ h hb.below
def laidRows : List (String × DataW Unit) := [("unicode/utf8.acceptRanges", Lib.acceptData), ("unicode/utf8.first", Lib.firstData)]
/-- The witness: the settled world, the two variables holding what their initialisers lay. -/
noncomputable def laidWorld (os : Os) : World :=
  let w0 := World.holding Tryd.prog os ⟨#[], #[], []⟩
  let put (h : Array Obj) (g : Nat) (cs : Array Value) : Array Obj := h.modify g fun
    | .cells _ t frozen => .cells cs t frozen
    | o => o
  let h1 := put w0.heap (Tryd.lays260_ren.g 3) (Lib.firstTab.map fun z => Value.int .u8 z).toArray
  let h2 := put h1 (Tryd.lays260_ren.g 4) ((List.range 16).flatMap fun i => [Value.int .u8 (Lib.accLo i), Value.int .u8 (Lib.accHi i)]).toArray
  { w0 with heap := h2 }
theorem laid_rows : [("unicode/utf8.acceptRanges", Rows.laid_unicode_utf8_acceptRanges), ("unicode/utf8.first", Rows.laid_unicode_utf8_first)] = laidRows := by
  unfold laidRows Rows.laid_unicode_utf8_first
  rw [show Pinned.utf8First = Lib.firstData by kernel_rfl]
  kernel_rfl
theorem laid_met (os : Os) (args : Array Value) : laidMetH Tryd.prog [("unicode/utf8.acceptRanges", Rows.laid_unicode_utf8_acceptRanges), ("unicode/utf8.first", Rows.laid_unicode_utf8_first)] ((laidWorld os).forCall (fun _ _ => 0) ⟨#[], args, []⟩).memory := by
  rw [laid_rows, MakeChecks.laidMetH_plain _ _ _ (by kernel_rfl)]
  exact (LaidIn.of_run (l := [("unicode/utf8.acceptRanges", Lib.acceptData), ("unicode/utf8.first", Lib.firstData)]) [Tryd.lays260_ren.g 4, Tryd.lays260_ren.g 3] 8 (by kernel_rfl) (by kernel_rfl) (by kernel_rfl) (by kernel_rfl)).met
theorem of_laid {W : World} (h : laidMetH Tryd.prog [("unicode/utf8.acceptRanges", Rows.laid_unicode_utf8_acceptRanges), ("unicode/utf8.first", Rows.laid_unicode_utf8_first)] W) : GLaid W := by
  rw [laid_rows, MakeChecks.laidMetH_plain _ _ _ (by kernel_rfl)] at h
  exact utf8Tabs_of_reads Tryd.lays260 ⟨by kernel_rfl, by kernel_rfl, by kernel_rfl, by kernel_rfl, by kernel_rfl, by kernel_rfl, by kernel_rfl⟩ (Lib.laidMet.reads h (.tail _ (.head _))) (Lib.laidMet.reads h (.head _))
end Go.Proofs.YtfpfdmenhgageaaDoor
