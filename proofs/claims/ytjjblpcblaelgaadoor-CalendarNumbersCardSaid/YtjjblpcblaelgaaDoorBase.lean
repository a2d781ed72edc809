/- The listed package-level variables: what the row's premise gives the walks, and one world that meets it. -/
import Derived.Test.YtjjblpcblaelgaaDoorCards
import Derived.Test.YtjjblpcblaelgaaDoorTie
import Derived.Test.YtjjblpcblaelgaaDoorHand
import Derived.WalkKit
import Derived.ProofKit
import Derived.OpenShut
import Derived.Deep.DeepHandedRow
import Derived.Deep.DeepWitnessRowRef
import Derived.Lib.LaidTab
import Derived.Lib.SmallJoins
import Derived.Stop.LaidErr
import Derived.LaidLaws
set_option linter.unusedVariables false
namespace Go.Proofs.YtjjblpcblaelgaaDoor.Base
open Go.ChangeShapes Go.WideShapes Go.ChangeAt Go.RowKit

theorem own : ownKnob Tryd.prog.godebug = none := by kernel_rfl
theorem laidOut : laidOutB Tryd.prog = true := by kernel_rfl
theorem gTab : Tryd.prog.globalNamed "internal/strconv.uint64pow10" = some 2 := by kernel_rfl
theorem gTabType : (Tryd.prog.globals[2]?).map (·.type) = some 74 := by kernel_rfl
theorem cells74 : Tryd.prog.cellsOf 74 = 20 := by kernel_rfl
theorem cells61 : Tryd.prog.cellsOf 61 = 1 := by kernel_rfl

def laid : List (String × DataW Unit) := [("math/bits.deBruijn32tab", Rows.laid_math_bits_deBruijn32tab), ("math/bits.deBruijn64tab", Rows.laid_math_bits_deBruijn64tab), ("internal/strconv.uint64pow10", Rows.laid_internal_strconv_uint64pow10), ("strconv.ErrRange", Rows.laid_strconv_ErrRange), ("strconv.ErrSyntax", Rows.laid_strconv_ErrSyntax)]

/-- What the rows' list gives the walks. -/
theorem gw {W : World} (h : laidMetH Tryd.prog laid W) : Hand.GW W := by
  have h' : laidMet Tryd.prog laid W := h
  have h2 := h'.tail.tail
  exact Lib.tabIs_of_head (zs := Lib.pow10Tab) gTab gTabType Tryd.underlying74 Tryd.underlying61 cells61 cells74 h2

/-- A world that meets the list: the settled one, two blocks more, the variables holding what their initialisers lay. -/
noncomputable def laidWorld (os : Os) : World :=
  let N := (World.settled Tryd.prog os).heap.size
  let w0 := World.holding Tryd.prog os ⟨#[.cells #[.string ⟨#[118, 97, 108, 117, 101, 32, 111, 117, 116, 32, 111, 102, 32, 114, 97, 110, 103, 101]⟩] 83, .cells #[.string ⟨#[105, 110, 118, 97, 108, 105, 100, 32, 115, 121, 110, 116, 97, 120]⟩] 83], #[], []⟩
  let put (h : Array Obj) (g : Nat) (cs : Array Value) : Array Obj := h.modify g fun
    | .cells _ t frozen => .cells cs t frozen
    | o => o
  let ints (d : DataW Unit) : Array Value := match d with
    | .agg l => (l.map fun
      | .lit (.int k z) => Value.int k z
      | _ => undef).toArray
    | _ => #[]
  let h1 := put w0.heap 0 #[.iface 81 (.pointer (some ⟨N + 1, 0, none⟩))]
  let h2 := put h1 1 #[.iface 81 (.pointer (some ⟨N, 0, none⟩))]
  let h3 := put h2 2 (ints Rows.laid_internal_strconv_uint64pow10)
  let h4 := put h3 3 (ints Rows.laid_math_bits_deBruijn32tab)
  let h5 := put h4 4 (ints Rows.laid_math_bits_deBruijn64tab)
  { w0 with heap := h5 }

theorem laid_met (os : Os) (args : Array Value) : laidMet Tryd.prog laid ((laidWorld os).forCall (fun _ _ => 0) ⟨#[], args, []⟩).memory :=
  laidMet_of_run' 8 (by kernel_rfl) (by kernel_rfl)
end Go.Proofs.YtjjblpcblaelgaaDoor.Base
