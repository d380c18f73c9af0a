/-
  The walk of RuletextSames.
-/
import Derived.Test.YtmnbbhieodcoeaaDoorAwk
import Derived.Test.YtmnbbhieodcoeaaDoorSmc
namespace Go.Proofs.YtmnbbhieodcoeaaDoor.Rt
open Go.RowKit Go.Proofs.YtmnbbhieodcoeaaDoorW.PrintWords Go.Proofs.YtmnbbhieodcoeaaDoorW.PrintLast Go.Proofs.YtmnbbhieodcoeaaDoorW.PrintMore
open Go.Proofs.YtmnbbhieodcoeaaDoor.PBase Go.Proofs.YtmnbbhieodcoeaaDoor.PScn
set_option linter.unusedVariables false
set_option linter.unusedSimpArgs false
def AllTrue (w : World) (e : Ending) (w' : World) : Prop := e = .returned (.bool true) ∧ Below w.heap.size w w'
theorem below_awake {w W : World} (hb : Below w.heap.size w W) (hT : Tab W) : Calls Tryd.prog 10 #[] W fun e w' => e = .returned (.bool true) ∧ Below w.heap.size w w' :=
  (awake_any W hT).mono fun e w' h => ⟨h.1, below_step hb h.2⟩
end Go.Proofs.YtmnbbhieodcoeaaDoor.Rt
