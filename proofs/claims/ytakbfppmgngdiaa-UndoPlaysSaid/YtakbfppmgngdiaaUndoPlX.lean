/-
  typebarlaw19.UndoPlays: the walk, as the frame asks it. Conditions: the deeds can be read.
-/
import Derived.Test.YtakbfppmgngdiaaUndoPl
import Derived.Test.YtakbfppmgngdiaaArgsU
namespace Go.Proofs.Ytakbfppmgngdiaa
open Go.RowKit
theorem undoPlays_walk {w0 : World} (A : Option Addr) (n c : Nat) (ds : List DuM) (hD : Dus w0 A n c ds) (hat : ∀ d ∈ ds, d.e.at_ ≤ 9223372036854775807) (w : World) (hw : w = w0 := by rfl) :
    Calls Try.prog 6 #[.slice A n c] w fun e w' => e = .returned (.bool true) ∧ Kp w w' := by
  subst hw
  exact undoPlays_walk' A n c ds w hD hat
end Go.Proofs.Ytakbfppmgngdiaa
