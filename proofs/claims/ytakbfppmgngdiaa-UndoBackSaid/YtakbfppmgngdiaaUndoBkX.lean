/-
  typebarlaw19.UndoBack: the walk, as the frame asks it. Conditions: the deeds and the line can be read.
-/
import Derived.Test.YtakbfppmgngdiaaUndoBk
import Derived.Test.YtakbfppmgngdiaaArgsU
namespace Go.Proofs.Ytakbfppmgngdiaa
open Go.RowKit
theorem undoBack_walk {w0 : World} (LA : Option Addr) (ln lc : Nat) (line : List Int) (hL : Sl w0 Any 1 LA ln lc (line.map (Value.int .i32))) (_ : ∀ y ∈ line, (Lit.int .i32 y).wf = true) (A : Option Addr) (n c : Nat) (ds : List DuM) (hD : Dus w0 A n c ds) (hat : ∀ d ∈ ds, d.e.at_ ≤ 9223372036854775807)
    (w : World) (hw : w = w0 := by rfl) :
    Calls Try.prog 8 #[.slice LA ln lc, .slice A n c] w fun e w' => e = .returned (.bool true) ∧ Kp w w' := by
  subst hw
  exact undoBack_walk' A LA n c ln lc ds line w hD hat hL
end Go.Proofs.Ytakbfppmgngdiaa
