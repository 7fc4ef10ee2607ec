/-
  typebarlaw19.UndoAll: the walk, as the frame asks it. Conditions: the deeds and the line can be read.
-/
import Derived.Test.YtakbfppmgngdiaaUndoAl
import Derived.Test.YtakbfppmgngdiaaArgsU
namespace Go.Proofs.Ytakbfppmgngdiaa
open Go.RowKit
theorem undoAll_walk {w0 : World} (A : Option Addr) (n c : Nat) (ds : List DuM) (hD : Dus w0 A n c ds) (hat : ∀ d ∈ ds, d.e.at_ ≤ 9223372036854775807) (LA : Option Addr) (ln lc : Nat) (line : List Int) (hL : Sl w0 Any 1 LA ln lc (line.map (Value.int .i32))) (_ : ∀ y ∈ line, (Lit.int .i32 y).wf = true)
    (cursor : Int) (_ : (Lit.int .i64 cursor).wf = true) (w : World) (hw : w = w0 := by rfl) :
    Calls Try.prog 7 #[.slice A n c, .slice LA ln lc, .int .i64 cursor] w fun e w' => e = .returned (.bool true) ∧ Kp w w' := by
  subst hw
  exact undoAll_walk' A LA n c ln lc ds line cursor w hD hat hL
end Go.Proofs.Ytakbfppmgngdiaa
