/-
  A list of numbers is the same as itself. Plain.
-/
import Derived.Test.YtcbachblhfkcoaaSRD
import Derived.Test.YtcbachblhfkcoaaUtfLaw
namespace Go.Proofs.Ytcbachblhfkcoaa
theorem sameB_refl (xs : List Int) : sameB xs xs = true := (sameB_iff _ _).2 rfl
end Go.Proofs.Ytcbachblhfkcoaa
