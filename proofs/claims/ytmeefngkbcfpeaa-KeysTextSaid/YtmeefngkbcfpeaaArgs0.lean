/-
  What comes in: a slice of integers, as the words of Words have it. Plain lemmas over the reading of arguments.
-/
import Derived.Test.YtmeefngkbcfpeaaWords
import Derived.ProofKit
import Derived.OpenShut
import Derived.ShutString
import Derived.ChangeOld
import Derived.Below
import Derived.Deep.Slices
import Derived.Deep.OwnShut
import Derived.Deep.Strs
namespace Go.Proofs.Ytmeefngkbcfpeaa
open Go.ChangeShapes Go.WideShapes Go.ChangeAt Go.RowKit Go.Deep

section
variable {H : Type} {enc : TypeId × Value → H} {P : Program} {w : World} {base : Nat} {spare : Nat → Bool} {held : Bool}

/-- A slice of integers of one kind. -/
theorem in_ints {t e : TypeId} {k : IntKind} {fuel : Nat} {A : Option Addr} {n c : Nat} {x : DataW H × List MemPlace} (ht : P.underlying t = some (.slice e)) (he : P.underlying e = some (.int k)) (hc : P.cellsOf e = 1)
    (h : DataW.trod enc P w base spare held fuel t [.slice A n c] = some x) : ∃ xs : List Int, Sl w Any 1 A n c (xs.map (Value.int k)) ∧ xs.length = n ∧ ∀ y ∈ xs, (Lit.int k y).wf = true := by
  rcases open_ints ht he hc h with ⟨h0, _⟩ | ⟨a, l, cap, zs, h0, _, hl, hm, hz, _, hcell, hwz⟩
  · cases h0
    exact ⟨[], Sl.nil _ _ _, rfl, by simp⟩
  · cases h0
    have hzl : n ≤ zs.length := by rw [hz]; split <;> omega
    refine ⟨zs.take n, ⟨hl, hm, by simp; omega, fun hn => ⟨a, rfl, trivial, ?_, fun j u hu => ?_⟩⟩, by simp; omega, fun y hy => hwz y (List.mem_of_mem_take hy)⟩
    · have := hcell 0 (by omega)
      rw [add_zero] at this
      exact World.block_lt_of_cell? w a this
    · rw [List.getElem?_map, List.getElem?_take] at hu
      split at hu
      · have hj : j < zs.length := by omega
        have hg := hcell j hj
        rw [List.getElem?_eq_getElem hj] at hu
        have e : zs.getD j 0 = zs[j] := by simp [hj]
        rw [e] at hg
        simp at hu
        rw [hg, ← hu]
      · cases hu

end
end Go.Proofs.Ytmeefngkbcfpeaa
