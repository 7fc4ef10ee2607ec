/-
  The past as plain lists: what Add, Line and Go of package past compute. Plain definitions and lemmas, no program.
-/
namespace Go.Proofs.Ytcbachblhfkcoaa

/-- The lines (the oldest first) behind Add. -/
def addM (L : List (List Int)) (s : List Int) : List (List Int) := if s = [] ∨ L.getLast? = some s then L else (L ++ [s]).drop (L.length + 1 - 500)
/-- The line that is so many back. -/
def lineM (L : List (List Int)) (at_ : Int) (st : List Int) (i : Int) (now : List Int) : Option (List Int) :=
  if i < 0 ∨ (L.length : Int) < i then none else if 0 < i then some (L.getD (L.length - i.toNat) []) else if at_ = 0 then some now else some st
/-- What is left behind, once one has gone to a line. -/
def stashM (at_ : Int) (st : List Int) (i : Int) (now : List Int) : List Int := if i = 0 then [] else if at_ = 0 then now else st

theorem addM_length (L : List (List Int)) (s : List Int) : (addM L s).length ≤ L.length + 1 := by
  unfold addM; split <;> simp
theorem addM_length_le (L : List (List Int)) (s : List Int) (h : L.length ≤ 500) : (addM L s).length ≤ 500 := by
  unfold addM; split
  · exact h
  · simp; omega
theorem addM_mem {L : List (List Int)} {s : List Int} {x : List Int} (h : x ∈ addM L s) : x ∈ L ∨ x = s := by
  unfold addM at h
  split at h
  · exact .inl h
  · have := List.mem_of_mem_drop h
    simpa using this
end Go.Proofs.Ytcbachblhfkcoaa
