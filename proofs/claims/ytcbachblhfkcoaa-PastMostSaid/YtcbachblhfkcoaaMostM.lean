/-
  The past of the numbers from 0 on, one line each: the plain law behind PastMost. No program.
-/
import Derived.Test.YtcbachblhfkcoaaPastM
namespace Go.Proofs.Ytcbachblhfkcoaa

def Lm (k : Nat) : List (List Int) := ((List.range k).map fun i : Nat => [(i : Int)]).drop (k - 500)
theorem Lm_length (k : Nat) : (Lm k).length = min k 500 := by simp [Lm]; omega
theorem Lm_last (k : Nat) : (Lm (k + 1)).getLast? = some [(k : Int)] := by
  have e : (List.range (k + 1)).map (fun i : Nat => [(i : Int)]) = (List.range k).map (fun i : Nat => [(i : Int)]) ++ [[(k : Int)]] := by rw [List.range_succ, List.map_append]; rfl
  unfold Lm
  rw [e, List.drop_append_of_le_length (by simp)]
  simp
theorem Lm_step (k : Nat) : addM (Lm k) [(k : Int)] = Lm (k + 1) := by
  have hl := Lm_length k
  have hne : ¬ ([(k : Int)] = [] ∨ (Lm k).getLast? = some [(k : Int)]) := by
    rintro (h | h)
    · cases h
    · cases k with
      | zero => simp [Lm] at h
      | succ k =>
        rw [Lm_last] at h
        injection h with h
        injection h with h
        omega
  unfold addM
  rw [if_neg hne, hl]
  have e : (List.range (k + 1)).map (fun i : Nat => [(i : Int)]) = (List.range k).map (fun i : Nat => [(i : Int)]) ++ [[(k : Int)]] := by rw [List.range_succ, List.map_append]; rfl
  have e2 : Lm k ++ [[(k : Int)]] = ((List.range (k + 1)).map (fun i : Nat => [(i : Int)])).drop (k - 500) := by
    rw [e, List.drop_append_of_le_length (by simp)]; rfl
  have e3 : k - 500 + (min k 500 + 1 - 500) = k + 1 - 500 := by omega
  rw [e2, List.drop_drop, e3]
  rfl
theorem Lm_same (k : Nat) : addM (Lm (k + 1)) [(k : Int)] = Lm (k + 1) := by unfold addM; rw [if_pos (.inr (Lm_last k))]
theorem addM_nil (L : List (List Int)) : addM L [] = L := by unfold addM; rw [if_pos (.inl rfl)]
theorem Lm_mem {k : Nat} {x : List Int} (h : x ∈ Lm k) : x.length = 1 := by
  have := List.mem_of_mem_drop h
  simp at this
  obtain ⟨_, _, rfl⟩ := this
  rfl
theorem Lm_rev (N i : Nat) (h : i < min N 500) : (Lm N).reverse[i]?.getD [] = [(N : Int) - 1 - i] := by
  have hl := Lm_length N
  rw [List.getElem?_reverse (by omega), hl]
  unfold Lm
  rw [List.getElem?_drop, List.getElem?_map, List.getElem?_range (by omega)]
  simp
  omega
end Go.Proofs.Ytcbachblhfkcoaa
