/-
  Plain: groups of one edit each, each one letter more: the newest thousand of them, and what they undo. No program in sight.
-/
import Derived.Test.YtakbfppmgngdiaaUndoL
namespace Go.Proofs.Ytakbfppmgngdiaa

/-- The i-th group. -/
def g1M (i : Nat) : Grp := ⟨[⟨(i : Int), [], [120]⟩], (i : Int)⟩
/-- Behind k edits. -/
def GmM (k : Nat) : List Grp := ((List.range k).map g1M).drop (k - 1000)
theorem GmM_length (k : Nat) : (GmM k).length = min k 1000 := by unfold GmM; simp; omega
theorem GmM_step (k : Nat) : addM (GmM k) ⟨(k : Int), [], [120]⟩ (k : Int) false = GmM (k + 1) := by
  rw [addM_own _ _ _ (.inl rfl), GmM_length]
  unfold GmM
  have e : (List.range (k + 1)).map g1M = (List.range k).map g1M ++ [g1M k] := by rw [List.range_succ, List.map_append]; rfl
  have e2 : ((List.range k).map g1M).drop (k - 1000) ++ [(⟨[⟨(k : Int), [], [120]⟩], (k : Int)⟩ : Grp)] = ((List.range (k + 1)).map g1M).drop (k - 1000) := by
    rw [e, List.drop_append_of_le_length (by simp)]; rfl
  have e3 : k - 1000 + (min k 1000 + 1 - 1000) = k + 1 - 1000 := by omega
  rw [e2, List.drop_drop, e3]
theorem GmM_mem {k : Nat} {g : Grp} (h : g ∈ GmM k) : ∃ i, g = g1M i ∧ i < k := by
  have := List.mem_of_mem_drop h
  simp at this
  obtain ⟨i, hi, rfl⟩ := this
  exact ⟨i, rfl, hi⟩
theorem tot_le {gs : List Grp} (h : ∀ g ∈ gs, g.es.length ≤ 1) : tot gs ≤ gs.length := by
  induction gs with
  | nil => simp [tot]
  | cons g r ih =>
    have h1 := h g (by simp)
    have h2 := ih fun x hx => h x (by simp [hx])
    simp only [tot, List.length_cons]
    omega
theorem GmM_tot (k : Nat) : tot (GmM k) ≤ 2000 := by
  have h1 := tot_le (gs := GmM k) fun g hg => by obtain ⟨i, rfl, _⟩ := GmM_mem hg; simp [g1M]
  have := GmM_length k
  omega
theorem GmM_ok {k : Nat} (hk : k ≤ 100000) : ∀ g ∈ GmM k, okG g := fun g hg e he => by
  obtain ⟨i, rfl, hi⟩ := GmM_mem hg
  simp [g1M] at he
  subst he
  refine ⟨by simp, by simp, ?_⟩
  show (i : Int) ≤ _
  omega
theorem undo_g1M (k : Nat) : undoM (g1M k) (List.replicate (k + 1) 120) = some (List.replicate k 120) := by
  have h : doM (Ed.back ⟨(k : Int), [], [120]⟩) (List.replicate (k + 1) 120) = some (List.replicate k 120) := by
    have h1 := doM_yes (a := k) (o := [120]) (nw := []) (l := List.replicate (k + 1) 120) (by simp) (by simp)
    refine h1.trans ?_
    simp
  unfold undoM undoL g1M
  simp only [List.reverse_singleton]
  rw [h]
  rfl
theorem all_GmM : ∀ (k d : Nat) (c : Int), d ≤ k → allM (((List.range k).map g1M).drop d) (List.replicate k 120) c = some (List.replicate d 120, if k = d then c else (d : Int))
  | 0, d, c, h => by
    obtain rfl : d = 0 := by omega
    rfl
  | k + 1, d, c, h => by
    by_cases hd : d = k + 1
    · subst hd
      rw [List.drop_of_length_le (by simp), allM_nil, if_pos rfl]
    · rw [List.range_succ, List.map_append, List.drop_append_of_le_length (by simp; omega), List.map_singleton, allM_snoc, undo_g1M]
      rw [if_neg (by omega)]
      show allM _ _ (g1M k).cur = _
      rw [all_GmM k d _ (by omega)]
      by_cases hk : k = d
      · subst hk; rw [if_pos rfl]; rfl
      · rw [if_neg hk]
theorem GmM_all (N : Nat) (h : 0 < N) : allM (GmM N) (List.replicate N 120) (N : Int) = some (List.replicate (N - 1000) 120, ((N - 1000 : Nat) : Int)) := by
  unfold GmM
  rw [all_GmM N _ _ (by omega), if_neg (by omega)]
end Go.Proofs.Ytakbfppmgngdiaa
