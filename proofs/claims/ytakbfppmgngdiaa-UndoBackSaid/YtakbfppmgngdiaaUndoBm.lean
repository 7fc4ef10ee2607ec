/-
  Plain: an edit that is done is undone; groups that grow by what is done undo to the beginning. No conditions; no program in sight.
-/
import Derived.Test.YtakbfppmgngdiaaUndoN
import Derived.Test.YtakbfppmgngdiaaUndoE
namespace Go.Proofs.Ytakbfppmgngdiaa

theorem do_back {e : Ed} {l l' : List Int} (h : doM e l = some l') : doM e.back l' = some l := by
  obtain ⟨at_, xo, xn⟩ := e
  unfold doM at h
  split at h
  · rename_i hc
    obtain ⟨h0, h1, h2⟩ := hc
    dsimp only at h0 h1 h2 h
    obtain ⟨a, rfl⟩ : ∃ a : Nat, at_ = a := ⟨at_.toNat, by omega⟩
    simp only [Int.toNat_natCast] at h2 h
    injection h with h
    have ha : a ≤ l.length := by omega
    have hta : (l.take a).length = a := by rw [List.length_take]; omega
    have hd : l' = l.take a ++ (xn ++ l.drop (a + xo.length)) := by rw [← h, List.append_assoc]
    have h3 : l'.drop a = xn ++ l.drop (a + xo.length) := by
      rw [hd, List.drop_append, hta, Nat.sub_self, List.drop_of_length_le (by omega)]
      simp
    have h4 : l'.take a = l.take a := by
      rw [hd, List.take_append, hta, Nat.sub_self]
      simp [List.take_take]
    have hlen : l'.length = a + xn.length + (l.length - (a + xo.length)) := by
      rw [hd, List.length_append, List.length_append, List.length_drop, hta]; omega
    have hb : doM (Ed.back ⟨(a : Int), xo, xn⟩) l' = doM ⟨(a : Int), xn, xo⟩ l' := rfl
    rw [hb]
    rw [doM_yes (a := a) (o := xn) (nw := xo) (l := l') (by omega) (by rw [h3]; simp)]
    congr 1
    rw [h4, ← List.drop_drop, h3, List.drop_append, Nat.sub_self, List.drop_of_length_le (Nat.le_refl _)]
    simp only [List.nil_append, List.drop_zero]
    rw [← List.drop_drop, List.append_assoc]
    conv => lhs; rhs; lhs; rw [← h2]
    rw [List.take_append_drop, List.take_append_drop]
  · cases h

/-- What the groups undo, whatever the cursor. -/
def BackTo (gs : List Grp) (now line : List Int) (first : Int) : Prop :=
  (gs = [] ∧ now = line ∧ first = 0) ∨ (gs ≠ [] ∧ ∀ c, allM gs now c = some (line, first))
theorem BackTo.all {gs : List Grp} {now line : List Int} {first : Int} (h : BackTo gs now line first) : allM gs now 0 = some (line, first) := by
  rcases h with ⟨rfl, rfl, rfl⟩ | ⟨_, h⟩
  · rfl
  · exact h 0
theorem BackTo.add {gs : List Grp} {now line next : List Int} {first cur : Int} {e : Ed} {join : Bool} (h : BackTo gs now line first) (hl : gs.length ≤ 100) (hd : doM e now = some next) :
    BackTo (addM gs e cur join) next line (if gs = [] then cur else first) := by
  have hb := do_back hd
  have hund : undoM ⟨[e], cur⟩ next = some now := by
    unfold undoM undoL
    simp only [List.reverse_singleton]
    rw [hb]; rfl
  by_cases hj : join = false ∨ gs = []
  · rw [addM_own e cur join hj, show gs.length + 1 - 1000 = 0 by omega, List.drop_zero]
    refine .inr ⟨by simp, fun c => ?_⟩
    rw [allM_snoc, hund]
    rcases h with ⟨rfl, rfl, rfl⟩ | ⟨h0, h1⟩
    · simp [allM_nil]
    · simp only [h1, if_neg h0]
  · have h0 : gs ≠ [] := fun h => hj (.inr h)
    have h1 : join = true := by cases join <;> simp_all
    subst h1
    rcases h with ⟨h, _⟩ | ⟨_, h2⟩
    · exact absurd h h0
    rw [if_neg h0, addM_join e cur (List.getLast?_eq_some_getLast h0)]
    refine .inr ⟨by simp, fun c => ?_⟩
    rw [allM_snoc]
    have h3 : gs = gs.dropLast ++ [gs.getLast h0] := (List.dropLast_concat_getLast h0).symm
    have h4 := h2 c
    rw [h3, allM_snoc] at h4
    have h5 : undoM ⟨(gs.getLast h0).es ++ [e], (gs.getLast h0).cur⟩ next = undoM (gs.getLast h0) now := by
      unfold undoM
      simp only [List.reverse_append, List.reverse_singleton, List.singleton_append]
      conv => lhs; unfold undoL
      rw [hb]
    rw [h5]
    exact h4
end Go.Proofs.Ytakbfppmgngdiaa
