/-
  What is pasted, plainly: behind the bytes that open a paste the parser holds what came, and tells it at its end. Plain lemmas, no program.
-/
import Derived.Test.YtmeefngkbcfpeaaKeI
namespace Go.Proofs.Ytmeefngkbcfpeaa

/-- How a paste opens. -/
def openM : List Int := [27, 91, 50, 48, 48, 126]
/-- The end does not stand within. -/
def noEnd (s : List Int) : Prop := ∀ i, i + 6 ≤ s.length → (s.drop i).take 6 ≠ endsM
theorem last6_len {l : List Int} (h : l.drop (l.length - 6) = endsM) : 6 ≤ l.length := by
  have := congrArg List.length h
  rw [List.length_drop] at this
  simp [endsM] at this
  omega
theorem noEnd_last {s : List Int} (h : noEnd s) (j : Nat) (hj : j < s.length + 6) : ¬ (((s ++ endsM).take j).drop (((s ++ endsM).take j).length - 6) = endsM) := by
  intro he
  have h6 := last6_len he
  have hl : ((s ++ endsM).take j).length = j := by rw [List.length_take, List.length_append]; have : endsM.length = 6 := rfl; omega
  rw [hl] at he h6
  rw [List.drop_take, show j - (j - 6) = 6 by omega] at he
  rcases Nat.lt_or_ge s.length j with hlt | hge
  · have h0 : ((s ++ endsM).drop (j - 6))[s.length - (j - 6)]? = some 27 := by
      rw [List.getElem?_drop, show j - 6 + (s.length - (j - 6)) = s.length by omega, List.getElem?_append_right (Nat.le_refl _), Nat.sub_self]; rfl
    have h1 : (((s ++ endsM).drop (j - 6)).take 6)[s.length - (j - 6)]? = some 27 := by rw [List.getElem?_take, if_pos (by omega)]; exact h0
    rw [he] at h1
    obtain ⟨o, ho⟩ : ∃ o, o = s.length - (j - 6) := ⟨_, rfl⟩
    rw [← ho] at h1
    have ho1 : 1 ≤ o ∧ o ≤ 5 := by omega
    obtain rfl | rfl | rfl | rfl | rfl : o = 1 ∨ o = 2 ∨ o = 3 ∨ o = 4 ∨ o = 5 := by omega
    all_goals simp [endsM] at h1
  · refine h (j - 6) (by omega) ?_
    rw [← he, List.drop_append_of_le_length (by omega), List.take_append_of_le_length (by rw [List.length_drop]; omega)]
theorem feeds_open : feedsP Pm.zero openM = (⟨4, false, Dm.zero, []⟩, []) := by decide +kernel
theorem feeds_paste : ∀ (n : Nat) (t : List Int), t.length = n → (∀ j, j ≤ t.length → ¬ ((t.take j).drop ((t.take j).length - 6) = endsM)) → feedsP Pm.zero (openM ++ t) = (⟨4, false, Dm.zero, t⟩, [])
  | 0, t, h, _ => by
    obtain rfl : t = [] := List.eq_nil_of_length_eq_zero h
    rw [List.append_nil]; exact feeds_open
  | n + 1, t, h, hne => by
    have hn : t ≠ [] := by rintro rfl; simp at h
    obtain ⟨u, b, rfl⟩ : ∃ u b, t = u ++ [b] := ⟨t.dropLast, t.getLast hn, (List.dropLast_concat_getLast hn).symm⟩
    have hu : u.length = n := by simpa using h
    have ih := feeds_paste n u hu (fun j hj => by
      have := hne j (by simp; omega)
      rwa [List.take_append_of_le_length hj] at this)
    have hlast := hne (u ++ [b]).length (Nat.le_refl _)
    rw [List.take_length] at hlast
    rw [← List.append_assoc, feedsP_snoc, ih]
    have hf : feedP ⟨4, false, Dm.zero, u⟩ b = (⟨4, false, Dm.zero, u ++ [b]⟩, []) := by
      unfold feedP pasteM
      simp only []
      rw [if_neg (by omega), if_neg (by omega), if_neg (by omega), if_pos trivial, if_neg hlast]
    rw [hf]
    rfl
theorem open_keys : ∀ k : Fin 6, (feedP (feedsP Pm.zero (openM.take k.1)).1 (openM[k.1]?.getD 0)).2 = [] := by decide +kernel
/-- The parser before each byte of a paste, and what the byte makes known. -/
theorem paste_state {s : List Int} (h : noEnd s) {k : Nat} {x : Int} (hx : (openM ++ s ++ endsM)[k]? = some x) :
    (6 ≤ k → (feedsP Pm.zero ((openM ++ s ++ endsM).take k)).1.inn = 4) ∧ (k + 1 < s.length + 12 → (feedP (feedsP Pm.zero ((openM ++ s ++ endsM).take k)).1 x).2 = []) ∧
    (k + 1 = s.length + 12 → feedP (feedsP Pm.zero ((openM ++ s ++ endsM).take k)).1 x = (Pm.zero, [⟨4, 0, false, decodeM s⟩])) := by
  have hol : openM.length = 6 := rfl
  have hel : endsM.length = 6 := rfl
  have hk : k < s.length + 12 := by have := (List.getElem?_eq_some_iff.1 hx).1; simp at this; omega
  rw [List.append_assoc] at hx ⊢
  rcases Nat.lt_or_ge k 6 with h6 | h6
  · refine ⟨fun h => absurd h (by omega), fun _ => ?_, fun h => by omega⟩
    rw [List.getElem?_append_left (by omega)] at hx
    rw [List.take_append_of_le_length (by omega)]
    have := open_keys ⟨k, h6⟩
    dsimp only at this
    rw [hx] at this
    exact this
  · obtain ⟨j, rfl⟩ : ∃ j, k = 6 + j := ⟨k - 6, by omega⟩
    have hst : feedsP Pm.zero ((openM ++ (s ++ endsM)).take (6 + j)) = (⟨4, false, Dm.zero, (s ++ endsM).take j⟩, []) := by
      rw [show 6 + j = openM.length + j from rfl, List.take_length_add_append]
      refine feeds_paste _ _ rfl (fun i hi => ?_)
      have hi2 : i ≤ j := by rw [List.length_take] at hi; omega
      rw [List.take_take, Nat.min_eq_left hi2]
      exact noEnd_last h i (by omega)
    rw [hst]
    rw [List.getElem?_append_right (by omega), hol, show 6 + j - 6 = j by omega] at hx
    have hsnoc : (s ++ endsM).take j ++ [x] = (s ++ endsM).take (j + 1) := by
      have hj : j < (s ++ endsM).length := (List.getElem?_eq_some_iff.1 hx).1
      rw [List.take_succ_eq_append_getElem hj, (List.getElem?_eq_some_iff.1 hx).2]
    have hf : ∀ u : List Int, feedP ⟨4, false, Dm.zero, u⟩ x = pasteM ⟨4, false, Dm.zero, u⟩ x := fun u => by
      unfold feedP
      simp only []
      rw [if_neg (by omega), if_neg (by omega), if_neg (by omega), if_pos trivial]
    rw [hf]
    unfold pasteM
    dsimp only
    rw [hsnoc]
    refine ⟨fun _ => rfl, fun hlt => ?_, fun heq => ?_⟩
    · rw [if_neg (noEnd_last h (j + 1) (by omega))]
    · have hall : (s ++ endsM).take (j + 1) = s ++ endsM := List.take_of_length_le (by rw [List.length_append]; omega)
      rw [hall]
      have hlen : (s ++ endsM).length - 6 = s.length := by rw [List.length_append]; omega
      rw [hlen, List.drop_left, if_pos rfl, List.take_left]
end Go.Proofs.Ytmeefngkbcfpeaa
