/-
  Package past, Expand: what a text becomes, step by step. Plain lemmas, no program.
-/
import Derived.Test.YtcbachblhfkcoaaExF
namespace Go.Proofs.Ytcbachblhfkcoaa

theorem exM_fuel (L : List (List Int)) : ∀ (n m : Nat) (s : List Int), s.length ≤ n → s.length ≤ m → exM L n s = exM L m s
  | 0, m, s, h, _ => by
    obtain rfl : s = [] := List.eq_nil_of_length_eq_zero (by omega)
    cases m <;> rfl
  | n + 1, m, [], _, _ => by cases m <;> rfl
  | n + 1, 0, c :: t, _, h => by simp at h
  | n + 1, m + 1, c :: t, h, k => by
    simp only [List.length_cons] at h k
    unfold exM
    rw [exM_fuel L n m t (by omega) (by omega), exM_fuel L n m t.tail (by rw [List.length_tail]; omega) (by rw [List.length_tail]; omega)]
    split
    · rfl
    · split
      · rfl
      · cases eventM L t with
        | none => rfl
        | some p => dsimp only; rw [exM_fuel L n m (t.drop p.2) (by rw [List.length_drop]; omega) (by rw [List.length_drop]; omega)]
/-- What a text becomes. -/
def exF (L : List (List Int)) (s : List Int) : Option (List Int) := exM L s.length s
theorem exF_nil (L : List (List Int)) : exF L [] = some [] := rfl
theorem exF_esc (L : List (List Int)) (t : List Int) : exF L (92 :: 33 :: t) = (exF L t).map ([33] ++ ·) := by
  unfold exF
  show exM L (t.length + 2) _ = _
  rw [exM, if_pos ⟨rfl, rfl⟩, List.tail_cons, exM_fuel L (t.length + 1) t.length t (by omega) (by omega)]
  rfl
theorem exF_chr (L : List (List Int)) {c : Int} {t : List Int} (h : c ≠ 33) (h2 : ¬ (c = 92 ∧ t.head? = some 33)) : exF L (c :: t) = (exF L t).map ([c] ++ ·) := by
  unfold exF
  show exM L (t.length + 1) _ = _
  rw [exM, if_neg h2, if_pos h]
  rfl
theorem exF_no (L : List (List Int)) {t : List Int} (h : eventM L t = none) : exF L (33 :: t) = none := by
  unfold exF
  show exM L (t.length + 1) _ = _
  rw [exM, if_neg (fun h => absurd h.1 (by decide)), if_neg (by simp), h]
theorem exF_ev (L : List (List Int)) {t l : List Int} {k : Nat} (h : eventM L t = some (l, k)) : exF L (33 :: t) = (exF L (t.drop k)).map ((if k = 0 then [33] else l) ++ ·) := by
  unfold exF
  show exM L (t.length + 1) _ = _
  rw [exM, if_neg (fun h => absurd h.1 (by decide)), if_neg (by simp), h]
  dsimp only
  rw [exM_fuel L t.length (t.drop k).length (t.drop k) (by rw [List.length_drop]; omega) (by omega)]
theorem adv {a b c : Option (List Int)} {o y : List Int} (h1 : a = b.map (o ++ ·)) (h2 : b = c.map (y ++ ·)) : a = c.map ((o ++ y) ++ ·) := by
  rw [h1, h2, Option.map_map]
  congr 1
  funext z
  simp
theorem advN {a b : Option (List Int)} {o : List Int} (h1 : a = b.map (o ++ ·)) (h2 : b = none) : a = none := by rw [h1, h2]; rfl

theorem pickM_mem {L : List (List Int)} {i : Int} {l : List Int} (h : pickM L i = some l) : l ∈ L := by
  unfold pickM at h
  split at h
  · rename_i hi
    injection h with h
    rw [← h, List.getElem?_eq_getElem (by omega)]
    exact List.getElem_mem _
  · cases h
theorem newM_mem {L : List (List Int)} {f : List Int → Bool} {l : List Int} (h : newM L f = some l) : l ∈ L := by
  unfold newM at h
  simpa using List.mem_of_find?_eq_some h
/-- The line is one of the lines, and no more is taken than is there. -/
theorem eventM_ok {L : List (List Int)} {t l : List Int} {k : Nat} (h : eventM L t = some (l, k)) : k ≤ t.length ∧ (l = [] ∨ l ∈ L) ∧ (k = 0 → l = []) := by
  cases t with
  | nil => cases h; exact ⟨by simp, .inl rfl, fun _ => rfl⟩
  | cons c t =>
    rw [eventM_cons] at h
    have hm : ∀ {o : Option (List Int)} {kk : Nat}, o.map (·, kk) = some (l, k) → o = some l ∧ kk = k := by
      intro o kk h
      cases o with
      | none => cases h
      | some x => cases h; exact ⟨rfl, rfl⟩
    split at h
    · obtain ⟨h1, rfl⟩ := hm h
      exact ⟨by simp, .inr (pickM_mem h1), fun h => by omega⟩
    split at h
    · obtain ⟨h1, rfl⟩ := hm h
      exact ⟨numM_le _, .inr (pickM_mem h1), fun h => by omega⟩
    split at h
    · obtain ⟨h1, rfl⟩ := hm h
      have := numM_le t
      exact ⟨by simp; omega, .inr (pickM_mem h1), fun h => by omega⟩
    split at h
    · obtain ⟨h1, rfl⟩ := hm h
      exact ⟨by simp; split <;> omega, .inr (newM_mem h1), fun h => by split at h <;> omega⟩
    split at h
    · cases h; exact ⟨by simp, .inl rfl, fun _ => rfl⟩
    · obtain ⟨h1, rfl⟩ := hm h
      exact ⟨spanG_le _ _, .inr (newM_mem h1), fun h => by omega⟩
end Go.Proofs.Ytcbachblhfkcoaa
