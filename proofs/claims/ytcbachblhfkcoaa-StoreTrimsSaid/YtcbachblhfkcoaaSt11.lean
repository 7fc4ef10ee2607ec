/-
  package store: what was laid is read, torn off or not. Plain lemmas, no program.
-/
import Derived.Test.YtcbachblhfkcoaaSt3
namespace Go.Proofs.Ytcbachblhfkcoaa

theorem fixM_id {x : Int} (h : validB x = true) : fixM x = x := if_pos h
theorem fixM_fixM (r : Int) : fixM (fixM r) = fixM r := fixM_id (fixM_valid r)
theorem encM_fix (l : List Int) : encM (l.map fixM) = encM l := by
  unfold encM
  rw [List.flatMap_map]
  congr 1
  funext r
  unfold putM
  rw [fixM_fixM]
theorem escB_no10 : ∀ t : List Int, ∀ b ∈ escB t, b ≠ 10
  | [], b, hb => by cases hb
  | c :: t, b, hb => by
    rw [escB_cons] at hb
    rcases List.mem_append.1 hb with h | h
    · unfold escB1 at h
      split at h
      · simp at h; omega
      · split at h
        · simp at h; omega
        · simp at h; omega
    · exact escB_no10 t b h
/-- An entry, without its end. -/
def bodyM (l : List Int) : List Int := chk2 (textM l) ++ [32] ++ textM l
theorem entryM_body (l : List Int) : entryM l = bodyM l ++ [10] := rfl
theorem bodyM_no10 (l : List Int) : ∀ b ∈ bodyM l, b ≠ 10 := by
  intro b hb
  unfold bodyM at hb
  rcases List.mem_append.1 hb with h | h
  · rcases List.mem_append.1 h with h | h
    · have hr := chkM_range (textM l)
      simp [chk2, hexD] at h
      rcases h with rfl | rfl <;> split <;> omega
    · simp at h; omega
  · rw [textM_escB] at h
    exact escB_no10 _ b h
theorem bodyM_read (l : List Int) : slM (bodyM l) = some (l.map fixM) := by
  have hd : (bodyM l).drop 3 = textM l := by
    unfold bodyM
    exact List.drop_left' (by simp [chk2])
  have ht : (bodyM l).take 2 = chk2 (textM l) := by
    unfold bodyM
    rw [List.append_assoc]
    exact List.take_left' (by simp [chk2])
  have h2 : (bodyM l)[2]?.getD 0 = 32 := by simp [bodyM, chk2]
  have hl : 3 ≤ (bodyM l).length := by simp [bodyM, chk2]
  unfold slM
  rw [if_pos ⟨hl, h2, by rw [hd, ht]⟩, hd, textM_escB, unM_escB]
  dsimp only
  rw [dec_enc, encM_fix, if_pos rfl]
theorem span_body (l rest : List Int) : spanG notL (entryM l ++ rest) = (bodyM l).length := by
  have h : ∀ (s t : List Int), (∀ b ∈ s, b ≠ 10) → spanG notL (s ++ 10 :: t) = s.length := by
    intro s t hs
    induction s with
    | nil => rfl
    | cons c u ih =>
      rw [List.cons_append, spanG_cons, if_pos (by unfold notL; exact decide_eq_true (hs c (by simp))), ih fun b hb => hs b (by simp [hb])]
      rfl
  rw [entryM_body, List.append_assoc]
  exact h _ _ (bodyM_no10 l)
theorem read_entry (l rest : List Int) : readF (entryM l ++ rest) = (l.map fixM :: (readF rest).1, (entryM l).length + (readF rest).2) := by
  have hs := span_body l rest
  have hlen : (entryM l).length = (bodyM l).length + 1 := by rw [entryM_body]; simp
  rw [readF_eq, hs, if_neg (by rw [List.length_append]; omega)]
  have htk : (entryM l ++ rest).take (bodyM l).length = bodyM l := by
    rw [entryM_body, List.append_assoc]
    exact List.take_left' rfl
  have hdr : (entryM l ++ rest).drop ((bodyM l).length + 1) = rest := List.drop_left' hlen
  rw [htk, hdr, bodyM_read]
  dsimp only
  rw [hlen]
/-- The store of lines. -/
def allM (L : List (List Int)) : List Int := L.flatMap entryM
theorem allM_cons (l : List Int) (L : List (List Int)) : allM (l :: L) = entryM l ++ allM L := by simp [allM]
theorem allM_snoc (L : List (List Int)) (l : List Int) : allM (L ++ [l]) = allM L ++ entryM l := by simp [allM]
theorem allM_bd (L : List (List Int)) : isB (allM L) := by
  intro b hb
  obtain ⟨r, _, hr⟩ := List.mem_flatMap.1 hb
  exact entryM_bd r b hr
theorem read_all : ∀ L : List (List Int), readF (allM L) = (L.map (·.map fixM), (allM L).length)
  | [] => rfl
  | l :: L => by
    rw [allM_cons, read_entry, read_all L, List.length_append]
    rfl
/-- How many entries are whole ahead of a place, and how many bytes these have. -/
def wholeM : List (List Int) → Nat → Nat × Nat
  | [], _ => (0, 0)
  | l :: L, c => if (entryM l).length ≤ c then ((wholeM L (c - (entryM l).length)).1 + 1, (entryM l).length + (wholeM L (c - (entryM l).length)).2) else (0, 0)
theorem span_short {l : List Int} {c : Nat} (h : c < (entryM l).length) (rest : List Int) : spanG notL ((entryM l ++ rest).take c) = ((entryM l ++ rest).take c).length := by
  have hlen : (entryM l).length = (bodyM l).length + 1 := by rw [entryM_body]; simp
  have hsub : (entryM l ++ rest).take c = (bodyM l).take c := by
    rw [entryM_body, List.append_assoc, List.take_append_of_le_length (by omega)]
  rw [hsub]
  have : ∀ (s : List Int), (∀ b ∈ s, b ≠ 10) → spanG notL s = s.length := by
    intro s hs
    induction s with
    | nil => rfl
    | cons x u ih =>
      rw [spanG_cons, if_pos (by unfold notL; exact decide_eq_true (hs x (by simp))), ih fun b hb => hs b (by simp [hb])]
      rfl
  exact this _ fun b hb => bodyM_no10 l b (List.mem_of_mem_take hb)
theorem read_torn : ∀ (L : List (List Int)) (c : Nat), readF ((allM L).take c) = ((L.map (·.map fixM)).take (wholeM L c).1, (wholeM L c).2)
  | [], c => by simp [allM, wholeM, readF, readG]
  | l :: L, c => by
    rw [allM_cons, wholeM]
    by_cases h : (entryM l).length ≤ c
    · rw [if_pos h, List.take_append, List.take_of_length_le h, read_entry, read_torn L]
      rfl
    · rw [if_neg h, readF_eq, if_pos (span_short (by omega) _)]
      rfl
/-- One entry more that is whole. -/
theorem whole_le : ∀ (L : List (List Int)) (c : Nat), (wholeM L c).1 ≤ L.length ∧ (wholeM L c).2 ≤ c ∧ (wholeM L c).2 = (allM (L.take (wholeM L c).1)).length
  | [], c => by simp [wholeM, allM]
  | l :: L, c => by
    rw [wholeM]
    by_cases h : (entryM l).length ≤ c
    · rw [if_pos h]
      have ih := whole_le L (c - (entryM l).length)
      refine ⟨by simp; omega, by dsimp only; omega, ?_⟩
      dsimp only
      rw [List.take_succ_cons, allM_cons, List.length_append, ← ih.2.2]
    · rw [if_neg h]; simp [allM]
/-- The loop's end is that of wholeM. -/
theorem whole_at : ∀ (L : List (List Int)) (c k : Nat), k ≤ L.length → (allM (L.take k)).length ≤ c → (k = L.length ∨ c < (allM (L.take (k + 1))).length) → wholeM L c = (k, (allM (L.take k)).length)
  | [], c, k, hk, _, _ => by
    simp at hk
    subst hk
    simp [wholeM, allM]
  | l :: L, c, k, hk, h1, h2 => by
    rw [wholeM]
    cases k with
    | zero =>
      have : c < (entryM l).length := by
        rcases h2 with h | h
        · simp at h
        · simpa [allM] using h
      rw [if_neg (by omega)]
      simp [allM]
    | succ k =>
      rw [List.take_succ_cons, allM_cons, List.length_append] at h1 ⊢
      rw [if_pos (by omega), whole_at L (c - (entryM l).length) k (by simpa using hk) (by omega) (by
        rcases h2 with h | h
        · left; simpa using h
        · right; rw [List.take_succ_cons, allM_cons, List.length_append] at h; omega)]
end Go.Proofs.Ytcbachblhfkcoaa
