/-
  package store, reading: what a line's text says, which lines a store has. Plain definitions and lemmas, no program.
-/
import Derived.Test.YtcbachblhfkcoaaSt2
import Derived.Test.YtcbachblhfkcoaaExM
namespace Go.Proofs.Ytcbachblhfkcoaa

/-- The bytes that a text stands for. -/
def unG : Nat → List Int → Option (List Int)
  | 0, _ => some []
  | _ + 1, [] => some []
  | n + 1, c :: t => if c = 92 then (if t.head? = some 110 then (unG n t.tail).map (10 :: ·) else if t.head? = some 92 then (unG n t.tail).map (92 :: ·) else none) else (unG n t).map (c :: ·)
theorem unG_fuel : ∀ (n m : Nat) (s : List Int), s.length ≤ n → s.length ≤ m → unG n s = unG m s
  | 0, m, s, h, _ => by
    obtain rfl : s = [] := List.eq_nil_of_length_eq_zero (by omega)
    cases m <;> rfl
  | n + 1, m, [], _, _ => by cases m <;> rfl
  | n + 1, 0, c :: t, _, h => by simp at h
  | n + 1, m + 1, c :: t, h, k => by
    simp only [List.length_cons] at h k
    unfold unG
    rw [unG_fuel n m t (by omega) (by omega), unG_fuel n m t.tail (by rw [List.length_tail]; omega) (by rw [List.length_tail]; omega)]
def unM (s : List Int) : Option (List Int) := unG s.length s
theorem unM_nil : unM [] = some [] := rfl
theorem unM_n (t : List Int) : unM (92 :: 110 :: t) = (unM t).map ([10] ++ ·) := by
  unfold unM
  show unG (t.length + 2) _ = _
  rw [unG, if_pos rfl, if_pos (by simp), List.tail_cons, unG_fuel (t.length + 1) t.length t (by omega) (by omega)]
  rfl
theorem unM_b (t : List Int) : unM (92 :: 92 :: t) = (unM t).map ([92] ++ ·) := by
  unfold unM
  show unG (t.length + 2) _ = _
  rw [unG, if_pos rfl, if_neg (by simp), if_pos (by simp), List.tail_cons, unG_fuel (t.length + 1) t.length t (by omega) (by omega)]
  rfl
theorem unM_bad {t : List Int} (h1 : t.head? ≠ some 110) (h2 : t.head? ≠ some 92) : unM (92 :: t) = none := by
  unfold unM
  show unG (t.length + 1) _ = _
  rw [unG, if_pos rfl, if_neg h1, if_neg h2]
theorem unM_c {c : Int} (t : List Int) (h : c ≠ 92) : unM (c :: t) = (unM t).map ([c] ++ ·) := by
  unfold unM
  show unG (t.length + 1) _ = _
  rw [unG, if_neg h]
  rfl
theorem advU {a b c : Option (List Int)} {o y : List Int} (h1 : a = b.map (o ++ ·)) (h2 : b = c.map (y ++ ·)) : a = c.map ((o ++ y) ++ ·) := by
  rw [h1, h2, Option.map_map]
  congr 1
  funext z
  simp

/-- Bytes, as a text has them. -/
def escB1 (b : Int) : List Int := if b = 10 then [92, 110] else if b = 92 then [92, 92] else [b]
def escB (t : List Int) : List Int := t.flatMap escB1
theorem escB_cons (b : Int) (t : List Int) : escB (b :: t) = escB1 b ++ escB t := by simp [escB]
theorem escB_app (s t : List Int) : escB (s ++ t) = escB s ++ escB t := by simp [escB]
theorem escB_id : ∀ {t : List Int}, (∀ b ∈ t, b ≠ 10 ∧ b ≠ 92) → escB t = t
  | [], _ => rfl
  | b :: t, h => by
    have hb := h b (by simp)
    rw [escB_cons, escB_id fun x hx => h x (by simp [hx])]
    unfold escB1
    rw [if_neg hb.1, if_neg hb.2]
    rfl
theorem putI_ne {n x : Int} (hx : x < 128) (hne : n ≠ x) : ∀ b ∈ putI n, b ≠ x := by
  intro b hb
  unfold putI at hb
  split at hb
  · simp at hb; omega
  · split at hb
    · simp at hb; omega
    · split at hb
      · simp at hb; omega
      · simp at hb; omega
theorem fixM_ne {r x : Int} (hx : x < 128) (hne : r ≠ x) : fixM r ≠ x := by
  unfold fixM
  split
  · exact hne
  · omega
theorem escM_escB (r : Int) : escM r = escB (putM r) := by
  unfold escM
  by_cases h1 : r = 10
  · subst h1; rfl
  · by_cases h2 : r = 92
    · subst h2; rfl
    · rw [if_neg h1, if_neg h2, escB_id]
      intro b hb
      exact ⟨putI_ne (by omega) (fixM_ne (by omega) h1) b hb, putI_ne (by omega) (fixM_ne (by omega) h2) b hb⟩
theorem textM_escB : ∀ l : List Int, textM l = escB (encM l)
  | [] => rfl
  | r :: t => by
    have e1 : textM (r :: t) = escM r ++ textM t := by simp [textM]
    have e2 : encM (r :: t) = putM r ++ encM t := by simp [encM]
    rw [e1, e2, escB_app, ← escM_escB, textM_escB t]
theorem unM_escB : ∀ t : List Int, unM (escB t) = some t
  | [] => rfl
  | b :: t => by
    rw [escB_cons]
    unfold escB1
    by_cases h1 : b = 10
    · rw [if_pos h1]
      show unM (92 :: 110 :: escB t) = _
      rw [unM_n, unM_escB t, h1]
      rfl
    · rw [if_neg h1]
      by_cases h2 : b = 92
      · rw [if_pos h2]
        show unM (92 :: 92 :: escB t) = _
        rw [unM_b, unM_escB t, h2]
        rfl
      · rw [if_neg h2]
        show unM (b :: escB t) = _
        rw [unM_c _ h2, unM_escB t]
        rfl
theorem escB_unM : ∀ (n : Nat) (s t : List Int), s.length ≤ n → (∀ b ∈ s, b ≠ 10) → unM s = some t → escB t = s
  | _, [], t, _, _, h => by cases h; rfl
  | 0, c :: s, t, h, _, _ => by simp at h
  | n + 1, c :: s, t, hn, hs, h => by
    simp only [List.length_cons] at hn
    by_cases hc : c = 92
    · subst hc
      cases s with
      | nil => rw [unM_bad (by simp) (by simp)] at h; cases h
      | cons d u =>
        simp only [List.length_cons] at hn
        have hu : ∀ b ∈ u, b ≠ 10 := fun b hb => hs b (by simp [hb])
        by_cases h1 : d = 110
        · subst h1
          rw [unM_n] at h
          cases hq : unM u with
          | none => rw [hq] at h; cases h
          | some q =>
            rw [hq] at h
            cases h
            show escB (10 :: q) = _
            rw [escB_cons, escB_unM n u q (by omega) hu hq]
            rfl
        · by_cases h2 : d = 92
          · subst h2
            rw [unM_b] at h
            cases hq : unM u with
            | none => rw [hq] at h; cases h
            | some q =>
              rw [hq] at h
              cases h
              show escB (92 :: q) = _
              rw [escB_cons, escB_unM n u q (by omega) hu hq]
              rfl
          · rw [unM_bad (by simpa using h1) (by simpa using h2)] at h; cases h
    · rw [unM_c _ hc] at h
      cases hq : unM s with
      | none => rw [hq] at h; cases h
      | some q =>
        rw [hq] at h
        cases h
        show escB (c :: q) = _
        rw [escB_cons, escB_unM n s q (by omega) (fun b hb => hs b (by simp [hb])) hq]
        unfold escB1
        rw [if_neg (hs c (by simp)), if_neg hc]
        rfl

/-- The line whose entry a text is, without its end. -/
def slM (s : List Int) : Option (List Int) :=
  if 3 ≤ s.length ∧ s[2]?.getD 0 = 32 ∧ s.take 2 = chk2 (s.drop 3) then
    match unM (s.drop 3) with
    | some t => if encM (decodeM t) = t then some (decodeM t) else none
    | none => none
  else none
def slR (s : List Int) : Option (List Int) :=
  if 3 ≤ s.length ∧ s[2]?.getD 0 = 32 then
    match unM (s.drop 3) with
    | some t => if entryM (decR t) = s ++ [10] then some (decR t) else none
    | none => none
  else none
theorem entry_iff {s l : List Int} (h3 : 3 ≤ s.length) (h2 : s[2]?.getD 0 = 32) : entryM l = s ++ [10] ↔ (s.take 2 = chk2 (s.drop 3) ∧ textM l = s.drop 3) := by
  have hs : s = s.take 2 ++ [32] ++ s.drop 3 := by
    match s, h3, h2 with
    | a :: b :: c :: t, _, h2 => simp at h2; simp [h2]
  unfold entryM
  constructor
  · intro h
    have h1 := List.append_cancel_right h
    have hl : (chk2 (textM l) ++ [32]).length = 3 := by simp [chk2]
    have h4 : textM l = s.drop 3 := by rw [← h1, List.drop_left' hl]
    refine ⟨?_, h4⟩
    rw [← h4, ← h1, List.append_assoc, List.take_left' (by simp [chk2])]
  · rintro ⟨h1, h4⟩
    rw [h4, ← h1, ← hs]
theorem slR_eq {s : List Int} (hs : ∀ b ∈ s, b ≠ 10) : slR s = slM s := by
  unfold slR slM
  by_cases h : 3 ≤ s.length ∧ s[2]?.getD 0 = 32
  · rw [if_pos h]
    cases hu : unM (s.drop 3) with
    | none => dsimp only; split <;> rfl
    | some t =>
      dsimp only
      rw [← decode_law]
      have hd : ∀ b ∈ s.drop 3, b ≠ 10 := fun b hb => hs b (List.mem_of_mem_drop hb)
      have he := escB_unM _ _ _ (Nat.le_refl _) hd hu
      have hiff := entry_iff (l := decodeM t) h.1 h.2
      have ht : textM (decodeM t) = s.drop 3 ↔ encM (decodeM t) = t := by
        rw [textM_escB, ← he]
        constructor
        · intro e
          have := congrArg unM e
          rw [unM_escB, unM_escB] at this
          injection this
        · intro e; rw [e]
      by_cases hc : s.take 2 = chk2 (s.drop 3)
      · rw [if_pos (show 3 ≤ s.length ∧ s[2]?.getD 0 = 32 ∧ s.take 2 = chk2 (s.drop 3) from ⟨h.1, h.2, hc⟩)]
        by_cases hx : encM (decodeM t) = t
        · rw [if_pos hx, if_pos (hiff.2 ⟨hc, ht.2 hx⟩)]
        · rw [if_neg hx, if_neg (fun e => hx (ht.1 (hiff.1 e).2))]
      · rw [if_neg (show ¬ (3 ≤ s.length ∧ s[2]?.getD 0 = 32 ∧ s.take 2 = chk2 (s.drop 3)) from fun e => hc e.2.2), if_neg (fun e => hc (hiff.1 e).1)]
  · rw [if_neg h, if_neg (fun e => h ⟨e.1, e.2.1⟩)]

/-- How many bytes stand ahead of the next line feed. -/
def notL (c : Int) : Bool := decide (c ≠ 10)
def readG : Nat → List Int → List (List Int) × Nat
  | 0, _ => ([], 0)
  | n + 1, s => if spanG notL s = s.length then ([], 0) else match slM (s.take (spanG notL s)) with
    | none => ([], 0)
    | some l => (l :: (readG n (s.drop (spanG notL s + 1))).1, spanG notL s + 1 + (readG n (s.drop (spanG notL s + 1))).2)
theorem readG_fuel : ∀ (n m : Nat) (s : List Int), s.length ≤ n → s.length ≤ m → readG n s = readG m s
  | 0, m, s, h, _ => by
    obtain rfl : s = [] := List.eq_nil_of_length_eq_zero (by omega)
    cases m <;> rfl
  | n + 1, 0, s, _, h => by
    obtain rfl : s = [] := List.eq_nil_of_length_eq_zero (by omega)
    rfl
  | n + 1, m + 1, s, h, k => by
    unfold readG
    split
    · rfl
    · have hd : (s.drop (spanG notL s + 1)).length ≤ n ∧ (s.drop (spanG notL s + 1)).length ≤ m := by rw [List.length_drop]; omega
      rw [readG_fuel n m _ hd.1 hd.2]
def readF (s : List Int) : List (List Int) × Nat := readG s.length s
theorem readF_eq (s : List Int) : readF s = if spanG notL s = s.length then ([], 0) else match slM (s.take (spanG notL s)) with
    | none => ([], 0)
    | some l => (l :: (readF (s.drop (spanG notL s + 1))).1, spanG notL s + 1 + (readF (s.drop (spanG notL s + 1))).2) := by
  have h : readF s = readG (s.length + 1) s := readG_fuel _ _ _ (Nat.le_refl _) (by omega)
  rw [h, readG]
  split
  · rfl
  · have hd : (s.drop (spanG notL s + 1)).length ≤ s.length := by rw [List.length_drop]; omega
    rw [readG_fuel s.length (s.drop (spanG notL s + 1)).length _ hd (Nat.le_refl _)]
    rfl
theorem spanG_all {p : Int → Bool} : ∀ (s : List Int), ∀ i, i < spanG p s → p (s[i]?.getD 0) = true
  | [], i, h => by simp [spanG] at h
  | c :: t, i, h => by
    rw [spanG_cons] at h
    split at h
    · cases i with
      | zero => simpa
      | succ i => simpa using spanG_all t i (by omega)
    · omega
theorem spanG_stop {p : Int → Bool} : ∀ (s : List Int), spanG p s < s.length → p (s[spanG p s]?.getD 0) = false
  | [], h => by simp at h
  | c :: t, h => by
    rw [spanG_cons] at h ⊢
    split
    · rename_i hc
      rw [if_pos hc] at h
      simpa using spanG_stop t (by simpa using h)
    · rename_i hc; simpa using hc
theorem readF_len : ∀ (n : Nat) (s : List Int), s.length ≤ n → (readF s).2 ≤ s.length ∧ (readF s).1.length ≤ s.length
  | 0, s, h => by
    obtain rfl : s = [] := List.eq_nil_of_length_eq_zero (by omega)
    simp [readF, readG]
  | n + 1, s, h => by
    rw [readF_eq]
    split
    · simp
    · rename_i hne
      have := spanG_le notL s
      split
      · simp
      · have ih := readF_len n (s.drop (spanG notL s + 1)) (by rw [List.length_drop]; omega)
        rw [List.length_drop] at ih
        simp only [List.length_cons]
        omega
end Go.Proofs.Ytcbachblhfkcoaa
