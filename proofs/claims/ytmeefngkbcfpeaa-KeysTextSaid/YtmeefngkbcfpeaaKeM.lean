/-
  The document's parser of keys as plain functions; that both parsers tell the same. Plain definitions, no program.
-/
import Derived.Test.YtmeefngkbcfpeaaKeL
namespace Go.Proofs.Ytmeefngkbcfpeaa

/-- The document's parser. -/
structure Rm where
  inn : Int
  row : List Int
  wait : List Int
  met : Bool
deriving DecidableEq
def Rm.zero : Rm := ⟨0, [], [], false⟩
def fedR (r : Rm) (b : Int) : Rm × List Ky :=
  (⟨0, r.row, (r.wait ++ [b]).drop (r.wait.length + 1 - waitR (r.wait ++ [b])), (if decR ((r.wait ++ [b]).take (r.wait.length + 1 - waitR (r.wait ++ [b]))) ≠ [] ∨ waitR (r.wait ++ [b]) = 0 then false else r.met)⟩,
    charsM (decR ((r.wait ++ [b]).take (r.wait.length + 1 - waitR (r.wait ++ [b])))) r.met)
def restR (r : Rm) : Rm × List Ky := (⟨r.inn, r.row, [], false⟩, charsM (decR r.wait) r.met)
def aloneR (r : Rm) (b : Int) : Rm × List Ky :=
  if b = 27 then (⟨1, r.row, [], false⟩, (restR r).2) else if ctlM b = true then ((restR r).1, (restR r).2 ++ [⟨2, b, false, []⟩]) else fedR r b
def letterR (b : Int) : Ky := if letterM b = 0 then ⟨5, 0, false, []⟩ else ⟨3, letterM b, false, []⟩
def numberR (s : List Int) : Ky := if s.length = 1 ∧ 49 ≤ s.headD 0 ∧ s.headD 0 ≤ 56 then ⟨3, ([5, 7, 8, 6, 9, 10, 5, 6] : List Int).getD (s.headD 0 - 49).toNat 0, false, []⟩ else ⟨5, 0, false, []⟩
def escapedR (r : Rm) (b : Int) : Rm × List Ky :=
  if b = 27 then (r, [⟨2, 27, false, []⟩]) else if b = 91 then (⟨2, [], r.wait, r.met⟩, []) else if b = 79 then (⟨3, r.row, r.wait, r.met⟩, [])
  else if ctlM b = true then (⟨0, r.row, r.wait, r.met⟩, [⟨2, b, true, []⟩]) else fedR ⟨0, r.row, r.wait, true⟩ b
def brokenR (r : Rm) (b : Int) : Rm × List Ky := ((aloneR ⟨0, [], r.wait, r.met⟩ b).1, ⟨5, 0, false, []⟩ :: (aloneR ⟨0, [], r.wait, r.met⟩ b).2)
def rowR (r : Rm) (b : Int) : Rm × List Ky :=
  if ctlM b = true ∨ 127 < b then brokenR r b
  else if b < 64 ∧ r.row.length < 16 then (⟨r.inn, r.row ++ [b], r.wait, r.met⟩, [])
  else if b < 64 then (⟨0, [], r.wait, r.met⟩, [⟨5, 0, false, []⟩])
  else if b = 126 ∧ r.row = [50, 48, 48] then (⟨4, [], r.wait, r.met⟩, [])
  else if b = 126 then (⟨0, [], r.wait, r.met⟩, [numberR r.row])
  else if r.row ≠ [] then (⟨0, [], r.wait, r.met⟩, [⟨5, 0, false, []⟩])
  else (⟨0, [], r.wait, r.met⟩, [letterR b])
def pastedR (r : Rm) (b : Int) : Rm × List Ky :=
  if (r.row ++ [b]).length < 6 ∨ (r.row ++ [b]).drop ((r.row ++ [b]).length - 6) ≠ endsM then (⟨r.inn, r.row ++ [b], r.wait, r.met⟩, [])
  else (⟨0, [], r.wait, r.met⟩, [⟨4, 0, false, decR ((r.row ++ [b]).take ((r.row ++ [b]).length - 6))⟩])
def feedR (r : Rm) (b : Int) : Rm × List Ky :=
  if r.inn = 1 then escapedR r b else if r.inn = 2 then rowR r b
  else if r.inn = 3 then (if ctlM b = true ∨ 127 < b then brokenR r b else (⟨0, r.row, r.wait, r.met⟩, [letterR b]))
  else if r.inn = 4 then pastedR r b else aloneR r b
def tickR (r : Rm) : Rm × List Ky :=
  if r.inn = 4 then (r, []) else if r.inn = 1 then (⟨0, [], r.wait, r.met⟩, [⟨2, 27, false, []⟩]) else if r.inn = 2 ∨ r.inn = 3 then (⟨0, [], r.wait, r.met⟩, [⟨5, 0, false, []⟩])
  else restR ⟨0, [], r.wait, r.met⟩

/-- Both are at the same place. -/
structure Rel (p : Pm) (r : Rm) : Prop where
  inn : p.inn = r.inn
  lo : 0 ≤ p.inn
  hi : p.inn ≤ 4
  wt : Wt p.d r.wait
  met : p.met = r.met
  out : p.inn ≠ 0 → r.wait = [] ∧ p.d = Dm.zero ∧ p.met = false
  row : p.inn = 2 ∨ p.inn = 4 → p.pend = r.row
  len : p.inn = 2 → r.row.length ≤ 16
theorem Rel.zero : Rel Pm.zero Rm.zero := ⟨rfl, by simp [Pm.zero], by simp [Pm.zero], Wt.zero, rfl, fun h => absurd rfl h, fun h => by simp [Pm.zero] at h, fun h => by simp [Pm.zero] at h⟩
/-- Nothing waits. -/
theorem Rel.plain (row : List Int) : Rel Pm.zero ⟨0, row, [], false⟩ := ⟨rfl, by simp [Pm.zero], by simp [Pm.zero], Wt.zero, rfl, fun h => absurd rfl h, fun h => by simp [Pm.zero] at h, fun h => by simp [Pm.zero] at h⟩
theorem Rel.at_ (i : Int) (h0 : 0 ≤ i) (h4 : i ≤ 4) (pend : List Int) (hl : i = 2 → pend.length ≤ 16) : Rel ⟨i, false, Dm.zero, pend⟩ ⟨i, pend, [], false⟩ := ⟨rfl, h0, h4, Wt.zero, rfl, fun _ => ⟨rfl, rfl, rfl⟩, fun _ => rfl, hl⟩
/-- What both do. -/
def Both (x : Pm × List Ky) (y : Rm × List Ky) : Prop := x.2 = y.2 ∧ Rel x.1 y.1

theorem both_fed {d : Dm} {wait pend row : List Int} {met : Bool} {i j : Int} (h : Wt d wait) (b : Int) : Both (scalarM ⟨i, met, d, pend⟩ b) (fedR ⟨j, row, wait, met⟩ b) := by
  obtain ⟨h1, h2, h3, h4⟩ := h.feed b _ rfl
  unfold scalarM fedR
  dsimp only
  refine ⟨by rw [h1], rfl, by simp, by simp, h2, ?_, fun h => absurd rfl h, fun h => by simp at h, fun h => by simp at h⟩
  show (if (feedM d b).2 ≠ [] ∨ (feedM d b).1.has = 0 then false else met) = _
  rw [h1, h3]
  congr 1
  simp
theorem both_alone {d : Dm} {wait pend row : List Int} {met : Bool} {i : Int} (h : Wt d wait) (b : Int) : Both (plainM ⟨i, met, d, pend⟩ b) (aloneR ⟨0, row, wait, met⟩ b) := by
  have he : brokenM ⟨i, met, d, pend⟩ = (restR ⟨0, row, wait, met⟩).2 := by unfold brokenM restR; dsimp only; rw [h.end_]
  unfold plainM aloneR
  by_cases h1 : b = 27
  · rw [if_pos h1, if_pos h1]
    exact ⟨he, rfl, by simp, by simp, Wt.zero, rfl, fun _ => ⟨rfl, rfl, rfl⟩, fun h => by simp at h, fun h => by simp at h⟩
  · rw [if_neg h1, if_neg h1]
    by_cases h2 : ctlM b = true
    · rw [if_pos h2, if_pos h2, he]
      exact ⟨rfl, Rel.plain row⟩
    · rw [if_neg h2, if_neg h2]
      exact both_fed h b
theorem both_broken {wait row : List Int} {met : Bool} {i : Int} (hw : wait = []) (hm : met = false) (b : Int) : Both ((plainM Pm.zero b).1, nameM 0 :: (plainM Pm.zero b).2) (brokenR ⟨i, row, wait, met⟩ b) := by
  subst hw hm
  obtain ⟨h1, h2⟩ := both_alone (row := []) (pend := []) (met := false) (i := 0) Wt.zero b
  refine ⟨?_, h2⟩
  unfold brokenR
  dsimp only
  rw [← h1]
  rfl
theorem letterR_eq (b : Int) : nameM (letterM b) = letterR b := by unfold nameM letterR; rfl
theorem numberR_eq (s : List Int) : nameM (numberM s) = numberR s := by
  unfold nameM numberR
  match s with
  | [] => rfl
  | [x] =>
    by_cases h : 49 ≤ x ∧ x ≤ 56
    · rw [if_pos (show [x].length = 1 ∧ 49 ≤ [x].headD 0 ∧ [x].headD 0 ≤ 56 from ⟨rfl, h.1, h.2⟩)]
      obtain rfl | rfl | rfl | rfl | rfl | rfl | rfl | rfl : x = 49 ∨ x = 50 ∨ x = 51 ∨ x = 52 ∨ x = 53 ∨ x = 54 ∨ x = 55 ∨ x = 56 := by omega
      all_goals rfl
    · rw [if_neg (show ¬ ([x].length = 1 ∧ 49 ≤ [x].headD 0 ∧ [x].headD 0 ≤ 56) from fun k => h ⟨k.2.1, k.2.2⟩)]
      have hz : numberM [x] = 0 := by
        unfold numberM
        simp only [List.cons.injEq, and_true]
        rw [if_neg (by omega), if_neg (by omega), if_neg (by omega), if_neg (by omega), if_neg (by omega), if_neg (by omega)]
      rw [if_pos hz]
  | x :: y :: t =>
    rw [if_neg (show ¬ ((x :: y :: t).length = 1 ∧ _) by simp)]
    have hz : numberM (x :: y :: t) = 0 := by unfold numberM; simp
    rw [if_pos hz]

theorem feed_both {p : Pm} {r : Rm} (h : Rel p r) (b : Int) : Both (feedP p b) (feedR r b) := by
  obtain ⟨i, met, d, pend⟩ := p
  obtain ⟨j, row, wait, met'⟩ := r
  obtain ⟨h1, h2, h3, h4, h5, h6, h7, h8⟩ := h
  dsimp only at h1 h2 h3 h4 h5 h6 h7 h8
  subst h1 h5
  unfold feedP feedR
  dsimp only
  by_cases e1 : i = 1
  · rw [if_pos e1, if_pos e1]
    obtain ⟨rfl, rfl, rfl⟩ := h6 (by omega)
    subst e1
    unfold escapedM escapedR
    dsimp only
    by_cases c1 : b = 27
    · subst c1
      exact ⟨rfl, rfl, by simp, by simp, Wt.zero, rfl, fun _ => ⟨rfl, rfl, rfl⟩, fun h => by simp at h, fun h => by simp at h⟩
    · by_cases c2 : b = 91
      · simp only [if_neg c1, if_pos c2]; exact ⟨rfl, Rel.at_ 2 (by omega) (by omega) [] (by simp)⟩
      · by_cases c3 : b = 79
        · simp only [if_neg c1, if_neg c2, if_pos c3]
          exact ⟨rfl, rfl, by simp, by simp, Wt.zero, rfl, fun _ => ⟨rfl, rfl, rfl⟩, fun h => by simp at h, fun h => by simp at h⟩
        · by_cases c4 : ctlM b = true
          · simp only [if_neg c1, if_neg c2, if_neg c3, if_pos c4]; exact ⟨rfl, Rel.plain row⟩
          · simp only [if_neg c1, if_neg c2, if_neg c3, if_neg c4]; exact both_fed Wt.zero b
  · rw [if_neg e1, if_neg e1]
    by_cases e2 : i = 2
    · rw [if_pos e2, if_pos e2]
      obtain ⟨rfl, rfl, rfl⟩ := h6 (by omega)
      obtain rfl := h7 (Or.inl e2)
      have hl := h8 e2
      subst e2
      unfold rowM rowR
      dsimp only
      by_cases c1 : ctlM b = true ∨ 127 < b
      · rw [if_pos c1, if_pos c1]; exact both_broken rfl rfl b
      · rw [if_neg c1, if_neg c1]
        by_cases c2 : b < 64
        · by_cases c3 : pend.length = 16
          · have n1 : ¬ (b < 64 ∧ pend.length < 16) := by omega
            simp only [if_pos (And.intro c2 c3), if_neg n1, if_pos c2]; exact ⟨rfl, Rel.plain []⟩
          · have n1 : ¬ (b < 64 ∧ pend.length = 16) := by omega
            have n2 : b < 64 ∧ pend.length < 16 := by omega
            simp only [if_neg n1, if_pos c2, if_pos n2]; exact ⟨rfl, Rel.at_ 2 (by omega) (by omega) _ (fun _ => by simp; omega)⟩
        · have n1 : ¬ (b < 64 ∧ pend.length = 16) := fun h => c2 h.1
          have n2 : ¬ (b < 64 ∧ pend.length < 16) := fun h => c2 h.1
          simp only [if_neg n1, if_neg n2, if_neg c2]
          by_cases c3 : b = 126 ∧ pend = [50, 48, 48]
          · simp only [if_pos c3]; exact ⟨rfl, Rel.at_ 4 (by omega) (by omega) [] (by simp)⟩
          · by_cases c4 : b = 126
            · simp only [if_neg c3, if_pos c4, numberR_eq]; exact ⟨rfl, Rel.plain []⟩
            · by_cases c5 : pend ≠ []
              · simp only [if_neg c3, if_neg c4, if_pos c5]; exact ⟨rfl, Rel.plain []⟩
              · simp only [if_neg c3, if_neg c4, if_neg c5, letterR_eq]; exact ⟨rfl, Rel.plain []⟩
    · rw [if_neg e2, if_neg e2]
      by_cases e3 : i = 3
      · rw [if_pos e3, if_pos e3]
        obtain ⟨rfl, rfl, rfl⟩ := h6 (by omega)
        by_cases c1 : ctlM b = true ∨ 127 < b
        · rw [if_pos c1, if_pos c1]; exact both_broken rfl rfl b
        · rw [if_neg c1, if_neg c1, letterR_eq]; exact ⟨rfl, Rel.plain row⟩
      · rw [if_neg e3, if_neg e3]
        by_cases e4 : i = 4
        · rw [if_pos e4, if_pos e4]
          obtain ⟨rfl, rfl, rfl⟩ := h6 (by omega)
          obtain rfl := h7 (Or.inr e4)
          subst e4
          unfold pasteM pastedR
          dsimp only
          by_cases c1 : (pend ++ [b]).drop ((pend ++ [b]).length - 6) = endsM
          · have hl6 : ¬ (pend ++ [b]).length < 6 := fun h => by
              have := congrArg List.length c1
              rw [List.length_drop] at this
              simp [endsM] at this h
              omega
            rw [if_pos c1, if_neg (fun h => h.elim hl6 (fun h => h c1)), decode_law]
            exact ⟨rfl, Rel.plain []⟩
          · rw [if_neg c1, if_pos (Or.inr c1)]
            exact ⟨rfl, Rel.at_ 4 (by omega) (by omega) _ (by simp)⟩
        · rw [if_neg e4, if_neg e4]
          obtain rfl : i = 0 := by omega
          exact both_alone h4 b

theorem tick_both {p : Pm} {r : Rm} (h : Rel p r) : Both (tickP p) (tickR r) := by
  obtain ⟨i, met, d, pend⟩ := p
  obtain ⟨j, row, wait, met'⟩ := r
  obtain ⟨h1, h2, h3, h4, h5, h6, h7, h8⟩ := h
  dsimp only at h1 h2 h3 h4 h5 h6 h7 h8
  subst h1 h5
  unfold tickP tickR
  dsimp only
  by_cases e1 : i = 1
  · obtain ⟨rfl, rfl, rfl⟩ := h6 (by omega)
    rw [if_pos e1, if_neg (by omega), if_pos e1]
    exact ⟨rfl, Rel.plain []⟩
  · rw [if_neg e1]
    by_cases e2 : i = 2 ∨ i = 3
    · obtain ⟨rfl, rfl, rfl⟩ := h6 (by omega)
      rw [if_pos e2, if_neg (by omega), if_neg e1, if_pos e2]
      exact ⟨rfl, Rel.plain []⟩
    · rw [if_neg e2]
      by_cases e4 : i = 4
      · rw [if_pos e4, if_pos e4]
        exact ⟨rfl, rfl, h2, h3, h4, rfl, h6, h7, h8⟩
      · rw [if_neg e4, if_neg e4, if_neg e1, if_neg e2]
        refine ⟨?_, Rel.plain []⟩
        unfold brokenM restR
        dsimp only
        rw [h4.end_]
theorem Rel.waits {p : Pm} {r : Rm} (h : Rel p r) : waitsP p = (decide (r.inn ≠ 0) || decide (r.wait ≠ [])) := by
  have h1 := h.wt.has
  unfold waitsP
  rw [h.inn, h1]
  cases r.wait <;> simp
end Go.Proofs.Ytmeefngkbcfpeaa
