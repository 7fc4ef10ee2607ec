/-
  UTF-8 as plain functions: the document's answer (rows of bytes). Plain definitions, no program.
-/
import Derived.Test.YtmeefngkbcfpeaaUtfM
namespace Go.Proofs.Ytmeefngkbcfpeaa

def longM (c : Int) : Nat := if c < 128 then 1 else if c < 224 then 2 else if c < 240 then 3 else 4
/-- May a byte b stand at place i of a row that begins with c? -/
def mayB (c b : Int) (i : Nat) : Bool :=
  if i = 0 then decide (c < 128) || (decide (194 ≤ c) && decide (c ≤ 244))
  else if i = 1 then
    (if c = 224 then decide (160 ≤ b) && decide (b ≤ 191) else if c = 237 then decide (128 ≤ b) && decide (b ≤ 159) else if c = 240 then decide (144 ≤ b) && decide (b ≤ 191)
     else if c = 244 then decide (128 ≤ b) && decide (b ≤ 143) else decide (128 ≤ b) && decide (b ≤ 191))
  else decide (128 ≤ b) && decide (b ≤ 191)
def mayM (s : List Int) (i : Nat) : Bool := mayB (s[0]?.getD 0) (s[i]?.getD 0) i
/-- From n on. -/
def rowGo (s : List Int) : Nat → Nat → Nat
  | 0, n => n
  | f + 1, n => if n < s.length ∧ n < longM (s[0]?.getD 0) ∧ mayM s n = true then rowGo s f (n + 1) else n
def rowN (s : List Int) : Nat := rowGo s 4 0
def rowW (s : List Int) : Bool := decide (0 < rowN s) && decide (rowN s = longM (s[0]?.getD 0))
def valGo : Int → List Int → Int
  | v, [] => v
  | v, b :: l => valGo (64 * v + b - 128) l
def valueM (s : List Int) : Int :=
  if s.length = 1 then s[0]?.getD 0
  else valGo (if s.length = 4 then s[0]?.getD 0 - 240 else if s.length = 3 then s[0]?.getD 0 - 224 else s[0]?.getD 0 - 192) (s.drop 1)

theorem longM_le (c : Int) : 1 ≤ longM c ∧ longM c ≤ 4 := by
  unfold longM
  (repeat' split) <;> omega
theorem rowGo_ge (s : List Int) : ∀ (f n : Nat), n ≤ rowGo s f n
  | 0, n => Nat.le_refl _
  | f + 1, n => by
    rw [rowGo]
    split
    · exact Nat.le_trans (Nat.le_succ n) (rowGo_ge s f (n + 1))
    · exact Nat.le_refl _
theorem rowGo_le (s : List Int) : ∀ (f n : Nat), n ≤ s.length → n ≤ longM (s[0]?.getD 0) → rowGo s f n ≤ s.length ∧ rowGo s f n ≤ longM (s[0]?.getD 0)
  | 0, n, h, h' => ⟨h, h'⟩
  | f + 1, n, h, h' => by
    rw [rowGo]
    split
    · rename_i hc
      exact rowGo_le s f (n + 1) (by omega) (by omega)
    · exact ⟨h, h'⟩
theorem rowN_le (s : List Int) : rowN s ≤ s.length ∧ rowN s ≤ 4 := by
  have := rowGo_le s 4 0 (Nat.zero_le _) (by have := (longM_le (s[0]?.getD 0)).1; omega)
  have := (longM_le (s[0]?.getD 0)).2
  unfold rowN; omega
/-- The next place, once one has come to n. -/
theorem rowGo_step (s : List Int) (f n : Nat) (h : n < s.length) (h2 : n < longM (s[0]?.getD 0)) (h3 : mayM s n = true) : rowGo s (f + 1) n = rowGo s f (n + 1) := by
  rw [rowGo, if_pos ⟨h, h2, h3⟩]
theorem rowGo_stop (s : List Int) (f n : Nat) (h : ¬ (n < s.length ∧ n < longM (s[0]?.getD 0) ∧ mayM s n = true)) : rowGo s f n = n := by
  cases f with
  | zero => rfl
  | succ f => rw [rowGo, if_neg h]

/-- The document's decoding. -/
def decG : Nat → List Int → List Int
  | 0, _ => []
  | f + 1, s => if s = [] then [] else (if rowW s = true then valueM (s.take (rowN s)) else 65533) :: decG f (s.drop (if rowN s = 0 then 1 else rowN s))
def decR (s : List Int) : List Int := decG s.length s
/-- How many bytes at the end wait. -/
def waitG : Nat → List Int → Nat
  | 0, _ => 0
  | f + 1, s => if s = [] then 0 else if rowW s = false ∧ 0 < rowN s ∧ rowN s = s.length then rowN s else waitG f (s.drop (if rowN s = 0 then 1 else rowN s))
def waitR (s : List Int) : Nat := waitG s.length s

theorem decG_more (s : List Int) : ∀ (f g : Nat), s.length ≤ f → s.length ≤ g → decG f s = decG g s := by
  intro f
  induction f generalizing s with
  | zero =>
    intro g hf _
    have : s = [] := List.eq_nil_of_length_eq_zero (by omega)
    subst this
    cases g <;> simp [decG]
  | succ f ih =>
    intro g hf hg
    cases g with
    | zero =>
      have : s = [] := List.eq_nil_of_length_eq_zero (by omega)
      subst this
      simp [decG]
    | succ g =>
      rw [decG, decG]
      split
      · rfl
      · rename_i hs
        have hl : 0 < s.length := List.length_pos_iff.2 hs
        rw [ih (s.drop (if rowN s = 0 then 1 else rowN s)) g (by simp; split <;> omega) (by simp; split <;> omega)]
theorem decR_nil : decR [] = [] := rfl
theorem decR_cons (s : List Int) (h : s ≠ []) : decR s = (if rowW s = true then valueM (s.take (rowN s)) else 65533) :: decR (s.drop (if rowN s = 0 then 1 else rowN s)) := by
  have hl : 0 < s.length := List.length_pos_iff.2 h
  unfold decR
  obtain ⟨f, hf⟩ : ∃ f, s.length = f + 1 := ⟨s.length - 1, by omega⟩
  rw [hf, decG, if_neg h]
  congr 1
  exact decG_more _ _ _ (by simp; split <;> omega) (Nat.le_refl _)
theorem waitG_more (s : List Int) : ∀ (f g : Nat), s.length ≤ f → s.length ≤ g → waitG f s = waitG g s := by
  intro f
  induction f generalizing s with
  | zero =>
    intro g hf _
    have : s = [] := List.eq_nil_of_length_eq_zero (by omega)
    subst this
    cases g <;> simp [waitG]
  | succ f ih =>
    intro g hf hg
    cases g with
    | zero =>
      have : s = [] := List.eq_nil_of_length_eq_zero (by omega)
      subst this
      simp [waitG]
    | succ g =>
      rw [waitG, waitG]
      split
      · rfl
      · rename_i hs
        have hl : 0 < s.length := List.length_pos_iff.2 hs
        rw [ih (s.drop (if rowN s = 0 then 1 else rowN s)) g (by simp; split <;> omega) (by simp; split <;> omega)]
theorem waitR_nil : waitR [] = 0 := rfl
theorem waitR_cons (s : List Int) (h : s ≠ []) : waitR s = if rowW s = false ∧ 0 < rowN s ∧ rowN s = s.length then rowN s else waitR (s.drop (if rowN s = 0 then 1 else rowN s)) := by
  have hl : 0 < s.length := List.length_pos_iff.2 h
  unfold waitR
  obtain ⟨f, hf⟩ : ∃ f, s.length = f + 1 := ⟨s.length - 1, by omega⟩
  rw [hf, waitG, if_neg h, ← hf]
  congr 1
  exact waitG_more _ _ _ (by simp; split <;> omega) (Nat.le_refl _)
theorem decR_length (s : List Int) : (decR s).length ≤ s.length := by
  suffices h : ∀ f (s : List Int), s.length ≤ f → (decR s).length ≤ s.length from h _ s (Nat.le_refl _)
  intro f
  induction f with
  | zero =>
    intro s hs
    have : s = [] := List.eq_nil_of_length_eq_zero (by omega)
    subst this
    simp [decR_nil]
  | succ f ih =>
    intro s hs
    by_cases h : s = []
    · subst h; simp [decR_nil]
    · have hl : 0 < s.length := List.length_pos_iff.2 h
      rw [decR_cons s h]
      have hk : 1 ≤ (if rowN s = 0 then 1 else rowN s) := by split <;> omega
      generalize (if rowN s = 0 then 1 else rowN s) = k at *
      have := ih (s.drop k) (by simp; omega)
      simp at this ⊢
      omega
end Go.Proofs.Ytmeefngkbcfpeaa
