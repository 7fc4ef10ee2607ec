/-
  Package past, Expand: what a text becomes. Plain definitions and lemmas, no program.
-/
import Derived.Test.YtcbachblhfkcoaaPastM
import Derived.Test.YtcbachblhfkcoaaSame
namespace Go.Proofs.Ytcbachblhfkcoaa

/-- How many stand at the beginning of which p holds. -/
def spanG (p : Int → Bool) : List Int → Nat
  | [] => 0
  | c :: t => if p c then spanG p t + 1 else 0
theorem spanG_le (p : Int → Bool) : ∀ s, spanG p s ≤ s.length
  | [] => Nat.le_refl _
  | c :: t => by unfold spanG; have := spanG_le p t; split <;> simp <;> omega
theorem spanG_cons (p : Int → Bool) (c : Int) (t : List Int) : spanG p (c :: t) = if p c then spanG p t + 1 else 0 := rfl
/-- What belongs to a word. -/
def wordP (c : Int) : Bool := decide (c ≠ 32 ∧ c ≠ 9 ∧ c ≠ 33)
def notQ (c : Int) : Bool := decide (c ≠ 63)
def isDg (c : Int) : Bool := decide (48 ≤ c ∧ c ≤ 57)
/-- A number, and how many digits it has: not more than g. -/
def numG : Nat → Int → List Int → Int × Nat
  | 0, n, _ => (n, 0)
  | _ + 1, n, [] => (n, 0)
  | g + 1, n, c :: t => if isDg c then ((numG g (10 * n + (c - 48)) t).1, (numG g (10 * n + (c - 48)) t).2 + 1) else (n, 0)
def numM (s : List Int) : Int × Nat := numG 4 0 s
theorem numG_cons (g : Nat) (n c : Int) (t : List Int) : numG (g + 1) n (c :: t) = if isDg c then ((numG g (10 * n + (c - 48)) t).1, (numG g (10 * n + (c - 48)) t).2 + 1) else (n, 0) := rfl
theorem numG_nil (g : Nat) (n : Int) : numG g n [] = (n, 0) := by cases g <;> rfl
theorem numG_le : ∀ (g : Nat) (n : Int) (s : List Int), (numG g n s).2 ≤ s.length
  | 0, _, _ => Nat.zero_le _
  | _ + 1, _, [] => Nat.le_refl _
  | g + 1, n, c :: t => by rw [numG_cons]; have := numG_le g (10 * n + (c - 48)) t; split <;> simp <;> omega
theorem numG_range : ∀ (g : Nat) (n : Int) (s : List Int) (b : Int), 0 ≤ n → n ≤ b → 0 ≤ (numG g n s).1 ∧ (numG g n s).1 ≤ (b + 1) * 10 ^ g
  | 0, n, _, b, h0, h1 => by simp [numG]; omega
  | g + 1, n, [], b, h0, h1 => by
    rw [numG_nil]
    have : (1 : Int) ≤ 10 ^ (g + 1) := Int.le_of_lt_add_one (by have := Int.pow_pos (n := 10) (m := g + 1) (by omega); omega)
    exact ⟨h0, by have := Int.mul_le_mul_of_nonneg_left (c := b + 1) this (by omega); omega⟩
  | g + 1, n, c :: t, b, h0, h1 => by
    rw [numG_cons]
    split
    · rename_i hc
      unfold isDg at hc
      have hc := of_decide_eq_true hc
      have := numG_range g (10 * n + (c - 48)) t (10 * b + 9) (by omega) (by omega)
      have e : (10 * b + 9 + 1 : Int) * 10 ^ g = (b + 1) * 10 ^ (g + 1) := by rw [Int.pow_succ, ← Int.mul_assoc, Int.mul_right_comm, show (10 * b + 9 + 1 : Int) = (b + 1) * 10 by omega]
      rw [e] at this
      exact this
    · have : (1 : Int) ≤ 10 ^ (g + 1) := Int.le_of_lt_add_one (by have := Int.pow_pos (n := 10) (m := g + 1) (by omega); omega)
      exact ⟨h0, by have := Int.mul_le_mul_of_nonneg_left (c := b + 1) this (by omega); omega⟩
theorem numM_range (s : List Int) : 0 ≤ (numM s).1 ∧ (numM s).1 ≤ 10000 := by
  have := numG_range 4 0 s 0 (by omega) (by omega)
  exact ⟨this.1, by have := this.2; unfold numM; omega⟩
theorem numM_le (s : List Int) : (numM s).2 ≤ s.length := numG_le _ _ _

/-- Does a text begin with another one? -/
def beginsM (l p : List Int) : Bool := decide (p.length ≤ l.length) && sameB (l.take p.length) p
def hasM (l p : List Int) : Bool := (List.range (l.length + 1)).any fun i => beginsM (l.drop i) p
theorem hasM_yes {l p : List Int} {i : Nat} (h : i ≤ l.length) (hb : beginsM (l.drop i) p = true) : hasM l p = true := by
  unfold hasM
  rw [List.any_eq_true]
  exact ⟨i, List.mem_range.2 (by omega), hb⟩
theorem hasM_no {l p : List Int} (h : ∀ i, i ≤ l.length → beginsM (l.drop i) p = false) : hasM l p = false := by
  unfold hasM
  rw [List.any_eq_false]
  intro i hi
  rw [h i (by have := List.mem_range.1 hi; omega)]
  simp
/-- The line that is so many back. -/
def pickM (L : List (List Int)) (i : Int) : Option (List Int) := if 0 < i ∧ i ≤ L.length then some (L[L.length - i.toNat]?.getD []) else none
/-- The newest line that fits. -/
def newM (L : List (List Int)) (f : List Int → Bool) : Option (List Int) := L.reverse.find? f
/-- What stands for what is behind a !: a line, and how many scalars that is. -/
def eventM (L : List (List Int)) : List Int → Option (List Int × Nat)
  | [] => some ([], 0)
  | c :: t =>
    if c = 33 then (pickM L 1).map (·, 1)
    else if 0 < (numM (c :: t)).2 then (pickM L (L.length + 1 - (numM (c :: t)).1)).map (·, (numM (c :: t)).2)
    else if c = 45 ∧ 0 < (numM t).2 then (pickM L (numM t).1).map (·, 1 + (numM t).2)
    else if c = 63 then (newM L fun l => hasM l (t.take (spanG notQ t))).map (·, if spanG notQ t < t.length then spanG notQ t + 2 else t.length + 1)
    else if spanG wordP (c :: t) = 0 then some ([], 0)
    else (newM L fun l => beginsM l ((c :: t).take (spanG wordP (c :: t)))).map (·, spanG wordP (c :: t))
/-- A text in which lines stand in the place of what names them. -/
def exM (L : List (List Int)) : Nat → List Int → Option (List Int)
  | 0, _ => some []
  | _ + 1, [] => some []
  | n + 1, c :: t =>
    if c = 92 ∧ t.head? = some 33 then (exM L n t.tail).map (33 :: ·)
    else if c ≠ 33 then (exM L n t).map (c :: ·)
    else match eventM L t with
      | none => none
      | some (l, k) => (exM L n (t.drop k)).map ((if k = 0 then [33] else l) ++ ·)
end Go.Proofs.Ytcbachblhfkcoaa
