/-
  UTF-8 as plain functions: the decoder of package utf, byte by byte. Plain definitions, no program.
-/
namespace Go.Proofs.Ytmeefngkbcfpeaa

/-- A decoder: how many bytes it needs, has; from where to where the next one may be; the value so far. -/
structure Dm where
  need : Int
  has : Int
  low : Int
  high : Int
  val : Int
deriving DecidableEq

def Dm.zero : Dm := ⟨0, 0, 0, 0, 0⟩
/-- A first byte. -/
def firstM (b : Int) : Dm × List Int :=
  if b < 128 then (Dm.zero, [b])
  else if b < 194 ∨ 244 < b then (Dm.zero, [65533])
  else (⟨if b < 224 then 1 else if b < 240 then 2 else 3, 1, if b = 224 then 160 else if b = 240 then 144 else 128, if b = 237 then 159 else if b = 244 then 143 else 191,
    if b < 224 then b % 32 else if b < 240 then b % 16 else b % 8⟩, [])
/-- A byte. -/
def feedM (d : Dm) (b : Int) : Dm × List Int :=
  if d.need = 0 then firstM b
  else if b < d.low ∨ d.high < b then ((firstM b).1, 65533 :: (firstM b).2)
  else if d.need = 1 then (Dm.zero, [d.val * 64 + b % 64])
  else (⟨d.need - 1, d.has + 1, 128, 191, d.val * 64 + b % 64⟩, [])
/-- No byte comes any more. -/
def endM (d : Dm) : List Int := if d.need = 0 then [] else [65533]
/-- Bytes, one by one. -/
def feedsM : Dm → List Int → Dm × List Int
  | d, [] => (d, [])
  | d, b :: l => ((feedsM (feedM d b).1 l).1, (feedM d b).2 ++ (feedsM (feedM d b).1 l).2)
def decodeM (l : List Int) : List Int := (feedsM Dm.zero l).2 ++ endM (feedsM Dm.zero l).1

/-- What a decoder can be. -/
def Dm.ok (d : Dm) : Prop := (d = Dm.zero) ∨
  (1 ≤ d.need ∧ d.need ≤ 3 ∧ 1 ≤ d.has ∧ d.has ≤ 3 ∧ 0 ≤ d.val ∧ d.need + d.has ≤ 4 ∧ d.val < 131072 ∧ 128 ≤ d.low ∧ d.low ≤ 191 ∧ 128 ≤ d.high ∧ d.high ≤ 191 ∧ (d.has = 1 → d.val < 32) ∧ (d.has = 2 → d.val < 2048))
theorem firstM_ok (b : Int) : (firstM b).1.ok := by
  unfold firstM Dm.ok
  split
  · left; rfl
  · split
    · left; rfl
    · right
      have a1 := Int.emod_lt_of_pos b (show (0 : Int) < 32 by omega)
      have a2 := Int.emod_lt_of_pos b (show (0 : Int) < 16 by omega)
      have a3 := Int.emod_lt_of_pos b (show (0 : Int) < 8 by omega)
      have b1 := Int.emod_nonneg b (show (32 : Int) ≠ 0 by omega)
      have b2 := Int.emod_nonneg b (show (16 : Int) ≠ 0 by omega)
      have b3 := Int.emod_nonneg b (show (8 : Int) ≠ 0 by omega)
      refine ⟨?_, ?_, ?_, ?_, ?_, ?_, ?_, ?_, ?_, ?_, ?_, ?_, ?_⟩ <;> (try simp only []) <;> (repeat' split) <;> omega
theorem feedM_ok (d : Dm) (b : Int) (hd : d.ok) : (feedM d b).1.ok := by
  unfold feedM
  split
  · exact firstM_ok b
  · split
    · exact firstM_ok b
    · split
      · left; rfl
      · rcases hd with rfl | ⟨a1, a2, a3, a4, a5, a6, a7, a8, a9, a10, a11, a12, a13⟩
        · rename_i h _ _; exact absurd rfl h
        · right
          have c1 := Int.emod_lt_of_pos b (show (0 : Int) < 64 by omega)
          have c2 := Int.emod_nonneg b (show (64 : Int) ≠ 0 by omega)
          refine ⟨?_, ?_, ?_, ?_, ?_, ?_, ?_, ?_, ?_, ?_, ?_, ?_, ?_⟩ <;> (try simp only []) <;> omega
theorem feedsM_append (d : Dm) (l m : List Int) : feedsM d (l ++ m) = ((feedsM (feedsM d l).1 m).1, (feedsM d l).2 ++ (feedsM (feedsM d l).1 m).2) := by
  induction l generalizing d with
  | nil => simp [feedsM]
  | cons b l ih => simp [feedsM, ih, List.append_assoc]
theorem feedsM_snoc (d : Dm) (l : List Int) (b : Int) : feedsM d (l ++ [b]) = ((feedM (feedsM d l).1 b).1, (feedsM d l).2 ++ (feedM (feedsM d l).1 b).2) := by
  rw [feedsM_append]; simp [feedsM]
theorem feedsM_ok (d : Dm) (l : List Int) (hd : d.ok) : (feedsM d l).1.ok := by
  induction l generalizing d with
  | nil => exact hd
  | cons b l ih => exact ih _ (feedM_ok d b hd)
theorem firstM_len (b : Int) : (firstM b).2.length ≤ 1 := by
  unfold firstM
  split
  · simp
  · split <;> simp
theorem feedM_len (d : Dm) (b : Int) : (feedM d b).2.length ≤ 2 := by
  have := firstM_len b
  unfold feedM
  split
  · omega
  · split
    · simp; omega
    · split <;> simp
theorem feedsM_len (d : Dm) (l : List Int) : (feedsM d l).2.length ≤ 2 * l.length := by
  induction l generalizing d with
  | nil => simp [feedsM]
  | cons b l ih => have := ih (feedM d b).1; have := feedM_len d b; simp [feedsM]; omega
end Go.Proofs.Ytmeefngkbcfpeaa
