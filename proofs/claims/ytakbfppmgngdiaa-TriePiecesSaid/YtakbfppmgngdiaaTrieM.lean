/-
  Package trie, plain: what a trie is made of: pieces, the first one that has a number; blocks of 128, each once. No conditions: plain Lean over lists.
-/
namespace Go.Proofs.Ytakbfppmgngdiaa

/-- Numbers that have a value. -/
structure Pc (α : Type) where
  fr : Int
  to : Int
  v : α

section
variable {α : Type}

/-- The first piece that has a number. -/
def getM : List (Pc α) → α → Int → α
  | [], z, _ => z
  | p :: l, z, i => if p.fr ≤ i ∧ i ≤ p.to then p.v else getM l z i

/-- Likewise, and up to where nothing changes. -/
def findM : List (Pc α) → α → Int → Int → α × Int
  | [], z, _, last => (z, last)
  | p :: l, z, i, last => if p.fr ≤ i ∧ i ≤ p.to then (p.v, min p.to last) else if i < p.fr ∧ p.fr ≤ last then findM l z i (p.fr - 1) else findM l z i last

theorem findM_cons (p : Pc α) (l : List (Pc α)) (z : α) (i last : Int) : findM (p :: l) z i last = if p.fr ≤ i ∧ i ≤ p.to then (p.v, min p.to last) else if i < p.fr ∧ p.fr ≤ last then findM l z i (p.fr - 1) else findM l z i last := rfl
theorem find_spec (z : α) (i : Int) : ∀ (l : List (Pc α)) (last : Int), i ≤ last →
    (findM l z i last).1 = getM l z i ∧ i ≤ (findM l z i last).2 ∧ (findM l z i last).2 ≤ last ∧ ∀ j, i ≤ j → j ≤ (findM l z i last).2 → getM l z j = (findM l z i last).1
  | [], last, h => ⟨rfl, h, Int.le_refl _, fun _ _ _ => rfl⟩
  | p :: l, last, h => by
    unfold findM getM
    by_cases h1 : p.fr ≤ i ∧ i ≤ p.to
    · simp only [if_pos h1]
      refine ⟨trivial, by omega, by omega, fun j hj hk => ?_⟩
      rw [if_pos (by omega)]
    · simp only [if_neg h1]
      by_cases h2 : i < p.fr ∧ p.fr ≤ last
      · simp only [if_pos h2]
        obtain ⟨e1, e2, e3, e4⟩ := find_spec z i l (p.fr - 1) (by omega)
        refine ⟨e1, e2, by omega, fun j hj hk => ?_⟩
        rw [if_neg (by omega)]
        exact e4 j hj hk
      · simp only [if_neg h2]
        obtain ⟨e1, e2, e3, e4⟩ := find_spec z i l last h
        refine ⟨e1, e2, e3, fun j hj hk => ?_⟩
        rw [if_neg (by omega)]
        exact e4 j hj hk

theorem getM_mem (z : α) (i : Int) (l : List (Pc α)) : getM l z i = z ∨ ∃ p ∈ l, getM l z i = p.v := by
  induction l with
  | nil => exact .inl rfl
  | cons p l ih =>
    unfold getM
    split
    · exact .inr ⟨p, by simp, rfl⟩
    · rcases ih with h | ⟨q, hq, h⟩
      · exact .inl h
      · exact .inr ⟨q, by simp [hq], h⟩

/-- A block: what its numbers have; behind the last number what that one has. -/
def blockM (f : Int → α) (size : Int) (q : Nat) : List α := (List.range 128).map fun r => f (min (((128 * q + r : Nat) : Int)) (size - 1))
theorem blockM_length (f : Int → α) (size : Int) (q : Nat) : (blockM f size q).length = 128 := by simp [blockM]
theorem blockM_get (f : Int → α) (size : Int) (q : Nat) {r : Nat} (h : r < 128) : (blockM f size q)[r]? = some (f (min (((128 * q + r : Nat) : Int)) (size - 1))) := by
  unfold blockM
  rw [List.getElem?_map, List.getElem?_range h]
  rfl

variable [DecidableEq α]

/-- Blocks and one more, if it is not there. -/
def addB (bs : List (List α)) (b : List α) : List (List α) := if b ∈ bs then bs else bs ++ [b]
theorem addB_mem (bs : List (List α)) (b : List α) : b ∈ addB bs b := by unfold addB; split <;> simp_all
theorem mem_addB {bs : List (List α)} {b x : List α} : x ∈ addB bs b ↔ x ∈ bs ∨ x = b := by
  unfold addB
  split
  · rename_i h
    constructor
    · exact .inl
    · rintro (h' | rfl)
      · exact h'
      · exact h
  · simp
theorem addB_nodup {bs : List (List α)} (h : bs.Nodup) (b : List α) : (addB bs b).Nodup := by
  unfold addB
  split
  · exact h
  · rename_i hb
    rw [List.nodup_append]
    refine ⟨h, by simp, fun x hx y hy e => ?_⟩
    rw [List.mem_singleton] at hy
    rw [e, hy] at hx
    exact hb hx
theorem addB_get {bs : List (List α)} {b x : List α} {k : Nat} (h : bs[k]? = some x) : (addB bs b)[k]? = some x := by
  unfold addB
  split
  · exact h
  · rw [List.getElem?_append_left (List.getElem?_eq_some_iff.1 h).1]
    exact h
theorem addB_length_le (bs : List (List α)) (b : List α) : (addB bs b).length ≤ bs.length + 1 := by unfold addB; split <;> simp
theorem le_addB_length (bs : List (List α)) (b : List α) : bs.length ≤ (addB bs b).length := by unfold addB; split <;> simp

/-- The blocks of a trie, up to block a. -/
def blocksM (f : Int → α) (size : Int) : Nat → List (List α)
  | 0 => []
  | a + 1 => addB (blocksM f size a) (blockM f size a)
theorem blocksM_nodup (f : Int → α) (size : Int) : ∀ a, (blocksM f size a).Nodup
  | 0 => List.nodup_nil
  | a + 1 => addB_nodup (blocksM_nodup f size a) _
theorem blocksM_length (f : Int → α) (size : Int) : ∀ a, (blocksM f size a).length ≤ a
  | 0 => Nat.le_refl _
  | a + 1 => by have := blocksM_length f size a; have := addB_length_le (blocksM f size a) (blockM f size a); unfold blocksM; omega
theorem blocksM_wide (f : Int → α) (size : Int) : ∀ a, ∀ b ∈ blocksM f size a, b.length = 128
  | 0, b, h => by simp [blocksM] at h
  | a + 1, b, h => by
    rcases mem_addB.1 h with h | rfl
    · exact blocksM_wide f size a b h
    · exact blockM_length f size a
theorem mem_blocksM {f : Int → α} {size : Int} {x : List α} : ∀ {a}, x ∈ blocksM f size a ↔ ∃ q, q < a ∧ x = blockM f size q
  | 0 => by simp [blocksM]
  | a + 1 => by
    unfold blocksM
    rw [mem_addB, mem_blocksM]
    constructor
    · rintro (⟨q, hq, e⟩ | e)
      · exact ⟨q, by omega, e⟩
      · exact ⟨a, by omega, e⟩
    · rintro ⟨q, hq, e⟩
      by_cases h : q = a
      · subst h; exact .inr e
      · exact .inl ⟨q, by omega, e⟩

/-- Where a block stands. -/
def atB (bs : List (List α)) (b : List α) : Nat := bs.idxOf b
theorem atB_get {bs : List (List α)} {b : List α} (h : b ∈ bs) : bs[atB bs b]? = some b := by
  unfold atB
  have h1 := List.idxOf_lt_length_of_mem h
  rw [List.getElem?_eq_getElem h1]
  simp
theorem atB_lt {bs : List (List α)} {b : List α} (h : b ∈ bs) : atB bs b < bs.length := List.idxOf_lt_length_of_mem h
theorem atB_eq {bs : List (List α)} (hn : bs.Nodup) {b : List α} {k : Nat} (h : bs[k]? = some b) : atB bs b = k := by
  have hm : b ∈ bs := List.mem_of_getElem? h
  have h1 := atB_get hm
  have h2 := atB_lt hm
  have h3 := (List.getElem?_eq_some_iff.1 h).1
  exact (List.getElem?_inj h2 hn).1 (h1.trans h.symm)
theorem atB_add {bs : List (List α)} (b : List α) {x : List α} (h : x ∈ bs) : atB (addB bs b) x = atB bs x := by
  unfold addB atB
  split
  · rfl
  · rw [List.idxOf_append, if_pos h]
theorem atB_new {bs : List (List α)} {b : List α} (h : b ∉ bs) : atB (addB bs b) b = bs.length := by
  unfold addB atB
  rw [if_neg h, List.idxOf_append, if_neg h]
  simp

/-- Which block stands for the numbers of block q. -/
def idxM (f : Int → α) (size : Int) (q : Nat) : Nat := atB (blocksM f size (q + 1)) (blockM f size q)
theorem blocksM_get_mono {f : Int → α} {size : Int} {x : List α} {k a : Nat} (h : (blocksM f size a)[k]? = some x) : ∀ d, (blocksM f size (a + d))[k]? = some x
  | 0 => h
  | d + 1 => addB_get (blocksM_get_mono h d)
theorem idxM_get {f : Int → α} {size : Int} {q a : Nat} (h : q < a) : (blocksM f size a)[idxM f size q]? = some (blockM f size q) := by
  have h1 : (blocksM f size (q + 1))[idxM f size q]? = some (blockM f size q) := atB_get (addB_mem _ _)
  have := blocksM_get_mono h1 (a - (q + 1))
  rwa [Nat.add_sub_cancel' (by omega)] at this
theorem idxM_lt {f : Int → α} {size : Int} {q a : Nat} (h : q < a) : idxM f size q < (blocksM f size a).length := (List.getElem?_eq_some_iff.1 (idxM_get h)).1

/-- What the trie tells of a number. -/
theorem trie_get (f : Int → α) (size : Int) {i a : Nat} (h1 : (i : Int) < size) (h2 : i / 128 < a) : ((blocksM f size a)[idxM f size (i / 128)]?.bind fun b => b[i % 128]?) = some (f i) := by
  rw [idxM_get h2, Option.bind_some, blockM_get _ _ _ (by omega)]
  congr 2
  have : 128 * (i / 128) + i % 128 = i := by omega
  rw [this]
  omega

omit [DecidableEq α] in
/-- A block of one value. -/
theorem blockM_even {f : Int → α} {size : Int} {q : Nat} {v : α} {u : Int} (h : ∀ j, 128 * (q : Int) ≤ j → j ≤ u → f j = v) (h0 : 128 * (q : Int) < size) (hu : min (128 * (q : Int) + 128) size - 1 ≤ u) : blockM f size q = List.replicate 128 v := by
  unfold blockM
  rw [List.eq_replicate_iff]
  refine ⟨by simp, fun x hx => ?_⟩
  obtain ⟨r, hr, rfl⟩ := List.mem_map.1 hx
  have := List.mem_range.1 hr
  exact h _ (by omega) (by omega)

theorem blocksM_again {f : Int → α} {size : Int} {q : Nat} (h : blockM f size q ∈ blocksM f size q) : blocksM f size (q + 1) = blocksM f size q := by
  show addB _ _ = _
  exact if_pos h

theorem blocksM_congr {f g : Int → α} {size : Int} (h : ∀ i, i < size → f i = g i) : ∀ a, blocksM f size a = blocksM g size a
  | 0 => rfl
  | a + 1 => by
    unfold blocksM
    rw [blocksM_congr h a]
    congr 1
    unfold blockM
    apply List.map_congr_left
    intro r _
    apply h
    omega

end
end Go.Proofs.Ytakbfppmgngdiaa
