/-
  A box of events as a plain list: what is taken in, and told. Plain definitions and lemmas, no program.
-/
namespace Go.Proofs.Ytakbfppmgngdiaa

structure Ev where
  kind : Int
  byte : Int
  rows : Int
  cols : Int

def Ev.norm (x : Ev) : Ev := ⟨x.kind, if x.kind = 1 then x.byte else 0, if x.kind = 3 then x.rows else 0, if x.kind = 3 then x.cols else 0⟩
def Ev.ok (x : Ev) : Prop := x.norm = x ∧ (x.kind = 1 ∨ x.kind = 2 ∨ x.kind = 3)
def ofK (k : Int) (q : List Ev) : List Ev := q.filter fun e => decide (e.kind = k)
theorem ofK_append (k : Int) (p q : List Ev) : ofK k (p ++ q) = ofK k p ++ ofK k q := by simp [ofK]
theorem ofK_none {k : Int} {q : List Ev} (h : ∀ e ∈ q, e.kind ≠ k) : ofK k q = [] := by
  unfold ofK; rw [List.filter_eq_nil_iff]; intro e he; simpa using h e he
theorem ofK_hit {k : Int} {x : Ev} (h : x.kind = k) (q : List Ev) : ofK k (x :: q) = x :: ofK k q := by simp [ofK, h]
theorem ofK_miss {k : Int} {x : Ev} (h : x.kind ≠ k) (q : List Ev) : ofK k (x :: q) = ofK k q := by simp [ofK, h]

/-- The first one of a kind, and what is left. -/
def takeK (k : Int) : List Ev → Option (Ev × List Ev)
  | [] => none
  | e :: r => if e.kind = k then some (e, r) else (takeK k r).map fun p => (p.1, e :: p.2)

theorem takeK_split (k : Int) (q : List Ev) : (takeK k q = none ∧ ∀ e ∈ q, e.kind ≠ k) ∨ ∃ l x r, takeK k q = some (x, l ++ r) ∧ q = l ++ x :: r ∧ x.kind = k ∧ ∀ e ∈ l, e.kind ≠ k := by
  induction q with
  | nil => exact .inl ⟨rfl, by simp⟩
  | cons e r ih =>
    by_cases h : e.kind = k
    · exact .inr ⟨[], e, r, by simp [takeK, h], rfl, h, by simp⟩
    · rcases ih with ⟨h1, h2⟩ | ⟨l, x, r', h1, h2, h3, h4⟩
      · refine .inl ⟨by simp [takeK, h, h1], fun e' he => ?_⟩
        rcases List.mem_cons.1 he with rfl | he
        · exact h
        · exact h2 e' he
      · refine .inr ⟨e :: l, x, r', by simp [takeK, h, h1], by rw [h2]; rfl, h3, fun e' he => ?_⟩
        rcases List.mem_cons.1 he with rfl | he
        · exact h
        · exact h4 e' he

/-- The next one that is told. -/
def nextM (q : List Ev) : Option (Ev × List Ev) :=
  match takeK 3 q with
  | some p => some p
  | none => match takeK 1 q with
    | some p => some p
    | none => takeK 2 q

def Ev.zero : Ev := ⟨0, 0, 0, 0⟩
/-- Is an event taken in? -/
def putB (room : Nat) (q : List Ev) (x : Ev) : Bool := (decide (x.kind = 1) || decide (x.kind = 2) || decide (x.kind = 3)) && decide ((ofK x.kind q).length < room)
def putM (room : Nat) (q : List Ev) (x : Ev) : List Ev := if putB room q x then q ++ [x.norm] else q

theorem Ev.norm_kind (x : Ev) : x.norm.kind = x.kind := rfl
theorem Ev.norm_ok {x : Ev} (h : x.kind = 1 ∨ x.kind = 2 ∨ x.kind = 3) : x.norm.ok := by
  refine ⟨?_, h⟩
  unfold Ev.norm
  rcases h with h | h | h <;> simp [h]
def okQ (q : List Ev) : Prop := ∀ e ∈ q, e.ok
theorem okQ_nil : okQ [] := fun e h => by cases h
theorem putM_ok {room : Nat} {q : List Ev} {x : Ev} (h : okQ q) : okQ (putM room q x) := by
  unfold putM
  split
  · rename_i hb
    intro e he
    rcases List.mem_append.1 he with he | he
    · exact h e he
    · simp at he
      subst he
      simp [putB] at hb
      exact Ev.norm_ok (or_assoc.1 hb.1)
  · exact h
theorem okQ_split {l r : List Ev} {x : Ev} (h : okQ (l ++ x :: r)) : okQ (l ++ r) ∧ x.ok :=
  ⟨fun e he => h e (by simp at he ⊢; exact he.elim .inl fun h => .inr (.inr h)), h x (by simp)⟩
theorem ofK_len_le (k : Int) (q : List Ev) : (ofK k q).length ≤ q.length := List.length_filter_le _ _
end Go.Proofs.Ytakbfppmgngdiaa
