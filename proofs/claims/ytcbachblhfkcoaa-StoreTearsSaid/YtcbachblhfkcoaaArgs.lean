/-
  What comes in: a slice of slices of runes, as the words of Past have it. Plain lemmas over the reading of arguments.
-/
import Derived.Test.YtcbachblhfkcoaaPast
import Derived.Test.YtcbachblhfkcoaaArgs0
namespace Go.Proofs.Ytcbachblhfkcoaa
open Go.ChangeShapes Go.WideShapes Go.ChangeAt Go.RowKit Go.Deep

section
variable {H : Type} {enc : TypeId × Value → H} {P : Program} {w : World} {base : Nat} {spare : Nat → Bool} {held : Bool}

/-- A slice of slices of runes. -/
theorem in_texts {t e q : TypeId} {fuel : Nat} {A : Option Addr} {n c : Nat} {x : DataW H × List MemPlace} (ht : P.underlying t = some (.slice e)) (he : P.underlying e = some (.slice q)) (hq : P.underlying q = some (.int .i32))
    (ce : P.cellsOf e = 1) (cq : P.cellsOf q = 1)
    (h : DataW.trod enc P w base spare held fuel t [.slice A n c] = some x) : ∃ L : List (List Int), Txs w Any Any A n c L ∧ ∀ l ∈ L, ∀ y ∈ l, (Lit.int .i32 y).wf = true := by
  rcases open_slice1 ht ce h with ⟨h0, _⟩ | ⟨a, l, cap, m, f, V, D, Pl, h0, _, hl, hm, hmm, _, hi⟩
  · cases h0
    exact ⟨[], Txs.nil _ _ _, by simp⟩
  · cases h0
    have hnm : n ≤ m := by rw [hmm]; split <;> omega
    have hel : ∀ i, i < n → ∃ (B : Option Addr) (p d : Nat) (xs : List Int), V i = .slice B p d ∧ Ru w Any B p d xs ∧ ∀ y ∈ xs, (Lit.int .i32 y).wf = true := by
      intro i hin
      obtain ⟨_, ht'⟩ := hi i (by omega)
      rcases open_ints he hq cq ht' with ⟨h0, _⟩ | ⟨b, p, d, zs, h0, _⟩
      · injection h0 with h0
        exact ⟨none, 0, 0, [], h0, Ru.nil _ _, by simp⟩
      · injection h0 with h0
        rw [h0] at ht'
        obtain ⟨xs, h1, _, h3⟩ := in_ints he hq cq ht'
        exact ⟨_, _, _, xs, h0, h1, h3⟩
    obtain ⟨B, hB⟩ := choose_lt (p := fun i (q : Option Addr × Nat × Nat × List Int) => V i = .slice q.1 q.2.1 q.2.2.1 ∧ Ru w Any q.1 q.2.1 q.2.2.1 q.2.2.2 ∧ ∀ y ∈ q.2.2.2, (Lit.int .i32 y).wf = true) (n := n)
      (fun i hin => by
        obtain ⟨B, p, d, xs, h1, h2, h3⟩ := hel i hin
        exact ⟨(B, p, d, xs), h1, h2, h3⟩)
    refine ⟨(List.range n).map fun i => (B i).2.2.2, ⟨(List.range n).map V, ⟨hl, hm, by simp, fun hn => ⟨a, rfl, trivial, ?_, fun j u hu => ?_⟩⟩, by simp, fun k y hk => ?_⟩, ?_⟩
    · have := (hi 0 (by omega)).1
      rw [add_zero] at this
      exact World.block_lt_of_cell? w a this
    · rw [List.getElem?_map] at hu
      rcases Nat.lt_or_ge j n with hj | hj
      · rw [List.getElem?_range hj] at hu
        simp at hu
        rw [(hi j (by omega)).1, hu]
      · rw [List.getElem?_eq_none (by simpa using hj)] at hu
        simp at hu
    · rw [List.getElem?_map] at hk ⊢
      rcases Nat.lt_or_ge k n with hj | hj
      · rw [List.getElem?_range hj] at hk ⊢
        simp at hk
        subst hk
        have := hB k hj
        refine ⟨(B k).1, (B k).2.1, (B k).2.2.1, by simp [this.1], this.2.1⟩
      · rw [List.getElem?_eq_none (by simpa using hj)] at hk
        simp at hk
    · intro l hl y hy
      simp at hl
      obtain ⟨i, hi', rfl⟩ := hl
      exact (hB i hi').2.2 y hy
end
end Go.Proofs.Ytcbachblhfkcoaa
