/-
  What comes in: a slice of structs, whatever they are. Plain lemmas over the reading of arguments.
-/
import Derived.Test.YtakbfppmgngdiaaUndoH
import Derived.Test.YtakbfppmgngdiaaArgs0
namespace Go.Proofs.Ytakbfppmgngdiaa
open Go.ChangeShapes Go.WideShapes Go.ChangeAt Go.RowKit Go.Deep

section
variable {H : Type} {enc : TypeId × Value → H} {P : Program} {w : World} {base : Nat} {spare : Nat → Bool} {held : Bool}

theorem flat_at {β : Type} {k : Nat} {css : List (List β)} {j : Nat} {u : β} (hk : ∀ c ∈ css, c.length = k) (h : css.flatten[j]? = some u) : ∃ i r c, j = i * k + r ∧ r < k ∧ css[i]? = some c ∧ c[r]? = some u := by
  have hj := (List.getElem?_eq_some_iff.1 h).1
  rw [flat_len hk] at hj
  have hk0 : 0 < k := by
    rcases Nat.eq_zero_or_pos k with h0 | h0
    · subst h0; omega
    · exact h0
  have hi : j / k < css.length := Nat.div_lt_of_lt_mul (by rw [Nat.mul_comm]; exact hj)
  refine ⟨j / k, j % k, css[j / k], ?_, Nat.mod_lt _ hk0, List.getElem?_eq_getElem _, ?_⟩
  · rw [Nat.mul_comm]; exact (Nat.div_add_mod j k).symm
  · rw [← flat_get hk (List.getElem?_eq_getElem hi) (Nat.mod_lt j hk0), show j / k * k + j % k = j from by rw [Nat.mul_comm]; exact Nat.div_add_mod j k]
    exact h

theorem relL_range {α β : Type} {R : α → β → Prop} {f : Nat → α} {g : Nat → β} : ∀ (n : Nat), (∀ i, i < n → R (f i) (g i)) → RelL R ((List.range n).map f) ((List.range n).map g)
  | 0, _ => trivial
  | n + 1, h => by
    rw [List.range_succ, List.map_append, List.map_append]
    exact (relL_range n fun i hi => h i (by omega)).app (RelL.one (h n (by omega)))

/-- A slice of structs. -/
theorem in_lst {α : Type} [Inhabited α] {R : World → α → List Value → Prop} {p : α → Prop} {k : Nat} {t e : TypeId} {fuel : Nat} {A : Option Addr} {n c : Nat} {x : DataW H × List MemPlace} (ht : P.underlying t = some (.slice e)) (ce : P.cellsOf e = k) (hk0 : 0 < k)
    (hk : ∀ x cs, R w x cs → cs.length = k)
    (hel : ∀ (f : Nat) (cs : List Value) (y : DataW H × List MemPlace), DataW.trod enc P w base spare held f e cs = some y → ∃ a, R w a cs ∧ p a)
    (h : DataW.trod enc P w base spare held fuel t [.slice A n c] = some x) : ∃ xs : List α, Lst R k w A n c xs ∧ ∀ a ∈ xs, p a := by
  rcases open_slice ht h with ⟨h0, _⟩ | ⟨a, l, cap, m, f, D, Pl, h0, _, hl, hm, hmm, _, hi⟩
  · cases h0
    exact ⟨[], Lst.nil, by simp⟩
  · cases h0
    rw [ce] at hi
    have hnm : n ≤ m := by rw [hmm]; split <;> omega
    have hel' : ∀ i, i < n → ∃ q : α × List Value, R w q.1 q.2 ∧ p q.1 ∧ ∀ r, r < k → w.cell? (a.add (i * k + r)) = q.2[r]? := by
      intro i hin
      obtain ⟨cs', h1, h2⟩ := hi i (by omega)
      obtain ⟨_, hl', hc⟩ := World.cells?_some h1
      obtain ⟨b, hb, hp⟩ := hel _ _ _ h2
      exact ⟨(b, cs'), hb, hp, fun r hr => by rw [← hc r hr, add_add]⟩
    obtain ⟨Q, hQ⟩ := choose_lt hel'
    have hlen : ∀ cs ∈ (List.range n).map fun i => (Q i).2, cs.length = k := by
      intro cs hcs
      rw [List.mem_map] at hcs
      obtain ⟨i, hi', rfl⟩ := hcs
      exact hk _ _ (hQ i (List.mem_range.1 hi')).1
    refine ⟨(List.range n).map fun i => (Q i).1, ⟨(List.range n).map fun i => (Q i).2, ⟨hl, hm, by rw [flat_len hlen]; simp, fun hn => ⟨a, rfl, trivial, ?_, fun j u hu => ?_⟩⟩, relL_range n fun i hin => (hQ i hin).1, by simp⟩, ?_⟩
    · obtain ⟨hR, _, hc⟩ := hQ 0 hn
      have h1 := hc 0 hk0
      have h2 := hk _ _ hR
      rw [List.getElem?_eq_getElem (by omega), Nat.zero_mul, add_zero] at h1
      exact World.block_lt_of_cell? w a h1
    · obtain ⟨i, r, cs, rfl, hr, hcs, hcu⟩ := flat_at hlen hu
      rw [List.getElem?_map] at hcs
      rcases Nat.lt_or_ge i n with hin | hin
      · rw [List.getElem?_range hin] at hcs
        simp at hcs
        subst hcs
        rw [(hQ i hin).2.2 r hr]
        exact hcu
      · rw [List.getElem?_eq_none (by simpa using hin)] at hcs
        simp at hcs
    · intro b hb
      rw [List.mem_map] at hb
      obtain ⟨i, hi', rfl⟩ := hb
      exact (hQ i (List.mem_range.1 hi')).2.1
end

theorem wf64 {y : Int} (h : (Lit.int .i64 y).wf = true) : -9223372036854775808 ≤ y ∧ y ≤ 9223372036854775807 := by
  simp [Lit.wf, IntKind.min, IntKind.max, IntKind.signed, IntKind.bits] at h
  omega
end Go.Proofs.Ytakbfppmgngdiaa
