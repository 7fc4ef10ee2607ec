/-
  What comes in: slices of events, and of deeds that hold one, as the words of the walk have them. Plain lemmas over the reading of arguments.
-/
import Derived.Test.YtakbfppmgngdiaaLoopPlW
import Derived.Test.YtakbfppmgngdiaaArgs0
import Derived.Lib.SmallJoins
namespace Go.Proofs.Ytakbfppmgngdiaa
open Go.ChangeShapes Go.WideShapes Go.ChangeAt Go.RowKit Go.Deep

instance : Inhabited Ev := ⟨⟨0, 0, 0, 0⟩⟩

section
variable {H : Type} {enc : TypeId × Value → H} {w : World} {base : Nat} {spare : Nat → Bool} {held : Bool}

theorem in_ev {fuel : Nat} {cs : List Value} {x : DataW H × List MemPlace} (h : DataW.trod enc Try.prog w base spare held fuel 30 cs = some x) : ∃ e : Ev, cs = evC e := by
  obtain ⟨y0, y1, y2, y3, n, _, hl, h0, h1, h2, h3⟩ := Go.Joins.trod_struct4 Try.underlying30 h
  have c4 : Try.prog.cellsOf 30 = 4 := by kernel_rfl
  have ci : Try.prog.cellsOf 3 = 1 := by kernel_rfl
  have cu : Try.prog.cellsOf 5 = 1 := by kernel_rfl
  rw [c4] at hl
  dsimp only at h0 h1 h2 h3
  rw [ci] at h0 h2 h3
  rw [cu] at h1
  match cs, hl with
  | [v0, v1, v2, v3], _ =>
    simp only [List.drop_zero, List.drop_succ_cons, List.take_succ_cons, List.take_zero] at h0 h1 h2 h3
    obtain ⟨a, e0, _, _⟩ := DataW.trod_int Try.underlying3 h0
    obtain ⟨b, e1, _, _⟩ := DataW.trod_int Try.underlying5 h1
    obtain ⟨c, e2, _, _⟩ := DataW.trod_int Try.underlying3 h2
    obtain ⟨d, e3, _, _⟩ := DataW.trod_int Try.underlying3 h3
    injection e0 with e0
    injection e1 with e1
    injection e2 with e2
    injection e3 with e3
    subst e0 e1 e2 e3
    exact ⟨⟨a, b, c, d⟩, rfl⟩
theorem in_deed38 {fuel : Nat} {cs : List Value} {x : DataW H × List MemPlace} (h : DataW.trod enc Try.prog w base spare held fuel 32 cs = some x) : ∃ e : Ev, cs = evC e := by
  obtain ⟨y0, n, _, hl, h0⟩ := trod_struct1 Try.underlying32 h
  have c4 : Try.prog.cellsOf 32 = 4 := by kernel_rfl
  have ce : Try.prog.cellsOf 30 = 4 := by kernel_rfl
  rw [c4] at hl
  dsimp only at h0
  rw [ce, List.drop_zero, List.take_of_length_le (by omega)] at h0
  exact in_ev h0

theorem evCells_at (q : List Ev) (j : Nat) (u : Value) (h : (evCells q)[j]? = some u) : ∃ i r e, j = i * 4 + r ∧ r < 4 ∧ q[i]? = some e ∧ (evC e)[r]? = some u := by
  have hj := (List.getElem?_eq_some_iff.1 h).1
  rw [evCells_length] at hj
  obtain ⟨e, he⟩ : ∃ e, q[j / 4]? = some e := ⟨q[j / 4]'(by omega), List.getElem?_eq_getElem _⟩
  obtain ⟨g0, g1, g2, g3⟩ := evCells_get q (j / 4) e he
  refine ⟨j / 4, j % 4, e, by omega, by omega, he, ?_⟩
  have hr : j % 4 = 0 ∨ j % 4 = 1 ∨ j % 4 = 2 ∨ j % 4 = 3 := by omega
  have hs : j = j / 4 * 4 + j % 4 := by omega
  rcases hr with hr | hr | hr | hr
  · rw [hr] at hs ⊢; rw [hs, Nat.add_zero] at h; rw [g0] at h; exact h
  · rw [hr] at hs ⊢; rw [hs] at h; rw [g1] at h; exact h
  · rw [hr] at hs ⊢; rw [hs] at h; rw [g2] at h; exact h
  · rw [hr] at hs ⊢; rw [hs] at h; rw [g3] at h; exact h

theorem in_evs' {t e : TypeId} {fuel : Nat} {A : Option Addr} {n c : Nat} {x : DataW H × List MemPlace} (ht : Try.prog.underlying t = some (.slice e)) (ce : Try.prog.cellsOf e = 4)
    (hin : ∀ {f : Nat} {cs : List Value} {y : DataW H × List MemPlace}, DataW.trod enc Try.prog w base spare held f e cs = some y → ∃ e : Ev, cs = evC e)
    (h : DataW.trod enc Try.prog w base spare held fuel t [.slice A n c] = some x) : ∃ q : List Ev, Evs w A n c q ∧ True := by
  rcases open_slice ht h with ⟨h0, _⟩ | ⟨a, l, cap, m, f, D, Pl, h0, _, hl, hm, hmm, _, hi⟩
  · cases h0
    exact ⟨[], Sl.nil _ _ _, trivial⟩
  · cases h0
    rw [ce] at hi
    have hnm : n ≤ m := by rw [hmm]; split <;> omega
    have hel : ∀ i, i < n → ∃ q : Ev, ∀ r, r < 4 → w.cell? (a.add (i * 4 + r)) = (evC q)[r]? := by
      intro i hin'
      obtain ⟨cs', h1, h2⟩ := hi i (by omega)
      obtain ⟨_, _, hc⟩ := World.cells?_some h1
      obtain ⟨q, rfl⟩ := hin h2
      exact ⟨q, fun r hr => by rw [← add_add]; exact hc r hr⟩
    obtain ⟨Q, hQ⟩ := choose_lt (p := fun i (q : Ev) => ∀ r, r < 4 → w.cell? (a.add (i * 4 + r)) = (evC q)[r]?) (n := n) hel
    refine ⟨(List.range n).map Q, ⟨hl, hm, by rw [evCells_length]; simp, fun hn => ⟨a, rfl, trivial, ?_, fun j u hu => ?_⟩⟩, trivial⟩
    · have := hQ 0 hn 0 (by omega)
      rw [Nat.zero_mul, add_zero] at this
      exact World.block_lt_of_cell? w a this
    · obtain ⟨i, r, e, rfl, hr, he, hc⟩ := evCells_at _ j u hu
      rw [List.getElem?_map] at he
      rcases Nat.lt_or_ge i n with hj | hj
      · rw [List.getElem?_range hj] at he
        simp at he
        subst he
        rw [hQ i hj r hr, hc]
      · rw [List.getElem?_eq_none (by simpa using hj)] at he
        simp at he
theorem in_evs {fuel : Nat} {A : Option Addr} {n c : Nat} {x : DataW H × List MemPlace} (h : DataW.trod enc Try.prog w base spare held fuel 26 [.slice A n c] = some x) : ∃ q : List Ev, Evs w A n c q ∧ True :=
  in_evs' Try.underlying26 (by kernel_rfl) (fun h => in_ev h) h
theorem in_deeds38 {fuel : Nat} {A : Option Addr} {n c : Nat} {x : DataW H × List MemPlace} (h : DataW.trod enc Try.prog w base spare held fuel 22 [.slice A n c] = some x) : ∃ q : List Ev, Evs w A n c q ∧ True :=
  in_evs' Try.underlying22 (by kernel_rfl) (fun h => in_deed38 h) h
end

/-- As the frame asks it. -/
theorem loopPlays_walk {w0 : World} (room : Int) (_ : (Lit.int .i64 room).wf = true) (A : Option Addr) (n c : Nat) (ds : List Ev) (hD : Evs w0 A n c ds) (_ : True) (w : World) (hw : w = w0 := by rfl) :
    Calls Try.prog 3 #[.int .i64 room, .slice A n c] w fun e w' => e = .returned (.bool true) ∧ Kp w w' := by
  subst hw
  exact loopPlays_walk' room A n c ds w hD
end Go.Proofs.Ytakbfppmgngdiaa
