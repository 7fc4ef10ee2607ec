/-
  What comes in: a slice of deeds (of law 20), as the words of the walk have it. Plain lemmas over the reading of arguments.
-/
import Derived.Test.YtcbachblhfkcoaaPlaysW
import Derived.Test.YtcbachblhfkcoaaArgs
namespace Go.Proofs.Ytcbachblhfkcoaa
open Go.ChangeShapes Go.WideShapes Go.ChangeAt Go.RowKit Go.Deep

instance : Inhabited DeedM := ⟨⟨0, 0, []⟩⟩

section
variable {H : Type} {enc : TypeId × Value → H} {w : World} {base : Nat} {spare : Nat → Bool} {held : Bool}

theorem in_deed {fuel : Nat} {cs : List Value} {x : DataW H × List MemPlace} (h : DataW.trod enc Try.prog w base spare held fuel 39 cs = some x) :
    ∃ (d : DeedM) (B : Option Addr) (m e : Nat), cs = [.int .i64 d.kind, .int .i64 d.i, .slice B m e] ∧ Ru w Any B m e d.s := by
  obtain ⟨y0, y1, y2, n, _, hl, h0, h1, h2⟩ := trod_struct3 Try.underlying39 h
  have c3 : Try.prog.cellsOf 39 = 3 := by kernel_rfl
  have ci : Try.prog.cellsOf 3 = 1 := by kernel_rfl
  have cr : Try.prog.cellsOf 23 = 1 := by kernel_rfl
  rw [c3] at hl
  dsimp only at h0 h1 h2
  rw [ci] at h0 h1
  rw [cr] at h2
  match cs, hl with
  | [v0, v1, v2], _ =>
    simp only [List.drop_zero, List.drop_succ_cons, List.take_succ_cons, List.take_zero] at h0 h1 h2
    obtain ⟨k, e0, _, _⟩ := DataW.trod_int Try.underlying3 h0
    obtain ⟨i, e1, _, _⟩ := DataW.trod_int Try.underlying3 h1
    injection e0 with e0
    injection e1 with e1
    subst e0 e1
    rcases open_ints Try.underlying23 Try.underlying21 (by kernel_rfl) h2 with ⟨h3, _⟩ | ⟨b, p, d, zs, h3, _⟩
    · injection h3 with h3
      subst h3
      exact ⟨⟨k, i, []⟩, none, 0, 0, rfl, Ru.nil _ _⟩
    · injection h3 with h3
      subst h3
      obtain ⟨xs, g1, _, _⟩ := in_ints Try.underlying23 Try.underlying21 (by kernel_rfl) h2
      exact ⟨⟨k, i, xs⟩, _, _, _, rfl, g1⟩

/-- A slice of deeds. -/
theorem in_deeds {fuel : Nat} {A : Option Addr} {n c : Nat} {x : DataW H × List MemPlace} (h : DataW.trod enc Try.prog w base spare held fuel 35 [.slice A n c] = some x) :
    ∃ ds : List DeedM, Dds w Any A n c ds ∧ True := by
  have c3 : Try.prog.cellsOf 39 = 3 := by kernel_rfl
  rcases open_slice Try.underlying35 h with ⟨h0, _⟩ | ⟨a, l, cap, m, f, D, Pl, h0, _, hl, hm, hmm, _, hi⟩
  · cases h0
    exact ⟨[], ⟨Nat.le_refl _, by simp [maxLen], rfl, fun j d hd => by simp at hd⟩, trivial⟩
  · cases h0
    rw [c3] at hi
    have hnm : n ≤ m := by rw [hmm]; split <;> omega
    have hel : ∀ i, i < n → ∃ (q : DeedM × Option Addr × Nat × Nat), w.cell? (a.add (i * 3)) = some (.int .i64 q.1.kind) ∧ w.cell? ⟨(a.add (i * 3)).block, (a.add (i * 3)).off + 1, none⟩ = some (.int .i64 q.1.i) ∧
        w.cell? ⟨(a.add (i * 3)).block, (a.add (i * 3)).off + 2, none⟩ = some (.slice q.2.1 q.2.2.1 q.2.2.2) ∧ Ru w Any q.2.1 q.2.2.1 q.2.2.2 q.1.s := by
      intro i hin
      obtain ⟨cs', h1, h2⟩ := hi i (by omega)
      obtain ⟨_, _, hc⟩ := World.cells?_some h1
      obtain ⟨d, B, p, e, rfl, hr⟩ := in_deed h2
      have k0 := hc 0 (by omega)
      have k1 := hc 1 (by omega)
      have k2 := hc 2 (by omega)
      rw [add_zero] at k0
      exact ⟨(d, B, p, e), k0, k1, k2, hr⟩
    obtain ⟨Q, hQ⟩ := choose_lt (p := fun i (q : DeedM × Option Addr × Nat × Nat) => w.cell? (a.add (i * 3)) = some (.int .i64 q.1.kind) ∧ w.cell? ⟨(a.add (i * 3)).block, (a.add (i * 3)).off + 1, none⟩ = some (.int .i64 q.1.i) ∧
        w.cell? ⟨(a.add (i * 3)).block, (a.add (i * 3)).off + 2, none⟩ = some (.slice q.2.1 q.2.2.1 q.2.2.2) ∧ Ru w Any q.2.1 q.2.2.1 q.2.2.2 q.1.s) (n := n) hel
    refine ⟨(List.range n).map fun i => (Q i).1, ⟨hl, hm, by simp, fun j d hd => ?_⟩, trivial⟩
    rw [List.getElem?_map] at hd
    rcases Nat.lt_or_ge j n with hj | hj
    · rw [List.getElem?_range hj] at hd
      simp at hd
      subst hd
      obtain ⟨g0, g1, g2, g3⟩ := hQ j hj
      exact ⟨a, _, _, _, rfl, g0, g1, g2, g3⟩
    · rw [List.getElem?_eq_none (by simpa using hj)] at hd
      simp at hd
end

/-- As the frame asks it. -/
theorem pastPlays_walk {w0 : World} (A : Option Addr) (n c : Nat) (ds : List DeedM) (hD : Dds w0 Any A n c ds) (_ : True) (w : World) (hw : w = w0 := by rfl) :
    Calls Try.prog 4 #[.slice A n c] w fun e w' => e = .returned (.bool true) ∧ Kp w w' := by
  subst hw
  exact plays_walk' A n c ds w hD
end Go.Proofs.Ytcbachblhfkcoaa
