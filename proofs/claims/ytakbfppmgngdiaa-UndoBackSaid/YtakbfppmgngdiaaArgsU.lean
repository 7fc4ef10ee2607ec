/-
  What comes in: a slice of deeds of law 19. Plain lemmas over the reading of arguments.
-/
import Derived.Test.YtakbfppmgngdiaaUndoN
import Derived.Test.YtakbfppmgngdiaaArgsL
namespace Go.Proofs.Ytakbfppmgngdiaa
open Go.ChangeShapes Go.WideShapes Go.ChangeAt Go.RowKit Go.Deep

instance : Inhabited Ed := ⟨⟨0, [], []⟩⟩
section
variable {H : Type} {enc : TypeId × Value → H} {w : World} {base : Nat} {spare : Nat → Bool} {held : Bool}

theorem in_rs {fuel : Nat} {v : Value} {x : DataW H × List MemPlace} (h : DataW.trod enc Try.prog w base spare held fuel 49 [v] = some x) : ∃ A n c xs, v = .slice A n c ∧ Ru w Any A n c xs := by
  rcases open_ints Try.underlying49 Try.underlying21 (by kernel_rfl) h with ⟨h3, _⟩ | ⟨b, p, d, zs, h3, _⟩
  · injection h3 with h3
    exact ⟨none, 0, 0, [], h3, Ru.nil _ _⟩
  · injection h3 with h3
    subst h3
    obtain ⟨xs, g1, _, _⟩ := in_ints Try.underlying49 Try.underlying21 (by kernel_rfl) h
    exact ⟨_, _, _, xs, rfl, g1⟩
theorem in_du {fuel : Nat} {cs : List Value} {x : DataW H × List MemPlace} (h : DataW.trod enc Try.prog w base spare held fuel 53 cs = some x) : ∃ d : DuM, DuV w d cs ∧ d.e.at_ ≤ 9223372036854775807 := by
  obtain ⟨y0, y1, y2, n, _, hl, h0, h1, h2⟩ := trod_struct3 Try.underlying53 h
  have c5 : Try.prog.cellsOf 53 = 5 := by kernel_rfl
  have ci : Try.prog.cellsOf 3 = 1 := by kernel_rfl
  have cr : Try.prog.cellsOf 49 = 1 := by kernel_rfl
  have ce : Try.prog.cellsOf 51 = 3 := by kernel_rfl
  rw [c5] at hl
  dsimp only at h0 h1 h2
  rw [ci] at h0 h1
  rw [ce] at h2
  match cs, hl with
  | [v0, v1, v2, v3, v4], _ =>
    simp only [List.drop_zero, List.drop_succ_cons, List.take_succ_cons, List.take_zero] at h0 h1 h2
    obtain ⟨k, e0, _, _⟩ := DataW.trod_int Try.underlying3 h0
    obtain ⟨i, e1, _, _⟩ := DataW.trod_int Try.underlying3 h1
    injection e0 with e0
    injection e1 with e1
    subst e0 e1
    obtain ⟨z0, z1, z2, n', _, _, g0, g1, g2⟩ := trod_struct3 Try.underlying51 h2
    dsimp only at g0 g1 g2
    rw [ci] at g0
    rw [cr] at g1 g2
    simp only [List.drop_zero, List.drop_succ_cons, List.take_succ_cons, List.take_zero] at g0 g1 g2
    obtain ⟨a, e2, _, hwf⟩ := DataW.trod_int Try.underlying3 g0
    injection e2 with e2
    subst e2
    obtain ⟨B, m, d, xs, rfl, hr1⟩ := in_rs g1
    obtain ⟨C, p, q, ys, rfl, hr2⟩ := in_rs g2
    exact ⟨⟨k, i, ⟨a, xs, ys⟩⟩, ⟨B, m, d, C, p, q, rfl, hr1, hr2⟩, (wf64 hwf).2⟩

/-- A slice of deeds. -/
theorem in_dus {fuel : Nat} {A : Option Addr} {n c : Nat} {x : DataW H × List MemPlace} (h : DataW.trod enc Try.prog w base spare held fuel 44 [.slice A n c] = some x) :
    ∃ ds : List DuM, Dus w A n c ds ∧ ∀ d ∈ ds, d.e.at_ ≤ 9223372036854775807 :=
  in_lst Try.underlying44 (by kernel_rfl) (by omega) DuV.len (fun _ _ _ h => in_du h) h
end
end Go.Proofs.Ytakbfppmgngdiaa
