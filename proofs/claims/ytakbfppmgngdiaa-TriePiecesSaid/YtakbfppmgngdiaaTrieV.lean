/-
  What comes in: a slice of pieces of law 03. Plain lemmas over the reading of arguments.
-/
import Derived.Test.YtakbfppmgngdiaaTrieA
import Derived.Test.YtakbfppmgngdiaaArgsL
namespace Go.Proofs.Ytakbfppmgngdiaa
open Go.ChangeShapes Go.WideShapes Go.ChangeAt Go.RowKit Go.Deep

instance : Inhabited (Pc Int) := ⟨⟨0, 0, 0⟩⟩
/-- The cells of a piece. -/
def PcV (_ : World) (p : Pc Int) (cs : List Value) : Prop := cs = [.int .i64 p.fr, .int .i64 p.to, .int .i64 p.v]
theorem PcV.flat {w : World} : ∀ {l : List (Pc Int)} {css : List (List Value)}, RelL (PcV w) l css → css.flatten = cellsP (Value.int .i64) l
  | [], [], _ => rfl
  | p :: l, cs :: css, h => by
    obtain ⟨h1, h2⟩ := h
    unfold PcV at h1
    rw [List.flatten_cons, PcV.flat h2, h1]
    rfl
section
variable {H : Type} {enc : TypeId × Value → H} {w : World} {base : Nat} {spare : Nat → Bool} {held : Bool}

theorem in_pc {fuel : Nat} {cs : List Value} {x : DataW H × List MemPlace} (h : DataW.trod enc Try.prog w base spare held fuel 114 cs = some x) :
    ∃ p : Pc Int, PcV w p cs ∧ (-9223372036854775808 ≤ p.fr ∧ p.fr ≤ 9223372036854775807) ∧ wfI p.v := by
  obtain ⟨y0, y1, y2, n, _, hl, h0, h1, h2⟩ := trod_struct3 Try.underlying114 h
  have c3 : Try.prog.cellsOf 114 = 3 := by kernel_rfl
  have ci : Try.prog.cellsOf 3 = 1 := by kernel_rfl
  rw [c3] at hl
  dsimp only at h0 h1 h2
  rw [ci] at h0 h1 h2
  match cs, hl with
  | [v0, v1, v2], _ =>
    simp only [List.drop_zero, List.drop_succ_cons, List.take_succ_cons, List.take_zero] at h0 h1 h2
    obtain ⟨a, e0, _, wa⟩ := DataW.trod_int Try.underlying3 h0
    obtain ⟨b, e1, _, _⟩ := DataW.trod_int Try.underlying3 h1
    obtain ⟨c, e2, _, wc⟩ := DataW.trod_int Try.underlying3 h2
    injection e0 with e0
    injection e1 with e1
    injection e2 with e2
    subst e0 e1 e2
    exact ⟨⟨a, b, c⟩, rfl, wf64 wa, wc⟩

/-- A slice of pieces. -/
theorem in_pcs {fuel : Nat} {A : Option Addr} {n c : Nat} {x : DataW H × List MemPlace} (h : DataW.trod enc Try.prog w base spare held fuel 81 [.slice A n c] = some x) :
    ∃ l : List (Pc Int), Pcs (Value.int .i64) w A n c l ∧ ∀ p ∈ l, (-9223372036854775808 ≤ p.fr ∧ p.fr ≤ 9223372036854775807) ∧ wfI p.v := by
  obtain ⟨l, ⟨css, h1, h2, h3⟩, h4⟩ := in_lst (R := PcV) (p := fun p => (-9223372036854775808 ≤ p.fr ∧ p.fr ≤ 9223372036854775807) ∧ wfI p.v) Try.underlying81 (k := 3) (by kernel_rfl) (by omega)
    (fun p cs h => by unfold PcV at h; rw [h]; rfl) (fun _ _ _ h => in_pc h) h
  refine ⟨l, ?_, h4⟩
  rw [PcV.flat h2] at h1
  exact h1
end
end Go.Proofs.Ytakbfppmgngdiaa
