/-
  slices.Clone at []undo.Group and at []shift.Edit: a fresh row of the same cells (nil stays nil). Conditions: the rows can be read, and hold fewer than 2^40 elements.
-/
import Derived.Test.YtakbfppmgngdiaaUndoH
import Derived.WalkSpells
namespace Go.Proofs.Ytakbfppmgngdiaa
open Go.RowKit

theorem infoGrp : (Try.prog.info? 62).map (fun i => (i.zero, i.size, i.bytes)) = some (some (.agg #[.slice none 0 0, .int .i64 0]), 2, 32) := by kernel_rfl
theorem infoEd : (Try.prog.info? 56).map (fun i => (i.zero, i.size, i.bytes)) = some (some (.agg #[.int .i64 0, .slice none 0 0, .slice none 0 0]), 3, 56) := by kernel_rfl

def RetRow (t : TypeId) (k n : Nat) (vs : List Value) (w : World) (e : Ending) (w' : World) : Prop := ∃ A c, e = .returned (.slice A n c) ∧ Own w' w.heap.size t k A n c vs ∧ Kp w w'

set_option maxHeartbeats 800000 in
theorem cloneGrp_sl (F : Nat → Prop) (A : Option Addr) (n c : Nat) (vs : List Value) (w : World) (h : Sl w F 2 A n c vs) (h1 : ∀ u ∈ vs, u.oneCell' = true) (hn : n ≤ 1099511627776) :
    Calls Try.prog 55 #[.slice A n c] w (RetRow 62 2 n vs w) := by
  have heq := fun (wx : World) (a : Option Addr) (l d : Nat) => Lib.run_eql_slice_nil (P := Try.prog) wx 45 62 a l d 0 0 Try.underlying45
  have hcap := h.cap
  rcases A with _ | ad
  · have h0 : n = 0 := by
      rcases Nat.eq_zero_or_pos n with h0 | h0
      · exact h0
      · obtain ⟨ad, e, _⟩ := h.at_ h0
        cases e
    have hv : vs = [] := List.eq_nil_of_length_eq_zero (by rw [h.len, h0, Nat.zero_mul])
    subst hv
    subst h0
    go_enter Try.func55, Try.ntmps55
    go_wp2
    go_ret
    exact ⟨none, 0, rfl, Own.nil _ _ _ _, Kp.refl _⟩
  · have H1 := Lib.hid h1
    clear h1
    go_enter Try.func55, Try.ntmps55
    go_wp2_with (at_builtin; refine wpList_append_sl _ rfl _ _ _ rfl w.heap.size 62 _ 2 32 Try.underlying45 infoGrp rfl (by omega) (some ⟨w.heap.size, 0, none⟩) 0 0 [] rfl (World.ownsRow_made _ _ _ (Nat.le_refl _) (by simp [maxLen]) rfl) F (some ad) n c vs rfl (h.alloc _) H1.out (by simp only [maxLen]; omega) (by omega) (by simp) ?_; intro A' c' w1 hown hg hat)
    go_wp2
    go_ret
    have hk : Kp w w1 := ((Kp.refl w).alloc _).grown hg (by simp [rowOf])
    exact ⟨A', c', by simp, by simpa using hown, hk⟩

set_option maxHeartbeats 800000 in
theorem cloneEd_sl (F : Nat → Prop) (A : Option Addr) (n c : Nat) (vs : List Value) (w : World) (h : Sl w F 3 A n c vs) (h1 : ∀ u ∈ vs, u.oneCell' = true) (hn : n ≤ 1099511627776) :
    Calls Try.prog 56 #[.slice A n c] w (RetRow 56 3 n vs w) := by
  have heq := fun (wx : World) (a : Option Addr) (l d : Nat) => Lib.run_eql_slice_nil (P := Try.prog) wx 60 56 a l d 0 0 Try.underlying60
  have hcap := h.cap
  rcases A with _ | ad
  · have h0 : n = 0 := by
      rcases Nat.eq_zero_or_pos n with h0 | h0
      · exact h0
      · obtain ⟨ad, e, _⟩ := h.at_ h0
        cases e
    have hv : vs = [] := List.eq_nil_of_length_eq_zero (by rw [h.len, h0, Nat.zero_mul])
    subst hv
    subst h0
    go_enter Try.func56, Try.ntmps56
    go_wp2
    go_ret
    exact ⟨none, 0, rfl, Own.nil _ _ _ _, Kp.refl _⟩
  · have H1 := Lib.hid h1
    clear h1
    go_enter Try.func56, Try.ntmps56
    go_wp2_with (at_builtin; refine wpList_append_sl _ rfl _ _ _ rfl w.heap.size 56 _ 3 56 Try.underlying60 infoEd rfl (by omega) (some ⟨w.heap.size, 0, none⟩) 0 0 [] rfl (World.ownsRow_made _ _ _ (Nat.le_refl _) (by simp [maxLen]) rfl) F (some ad) n c vs rfl (h.alloc _) H1.out (by simp only [maxLen]; omega) (by omega) (by simp) ?_; intro A' c' w1 hown hg hat)
    go_wp2
    go_ret
    have hk : Kp w w1 := ((Kp.refl w).alloc _).grown hg (by simp [rowOf])
    exact ⟨A', c', by simp, by simpa using hown, hk⟩

end Go.Proofs.Ytakbfppmgngdiaa
