/-
  Words for memory, more: new slices at a named place. Plain lemmas.
-/
import Derived.Test.YtmeefngkbcfpeaaWords
namespace Go.Proofs.Ytmeefngkbcfpeaa
open Go.RowKit
theorem Sl.new_ {F : Nat → Prop} (w : World) (cs : Array Value) (t : TypeId) (size n s : Nat) (hs0 : w.heap.size = s) (hF : F s) (hs : cs.size = n * size) (hn : n ≤ 1099511627776) : Sl (w.alloc (.cells cs t)) F size (some ⟨s, 0, none⟩) n n cs.toList := by
  subst hs0; exact Sl.new w cs t size n hF hs hn
theorem Ru.one_at (w : World) (F : Nat → Prop) (s : Nat) (hs0 : w.heap.size = s) (hF : F s) (a : Int) (t : TypeId) : Ru (w.alloc (.cells #[.int .i32 a] t)) F (some ⟨s, 0, none⟩) 1 1 [a] := by
  subst hs0; exact Ru.one_ w F hF a t
theorem Ru.two_at (w : World) (F : Nat → Prop) (s : Nat) (hs0 : w.heap.size = s) (hF : F s) (a b : Int) (t : TypeId) : Ru (w.alloc (.cells #[.int .i32 a, .int .i32 b] t)) F (some ⟨s, 0, none⟩) 2 2 [a, b] := by
  subst hs0; exact Ru.two_ w F hF a b t
theorem Own.new_ (w : World) (cs : Array Value) (t : TypeId) (size n s base : Nat) (hs0 : w.heap.size = s) (hb : base ≤ s) (hs : cs.size = n * size) (hn : n ≤ 1099511627776) : Own (w.alloc (.cells cs t)) base t size (some ⟨s, 0, none⟩) n n cs.toList := by
  subst hs0
  exact ⟨by simpa using hs, .inr ⟨w.heap.size, n, cs, rfl, hb, heap_alloc_new w _, Nat.le_refl _, by simp only [maxLen]; omega, hs, by rw [List.take_of_length_le (by simp; omega)]⟩⟩
end Go.Proofs.Ytmeefngkbcfpeaa
