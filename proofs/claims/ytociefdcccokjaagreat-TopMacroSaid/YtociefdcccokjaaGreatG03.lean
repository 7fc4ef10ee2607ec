/-
  Lemmas for TopMacro. Conditions: each states its own.
-/
import Derived.Test.YtociefdcccokjaaGreatG01
namespace Go.Proofs.YtociefdcccokjaaGreat
open Go.RowKit Go.Lib
theorem Sl.new_ {F:Nat→Prop}(w:World)(cs:Array Value)(t:TypeId)(size n s:Nat)(hs0:w.heap.size=s)(hF:F s)(hs:cs.size=n*size)(hn:n≤1099511627776):Sl (w.alloc (.cells cs t)) F size (some ⟨s,0,none⟩) n n cs.toList:=by
 subst hs0;exact Sl.new w cs t size n hF hs hn
theorem Own.new_ (w:World)(cs:Array Value)(t:TypeId)(size n s base:Nat)(hs0:w.heap.size=s)(hb:base≤s)(hs:cs.size=n*size)(hn:n≤1099511627776):Own (w.alloc (.cells cs t)) base t size (some ⟨s,0,none⟩) n n cs.toList:=by
 subst hs0;exact⟨by simpa using hs,.inr ⟨w.heap.size,n,cs,rfl,hb,heap_alloc_new w _,le_,by simp only[maxLen];omega,hs,by rw[List.take_of_length_le (by simp;omega)]⟩⟩
end Go.Proofs.YtociefdcccokjaaGreat
