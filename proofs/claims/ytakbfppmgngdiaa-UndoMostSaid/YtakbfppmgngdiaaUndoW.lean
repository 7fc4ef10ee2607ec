/-
  A stack of groups in a box of one cell: what is stored there turns nothing that a group leads to; typebarlaw19.awake. No conditions.
-/
import Derived.Test.YtakbfppmgngdiaaUndoG
import Derived.Test.YtakbfppmgngdiaaUndoL
namespace Go.Proofs.Ytakbfppmgngdiaa
open Go.RowKit

section
variable {w : World} {s k n c : Nat} {A : Option Addr} {F : Nat → Prop} {vs : List Value} {x y : Value} {t : TypeId}
theorem Sl.set1 (h : Sl w F k A n c vs) (hb : Bx w s #[x] t) (hv : 0 < n → ∃ (j : Nat) (u : Value), vs[j]? = some u ∧ u ≠ x) (y : Value) : Sl (w.setCell ⟨s, 0, none⟩ y) F k A n c vs :=
  ⟨h.le, h.cap, h.len, fun hn => by
    obtain ⟨ad, e, hF, hlt, hc⟩ := h.at_ hn
    obtain ⟨j, u, hj, hne⟩ := hv hn
    have hbk : s ≠ ad.block := by
      intro he
      have h1 := hc j u hj
      unfold World.cell? at h1
      rw [block_add, ← he, show w.heap[s]? = _ from hb] at h1
      dsimp only at h1
      split at h1
      · cases h1
      · have h2 : (#[x] : Array Value)[(ad.add j).off]? = some u := h1
        rcases Nat.eq_zero_or_pos (ad.add j).off with h0 | h0
        · rw [h0] at h2; simp at h2; exact hne h2.symm
        · rw [Array.getElem?_eq_none (by simp; omega)] at h2; cases h2
    refine ⟨ad, e, hF, by simpa [World.setCell] using hlt, fun i v hv => ?_⟩
    rw [World.cell?_of_block (w := w) (by rw [block_add]; exact Below.heap_setCell w _ y _ (Ne.symm hbk))]
    exact hc i v hv⟩
variable {A' : Option Addr} {n' c' : Nat}
theorem Ru.set1 {xs : List Int} (h : Ru w F A n c xs) (hb : Bx w s #[.slice A' n' c'] t) (y : Value) : Ru (w.setCell ⟨s, 0, none⟩ y) F A n c xs :=
  Sl.set1 h hb (fun hn => by
    have hl := h.len
    exact ⟨0, .int .i32 (xs[0]'(by omega)), by rw [R32_get, List.getElem?_eq_getElem (by omega)]; rfl, fun h => by cases h⟩) y
theorem EdV.set1 (hb : Bx w s #[.slice A' n' c'] t) (y : Value) (e : Ed) (cs : List Value) (h : EdV w e cs) : EdV (w.setCell ⟨s, 0, none⟩ y) e cs := by
  obtain ⟨A, n, c, B, m, d, h0, h1, h2⟩ := h
  exact ⟨A, n, c, B, m, d, h0, h1.set1 hb y, h2.set1 hb y⟩
theorem Eds.set1 {es : List Ed} (h : Eds w A n c es) (hb : Bx w s #[.slice A' n' c'] t) (y : Value) : Eds (w.setCell ⟨s, 0, none⟩ y) A n c es := by
  obtain ⟨css, h1, h2, h3⟩ := h
  refine ⟨css, Sl.set1 h1 hb (fun hn => ?_) y, h2.mono (EdV.set1 hb y), h3⟩
  have hl := h2.len
  match css, h2, hl with
  | [], _, hl => simp at hl; omega
  | cs :: r, h2, _ =>
    match es, h2 with
    | e :: _, h2 =>
      obtain ⟨A, n, c, B, m, d, rfl, _⟩ := h2.1
      exact ⟨0, .int .i64 e.at_, by simp, fun h => by cases h⟩
theorem GrpV.set1 (hb : Bx w s #[.slice A' n' c'] t) (y : Value) (g : Grp) (cs : List Value) (h : GrpV w g cs) : GrpV (w.setCell ⟨s, 0, none⟩ y) g cs := by
  obtain ⟨A, n, c, h0, h1⟩ := h
  exact ⟨A, n, c, h0, Eds.set1 h1 hb y⟩
theorem Grps.set1 {gs : List Grp} (h : Grps w A n c gs) (hb : Bx w s #[.slice A' n' c'] t) (y : Value) : Grps (w.setCell ⟨s, 0, none⟩ y) A n c gs := by
  obtain ⟨css, h1, h2, h3⟩ := h
  refine ⟨css, Sl.set1 h1 hb (fun hn => ?_) y, h2.mono (GrpV.set1 hb y), h3⟩
  have hl := h2.len
  match css, h2, hl with
  | [], _, hl => simp at hl; omega
  | cs :: r, h2, _ =>
    match gs, h2 with
    | g :: _, h2 =>
      obtain ⟨A, n, c, rfl, _⟩ := h2.1
      exact ⟨1, .int .i64 g.cur, by simp, fun h => by cases h⟩
end

end Go.Proofs.Ytakbfppmgngdiaa
