/-
  Rows of things in memory whose cells tell of more memory: read alone. Edits and groups. Conditions: none.
-/
import Derived.Test.YtmeefngkbcfpeaaSame
import Derived.Test.YtmeefngkbcfpeaaWords2
import Derived.Test.YtmeefngkbcfpeaaUndoM
namespace Go.Proofs.Ytmeefngkbcfpeaa
open Go.RowKit

/-- A row of things of k cells each. -/
def Lst {α : Type} (R : World → α → List Value → Prop) (k : Nat) (w : World) (A : Option Addr) (n c : Nat) (xs : List α) : Prop :=
  ∃ css : List (List Value), Sl w Any k A n c css.flatten ∧ RelL (R w) xs css ∧ xs.length = n
section
variable {α : Type} {R : World → α → List Value → Prop} {k : Nat} {w w' : World} {A : Option Addr} {n c : Nat} {xs : List α}
theorem Lst.len (h : Lst R k w A n c xs) : xs.length = n := by obtain ⟨_, _, _, h⟩ := h; exact h
theorem Lst.le (h : Lst R k w A n c xs) : n ≤ c := by obtain ⟨_, h, _⟩ := h; exact Sl.le h
theorem Lst.cap (h : Lst R k w A n c xs) : c ≤ maxLen := by obtain ⟨_, h, _⟩ := h; exact Sl.cap h
theorem Lst.nil : Lst R k w none 0 0 [] := ⟨[], Sl.nil _ _ _, trivial, rfl⟩
theorem Lst.kp (hR : ∀ x cs, R w x cs → R w' x cs) (h : Lst R k w A n c xs) (kp : Kp w w') : Lst R k w' A n c xs := by
  obtain ⟨css, h1, h2, h3⟩ := h
  exact ⟨css, h1.kp kp, h2.mono hR, h3⟩
theorem Lst.get (hk : ∀ x cs, R w x cs → cs.length = k) (h : Lst R k w A n c xs) {i : Nat} {x : α} (hx : xs[i]? = some x) : ∃ ad cs, A = some ad ∧ R w x cs ∧ ∀ r, r < k → w.cell? (ad.add (i * k + r)) = cs[r]? := by
  obtain ⟨css, h1, h2, h3⟩ := h
  obtain ⟨cs, hc, hr⟩ := h2.get hx
  have hl := h2.all hk
  have hn : 0 < n := by have := (List.getElem?_eq_some_iff.1 hx).1; omega
  obtain ⟨ad, e, _, _, hcell⟩ := h1.at_ hn
  refine ⟨ad, cs, e, hr, fun r hr' => ?_⟩
  have hcl := hk x cs hr
  have h5 := flat_get hl hc hr'
  obtain ⟨u, hu⟩ : ∃ u, cs[r]? = some u := ⟨cs[r]'(by omega), List.getElem?_eq_getElem _⟩
  rw [hu]
  exact hcell _ _ (by rw [h5, hu])
theorem Lst.take (hk : ∀ x cs, R w x cs → cs.length = k) (h : Lst R k w A n c xs) {m : Nat} (hm : m ≤ n) (c' : Nat) (hc : m ≤ c') (hc' : c' ≤ c) : Lst R k w A m c' (xs.take m) := by
  obtain ⟨css, h1, h2, h3⟩ := h
  have h4 := Sl.take h1 hm
  rw [flat_take m (h2.all hk)] at h4
  exact ⟨css.take m, ⟨hc, Nat.le_trans hc' h4.cap, h4.len, h4.at_⟩, h2.take m, by simp [h3]; omega⟩
theorem Lst.drop (hk : ∀ x cs, R w x cs → cs.length = k) (h : Lst R k w A n c xs) {m : Nat} (hm : m ≤ n) : Lst R k w (if c = m then A else A.map (·.add (m * k))) (n - m) (c - m) (xs.drop m) := by
  obtain ⟨css, h1, h2, h3⟩ := h
  have h4 := Sl.drop h1 hm
  rw [flat_drop m (h2.all hk)] at h4
  exact ⟨css.drop m, h4, h2.drop m, by simp [h3]⟩
theorem Lst.one (h1 : ∀ x cs, R w x cs → ∀ u ∈ cs, u.oneCell' = true) {css : List (List Value)} (h : RelL (R w) xs css) : ∀ u ∈ css.flatten, u.oneCell' = true := by
  intro u hu
  obtain ⟨cs, hc, hu⟩ := List.mem_flatten.1 hu
  exact h.all (p := fun cs => ∀ u ∈ cs, u.oneCell' = true) h1 cs hc u hu
end

theorem add_spell (ad : Addr) (x i : Nat) : ad.add (x + (i + 1)) = ⟨(ad.add x).block, (ad.add x).off + (i + 1), none⟩ := by
  rw [← add_add]; unfold Addr.add; simp
/-- The cells of an edit. -/
def EdV (w : World) (e : Ed) (cs : List Value) : Prop := ∃ A n c B m d, cs = [.int .i64 e.at_, .slice A n c, .slice B m d] ∧ Ru w Any A n c e.old ∧ Ru w Any B m d e.new
/-- The cells of a group. -/
def GrpV (w : World) (g : Grp) (cs : List Value) : Prop := ∃ A n c, cs = [.slice A n c, .int .i64 g.cur] ∧ Lst EdV 3 w A n c g.es
section
variable {w w' : World}
theorem EdV.kp (k : Kp w w') (e : Ed) (cs : List Value) (h : EdV w e cs) : EdV w' e cs := by
  obtain ⟨A, n, c, B, m, d, hc, h1, h2⟩ := h
  exact ⟨A, n, c, B, m, d, hc, h1.kp k, h2.kp k⟩
theorem EdV.len (e : Ed) (cs : List Value) (h : EdV w e cs) : cs.length = 3 := by obtain ⟨A, n, c, B, m, d, rfl, _⟩ := h; rfl
theorem EdV.one (e : Ed) (cs : List Value) (h : EdV w e cs) : ∀ u ∈ cs, u.oneCell' = true := by obtain ⟨A, n, c, B, m, d, rfl, _⟩ := h; simp [Value.oneCell']
theorem GrpV.kp (k : Kp w w') (g : Grp) (cs : List Value) (h : GrpV w g cs) : GrpV w' g cs := by
  obtain ⟨A, n, c, hc, h1⟩ := h
  exact ⟨A, n, c, hc, h1.kp (EdV.kp k) k⟩
theorem GrpV.len (g : Grp) (cs : List Value) (h : GrpV w g cs) : cs.length = 2 := by obtain ⟨A, n, c, rfl, _⟩ := h; rfl
theorem GrpV.one (g : Grp) (cs : List Value) (h : GrpV w g cs) : ∀ u ∈ cs, u.oneCell' = true := by obtain ⟨A, n, c, rfl, _⟩ := h; simp [Value.oneCell']
end
def Eds (w : World) (A : Option Addr) (n c : Nat) (es : List Ed) : Prop := Lst EdV 3 w A n c es
def Grps (w : World) (A : Option Addr) (n c : Nat) (gs : List Grp) : Prop := Lst GrpV 2 w A n c gs
section
variable {w w' : World} {A : Option Addr} {n c : Nat} {es : List Ed} {gs : List Grp}
theorem Eds.kp (h : Eds w A n c es) (k : Kp w w') : Eds w' A n c es := Lst.kp (EdV.kp k) h k
theorem Grps.kp (h : Grps w A n c gs) (k : Kp w w') : Grps w' A n c gs := Lst.kp (GrpV.kp k) h k
theorem Eds.get (h : Eds w A n c es) {i : Nat} {e : Ed} (he : es[i]? = some e) : ∃ ad B m d C p q, A = some ad ∧ w.cell? (ad.add (i * 3)) = some (.int .i64 e.at_) ∧
    w.cell? ⟨(ad.add (i * 3)).block, (ad.add (i * 3)).off + 1, none⟩ = some (.slice B m d) ∧ w.cell? ⟨(ad.add (i * 3)).block, (ad.add (i * 3)).off + 2, none⟩ = some (.slice C p q) ∧ Ru w Any B m d e.old ∧ Ru w Any C p q e.new := by
  obtain ⟨ad, cs, e1, ⟨B, m, d, C, p, q, rfl, h1, h2⟩, hc⟩ := Lst.get EdV.len h he
  refine ⟨ad, B, m, d, C, p, q, e1, ?_, ?_, ?_, h1, h2⟩
  · simpa using hc 0 (by omega)
  · have := hc 1 (by omega); rwa [add_spell _ _ 0] at this
  · have := hc 2 (by omega); rwa [add_spell _ _ 1] at this
theorem Grps.get (h : Grps w A n c gs) {i : Nat} {g : Grp} (hg : gs[i]? = some g) : ∃ ad B m d, A = some ad ∧ w.cell? (ad.add (i * 2)) = some (.slice B m d) ∧
    w.cell? ⟨(ad.add (i * 2)).block, (ad.add (i * 2)).off + 1, none⟩ = some (.int .i64 g.cur) ∧ Eds w B m d g.es := by
  obtain ⟨ad, cs, e1, ⟨B, m, d, rfl, h1⟩, hc⟩ := Lst.get GrpV.len h hg
  refine ⟨ad, B, m, d, e1, ?_, ?_, h1⟩
  · simpa using hc 0 (by omega)
  · have := hc 1 (by omega); rwa [add_spell _ _ 0] at this
/-- A row of the call's own. -/
def OEds (t : TypeId) (w0 w : World) (base : Nat) (A : Option Addr) (n c : Nat) (es : List Ed) : Prop := ∃ css, Own w base t 3 A n c css.flatten ∧ RelL (EdV w0) es css ∧ es.length = n
def OGrps (t : TypeId) (w0 w : World) (base : Nat) (A : Option Addr) (n c : Nat) (gs : List Grp) : Prop := ∃ css, Own w base t 2 A n c css.flatten ∧ RelL (GrpV w0) gs css ∧ gs.length = n
theorem OEds.eds {t : TypeId} {w0 : World} {base : Nat} (h : OEds t w0 w base A n c es) (k : Kp w0 w) : Eds w A n c es := by
  obtain ⟨css, h1, h2, h3⟩ := h
  exact ⟨css, h1.sl.any, h2.mono (EdV.kp k), h3⟩
theorem OGrps.grps {t : TypeId} {w0 : World} {base : Nat} (h : OGrps t w0 w base A n c gs) (k : Kp w0 w) : Grps w A n c gs := by
  obtain ⟨css, h1, h2, h3⟩ := h
  exact ⟨css, h1.sl.any, h2.mono (GrpV.kp k), h3⟩
end
/-- A row of edits in blocks that F lets; the edits as they were in w0. -/
def EdsF (F : Nat → Prop) (w0 w : World) (A : Option Addr) (n c : Nat) (es : List Ed) : Prop := ∃ css, Sl w F 3 A n c css.flatten ∧ RelL (EdV w0) es css ∧ es.length = n
section
variable {F G : Nat → Prop} {w0 w w' : World} {A : Option Addr} {n c : Nat} {es : List Ed}
theorem EdsF.eds (h : EdsF F w0 w A n c es) (k : Kp w0 w) : Eds w A n c es := by
  obtain ⟨css, h1, h2, h3⟩ := h
  exact ⟨css, h1.any, h2.mono (EdV.kp k), h3⟩
theorem EdsF.kp (h : EdsF F w0 w A n c es) (k : Kp w w') : EdsF F w0 w' A n c es := by
  obtain ⟨css, h1, h2, h3⟩ := h
  exact ⟨css, h1.kp k, h2, h3⟩
theorem EdsF.old {w1 : World} (h : EdsF F w1 w A n c es) (hR : ∀ e cs, EdV w1 e cs → EdV w0 e cs) : EdsF F w0 w A n c es := by
  obtain ⟨css, h1, h2, h3⟩ := h
  exact ⟨css, h1, h2.mono hR, h3⟩
theorem EdsF.setCell (h : EdsF F w0 w A n c es) {p : Addr} (hp : ¬ F p.block) (u : Value) : EdsF F w0 (w.setCell p u) A n c es := by
  obtain ⟨css, h1, h2, h3⟩ := h
  exact ⟨css, h1.setCell hp u, h2, h3⟩
theorem EdsF.weak (h : EdsF F w0 w A n c es) (hG : ∀ k, k < w.heap.size → F k → G k) : EdsF G w0 w A n c es := by
  obtain ⟨css, h1, h2, h3⟩ := h
  exact ⟨css, h1.weak hG, h2, h3⟩
end
end Go.Proofs.Ytmeefngkbcfpeaa
