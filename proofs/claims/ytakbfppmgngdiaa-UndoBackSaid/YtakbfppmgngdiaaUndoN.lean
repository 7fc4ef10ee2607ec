/-
  Deeds of law 19, and the two stacks that they are done to. Plain lemmas over the words for memory.
-/
import Derived.Test.YtakbfppmgngdiaaUndoX
namespace Go.Proofs.Ytakbfppmgngdiaa
open Go.RowKit

/-- A deed. -/
structure DuM where
  kind : Int
  cur : Int
  e : Ed
deriving Inhabited
def DuV (w : World) (d : DuM) (cs : List Value) : Prop := ∃ A n c B m k, cs = [.int .i64 d.kind, .int .i64 d.cur, .int .i64 d.e.at_, .slice A n c, .slice B m k] ∧ Ru w Any A n c d.e.old ∧ Ru w Any B m k d.e.new
theorem DuV.kp {w w' : World} (k : Kp w w') (d : DuM) (cs : List Value) (h : DuV w d cs) : DuV w' d cs := by
  obtain ⟨A, n, c, B, m, e, hc, h1, h2⟩ := h
  exact ⟨A, n, c, B, m, e, hc, h1.kp k, h2.kp k⟩
theorem DuV.len {w : World} (d : DuM) (cs : List Value) (h : DuV w d cs) : cs.length = 5 := by obtain ⟨A, n, c, B, m, e, rfl, _⟩ := h; rfl
def Dus (w : World) (A : Option Addr) (n c : Nat) (ds : List DuM) : Prop := Lst DuV 5 w A n c ds
section
variable {w w' : World} {A : Option Addr} {n c : Nat} {ds : List DuM}
theorem Dus.kp (h : Dus w A n c ds) (k : Kp w w') : Dus w' A n c ds := Lst.kp (DuV.kp k) h k
theorem Dus.get (h : Dus w A n c ds) {i : Nat} {x : DuM} (hx : ds[i]? = some x) : ∃ ad B m d C p q, A = some ad ∧ w.cell? (ad.add (i * 5)) = some (.int .i64 x.kind) ∧
    w.cell? ⟨(ad.add (i * 5)).block, (ad.add (i * 5)).off + 1, none⟩ = some (.int .i64 x.cur) ∧ w.cell? ⟨(ad.add (i * 5)).block, (ad.add (i * 5)).off + 2, none⟩ = some (.int .i64 x.e.at_) ∧
    w.cell? ⟨(ad.add (i * 5)).block, (ad.add (i * 5)).off + 3, none⟩ = some (.slice B m d) ∧ w.cell? ⟨(ad.add (i * 5)).block, (ad.add (i * 5)).off + 4, none⟩ = some (.slice C p q) ∧ Ru w Any B m d x.e.old ∧ Ru w Any C p q x.e.new := by
  obtain ⟨ad, cs, e1, ⟨B, m, d, C, p, q, rfl, h1, h2⟩, hc⟩ := Lst.get DuV.len h hx
  refine ⟨ad, B, m, d, C, p, q, e1, ?_, ?_, ?_, ?_, ?_, h1, h2⟩
  · have := hc 0 (by omega); simpa using this
  · have := hc 1 (by omega); rw [add_spell ad _ 0] at this; simpa using this
  · have := hc 2 (by omega); rw [add_spell ad _ 1] at this; simpa using this
  · have := hc 3 (by omega); rw [add_spell ad _ 2] at this; simpa using this
  · have := hc 4 (by omega); rw [add_spell ad _ 3] at this; simpa using this
end
theorem Bx.five' {w : World} {b : Nat} {t : TypeId} {v0 v1 v2 v3 v4 : Value} (h : Bx w b #[v0, v1, v2, v3, v4] t) : w.cell? ⟨b, 0, none⟩ = some v0 ∧ w.cell? ⟨b, 1, none⟩ = some v1 ∧ w.cell? ⟨b, 2, none⟩ = some v2 ∧ w.cell? ⟨b, 3, none⟩ = some v3 ∧ w.cell? ⟨b, 4, none⟩ = some v4 :=
  ⟨h.cell 0, h.cell 1, h.cell 2, h.cell 3, h.cell 4⟩

/-- The program's stack in its box, and the document's groups: the same. -/
def USt (w wx : World) (s : Nat) (gs : List Grp) (A1 : Option Addr) (n1 c1 : Nat) (A2 : Option Addr) (n2 c2 : Nat) : Prop :=
  Bx wx s #[.slice A1 n1 c1] 47 ∧ Grps wx A1 n1 c1 gs ∧ Grps wx A2 n2 c2 gs ∧ Kp w wx
theorem USt.kp {w wx wy : World} {s : Nat} {gs : List Grp} {A1 A2 : Option Addr} {n1 c1 n2 c2 : Nat} (h : USt w wx s gs A1 n1 c1 A2 n2 c2) (k : Kp wx wy) : USt w wy s gs A1 n1 c1 A2 n2 c2 :=
  ⟨h.1.kp k, h.2.1.kp k, h.2.2.1.kp k, h.2.2.2.trans k⟩
def few20 (l : List Int) : List Int := l.take (min l.length 20)
theorem few20_len (l : List Int) : (few20 l).length ≤ 20 := by unfold few20; rw [List.length_take]; omega
def lightE (e : Ed) : Ed := ⟨e.at_, few20 e.old, few20 e.new⟩
/-- Not too many groups, none too long, none of too long edits. -/
def Small (j : Nat) (gs : List Grp) : Prop := gs.length ≤ j ∧ tot gs ≤ j ∧ (∀ g ∈ gs, g.es.length ≤ j) ∧ ∀ g ∈ gs, ∀ e ∈ g.es, e.old.length ≤ 20 ∧ e.new.length ≤ 20 ∧ e.at_ ≤ 9223372036854775807
theorem Small.nil (j : Nat) : Small j [] := ⟨by simp, by simp [tot], by simp, by simp⟩
theorem tot_drop (gs : List Grp) (k : Nat) : tot (gs.drop k) ≤ tot gs := by
  have h := tot_append (gs.take k) (gs.drop k)
  rw [List.take_append_drop] at h
  omega
theorem Small.add {j : Nat} {gs : List Grp} (h : Small j gs) (e : Ed) (cur : Int) (join : Bool) (he : e.old.length ≤ 20 ∧ e.new.length ≤ 20 ∧ e.at_ ≤ 9223372036854775807) : Small (j + 1) (addM gs e cur join) := by
  obtain ⟨h1, h2, h3, h4⟩ := h
  refine ⟨Nat.le_trans (addM_len gs e cur join) (by omega), ?_, ?_, ?_⟩
  · unfold addM
    split
    · rename_i g hg
      obtain ⟨l, rfl⟩ : ∃ l, gs = l ++ [g] := by
        have hne : gs ≠ [] := by rintro rfl; simp at hg
        refine ⟨gs.dropLast, ?_⟩
        rw [List.getLast?_eq_some_getLast hne] at hg
        cases hg
        exact (List.dropLast_concat_getLast hne).symm
      rw [List.dropLast_concat]
      rw [tot_append] at h2 ⊢
      simp [tot] at h2 ⊢
      omega
    · refine Nat.le_trans (tot_drop _ _) ?_
      rw [tot_append]
      simp [tot]
      omega
  · unfold addM
    intro g hg
    split at hg
    · rename_i g' hg'
      rcases List.mem_append.1 hg with h | h
      · have := h3 g ((List.dropLast_sublist _).subset h); omega
      · simp at h; subst h
        have := h3 g' (List.mem_of_getLast? hg')
        simp; omega
    · have h := List.mem_of_mem_drop hg
      rcases List.mem_append.1 h with h | h
      · have := h3 g h; omega
      · simp at h; subst h; simp
  · unfold addM
    intro g hg x hx
    split at hg
    · rename_i g' hg'
      rcases List.mem_append.1 hg with h | h
      · exact h4 g ((List.dropLast_sublist _).subset h) x hx
      · simp at h; subst h
        rcases List.mem_append.1 hx with h | h
        · exact h4 g' (List.mem_of_getLast? hg') x h
        · simp at h; subst h; exact he
    · have h := List.mem_of_mem_drop hg
      rcases List.mem_append.1 h with h | h
      · exact h4 g h x hx
      · simp at h; subst h; simp at hx; subst hx; exact he
theorem Small.dropLast {j : Nat} {gs : List Grp} (h : Small j gs) : Small j gs.dropLast := by
  obtain ⟨h1, h2, h3, h4⟩ := h
  refine ⟨by rw [List.length_dropLast]; omega, ?_, fun g hg => h3 g ((List.dropLast_sublist _).subset hg), fun g hg => h4 g ((List.dropLast_sublist _).subset hg)⟩
  have h := tot_append (gs.take (gs.length - 1)) (gs.drop (gs.length - 1))
  rw [List.take_append_drop] at h
  rw [List.dropLast_eq_take]
  omega
theorem Small.mono {j k : Nat} {gs : List Grp} (h : Small j gs) (hk : j ≤ k) : Small k gs := ⟨Nat.le_trans h.1 hk, Nat.le_trans h.2.1 hk, fun g hg => Nat.le_trans (h.2.2.1 g hg) hk, h.2.2.2⟩
end Go.Proofs.Ytakbfppmgngdiaa
