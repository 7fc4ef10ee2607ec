/-
  package loop: Next: what it answers and leaves, in terms of the events that wait; New, Len. Conditions: the box is in memory, the events are as they are taken in.
-/
import Derived.Test.YtakbfppmgngdiaaChanN
namespace Go.Proofs.Ytakbfppmgngdiaa
open Go.RowKit Go.Conc

def Ev.v (x : Ev) : Value := .agg #[.int .i64 x.kind, .int .u8 x.byte, .int .i64 x.rows, .int .i64 x.cols]
/-- What Next answers. -/
def ansM (o : Option (Ev × List Ev)) : Value := match o with
  | some (x, _) => .tuple #[x.v, .bool true]
  | none => .tuple #[Ev.zero.v, .bool false]
def leftM (q : List Ev) (o : Option (Ev × List Ev)) : List Ev := match o with
  | some (_, r) => r
  | none => q

theorem bBuf_nil {q : List Ev} (h : ∀ e ∈ q, e.kind ≠ 1) : bBuf q = #[] := by simp [bBuf, ofK_none h]
theorem tBuf_nil {q : List Ev} (h : ∀ e ∈ q, e.kind ≠ 2) : tBuf q = #[] := by simp [tBuf, ofK_none h]
theorem sBuf_nil {q : List Ev} (h : ∀ e ∈ q, e.kind ≠ 3) : sBuf q = #[] := by simp [sBuf, ofK_none h]
theorem ofK_cut {k : Int} {l r : List Ev} {x : Ev} (h : x.kind ≠ k) : ofK k (l ++ x :: r) = ofK k (l ++ r) := by rw [ofK_append, ofK_append, ofK_miss h]
theorem ofK_first {k : Int} {l r : List Ev} {x : Ev} (h : x.kind = k) (hl : ∀ e ∈ l, e.kind ≠ k) : ofK k (l ++ x :: r) = x :: ofK k (l ++ r) := by
  rw [ofK_append, ofK_append, ofK_hit h, ofK_none hl]; rfl

theorem next_any (p cb ct cs room : Nat) (q : List Ev) (w : World) (h : LB w p cb ct cs room q) (hq : okQ q) :
    Calls Try.prog 16 #[.pointer (some ⟨p, 0, none⟩)] w fun e w' => e = .returned (ansM (nextM q)) ∧ LB w' p cb ct cs room (leftM q (nextM q)) ∧ Fr (Chs cb ct cs) w w' := by
  have hp := h.not_p
  rcases takeK_split 3 q with ⟨h3, n3⟩ | ⟨l, x, r, h3, rfl, hk, hl⟩
  · rcases takeK_split 1 q with ⟨h1, n1⟩ | ⟨l, x, r, h1, rfl, hk, hl⟩
    · rcases takeK_split 2 q with ⟨h2, n2⟩ | ⟨l, x, r, h2, rfl, hk, hl⟩
      · have hn : nextM q = none := by simp [nextM, h3, h1, h2]
        rw [hn]
        refine (next_n p cb ct cs room q w h (sBuf_nil n3) (bBuf_nil n1) (tBuf_nil n2)).mono ?_
        rintro e w' ⟨rfl, hf⟩
        exact ⟨rfl, h.fr hf (fun h => h) (fun h => h) (fun h => h) (fun h => h), hf.weak fun _ h => h.elim⟩
      · have hn : nextM (l ++ x :: r) = some (x, l ++ r) := by simp [nextM, h3, h1, h2]
        rw [hn]
        obtain ⟨hx1, hx2⟩ := (okQ_split hq).2
        have hb : tBuf (l ++ x :: r) = (.bool true :: (ofK 2 (l ++ r)).map fun _ => Value.bool true).toArray := by simp [tBuf, ofK_first hk hl]
        refine (next_t p cb ct cs room _ w h (sBuf_nil n3) (bBuf_nil n1) _ hb).mono ?_
        rintro e w' ⟨rfl, hf, hc⟩
        refine ⟨?_, ⟨h.bx.fr hf hp.2.1, ?_, hc, ?_, h.d⟩, hf.weak fun k hk => .inr (.inl hk)⟩
        · unfold ansM Ev.v
          rw [← hx1]
          simp [Ev.norm, hk]
        · have := h.b.fr hf h.d.1
          unfold bBuf at this ⊢
          rwa [ofK_cut (by omega)] at this
        · have := h.s.fr hf (fun e => h.d.2.2 e.symm)
          unfold sBuf at this ⊢
          rwa [ofK_cut (by omega)] at this
    · have hn : nextM (l ++ x :: r) = some (x, l ++ r) := by simp [nextM, h3, h1]
      rw [hn]
      obtain ⟨hx1, hx2⟩ := (okQ_split hq).2
      have hb : bBuf (l ++ x :: r) = (.int .u8 x.byte :: (ofK 1 (l ++ r)).map fun e => Value.int .u8 e.byte).toArray := by simp [bBuf, ofK_first hk hl]
      refine (next_b p cb ct cs room _ w h (sBuf_nil n3) _ _ hb).mono ?_
      rintro e w' ⟨rfl, hf, hc⟩
      refine ⟨?_, ⟨h.bx.fr hf hp.1, hc, ?_, ?_, h.d⟩, hf.weak fun k hk => .inl hk⟩
      · unfold ansM Ev.v
        rw [← hx1]
        simp [Ev.norm, hk]
      · have := h.t.fr hf (fun e => h.d.1 e.symm)
        unfold tBuf at this ⊢
        rwa [ofK_cut (by omega)] at this
      · have := h.s.fr hf (fun e => h.d.2.1 e.symm)
        unfold sBuf at this ⊢
        rwa [ofK_cut (by omega)] at this
  · have hn : nextM (l ++ x :: r) = some (x, l ++ r) := by simp [nextM, h3]
    rw [hn]
    obtain ⟨hx1, hx2⟩ := (okQ_split hq).2
    have hb : sBuf (l ++ x :: r) = (.agg #[.int .i64 x.rows, .int .i64 x.cols] :: (ofK 3 (l ++ r)).map fun e => Value.agg #[.int .i64 e.rows, .int .i64 e.cols]).toArray := by simp [sBuf, ofK_first hk hl]
    refine (next_s p cb ct cs room _ w h _ _ _ hb).mono ?_
    rintro e w' ⟨rfl, hf, hc⟩
    refine ⟨?_, ⟨h.bx.fr hf hp.2.2, ?_, ?_, hc, h.d⟩, hf.weak fun k hk => .inr (.inr hk)⟩
    · unfold ansM Ev.v
      rw [← hx1]
      simp [Ev.norm, hk]
    · have := h.b.fr hf h.d.2.1
      unfold bBuf at this ⊢
      rwa [ofK_cut (by omega)] at this
    · have := h.t.fr hf h.d.2.2
      unfold tBuf at this ⊢
      rwa [ofK_cut (by omega)] at this
theorem nextM_ok {q : List Ev} (hq : okQ q) : okQ (leftM q (nextM q)) := by
  have key : ∀ (l : List Ev) (x : Ev) (r : List Ev), okQ (l ++ x :: r) → okQ (l ++ r) := fun l x r h => (okQ_split h).1
  unfold nextM leftM
  rcases takeK_split 3 q with ⟨h3, n3⟩ | ⟨l, x, r, h3, rfl, hk, hl⟩
  · rcases takeK_split 1 q with ⟨h1, n1⟩ | ⟨l, x, r, h1, rfl, hk, hl⟩
    · rcases takeK_split 2 q with ⟨h2, n2⟩ | ⟨l, x, r, h2, rfl, hk, hl⟩
      · simp [h3, h1, h2]; exact hq
      · simp [h3, h1, h2]; exact key l x r hq
    · simp [h3, h1]; exact key l x r hq
  · simp [h3]; exact key l x r hq
end Go.Proofs.Ytakbfppmgngdiaa
