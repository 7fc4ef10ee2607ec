/-
  The parsers of keys: what holds of each behind any bytes and ticks; bytes in a row. Plain lemmas, no program.
-/
import Derived.Test.YtmeefngkbcfpeaaKeM
import Derived.Test.YtmeefngkbcfpeaaStr
namespace Go.Proofs.Ytmeefngkbcfpeaa

theorem feedP_pend (p : Pm) (b : Int) : (feedP p b).1.pend = [] ∨ (feedP p b).1.pend = p.pend ∨ (feedP p b).1.pend = p.pend ++ [b] := by
  obtain ⟨x, hx⟩ : ∃ x, x = feedP p b := ⟨_, rfl⟩
  rw [← hx]
  unfold feedP escapedM rowM pasteM plainM scalarM at hx
  dsimp only [Pm.zero] at hx
  repeat' split at hx
  all_goals (subst hx; simp)
theorem feedP_d (p : Pm) (b : Int) : (feedP p b).1.d = Dm.zero ∨ (feedP p b).1.d = p.d ∨ (feedP p b).1.d = (feedM p.d b).1 ∨ (feedP p b).1.d = (feedM Dm.zero b).1 := by
  obtain ⟨x, hx⟩ : ∃ x, x = feedP p b := ⟨_, rfl⟩
  rw [← hx]
  unfold feedP escapedM rowM pasteM plainM scalarM at hx
  dsimp only [Pm.zero] at hx
  repeat' split at hx
  all_goals (subst hx; simp)
/-- What the walk of package keys asks. -/
structure PmOk (p : Pm) (m : Nat) : Prop where
  ok : p.d.ok
  bd : isB p.pend
  len : p.pend.length ≤ m
theorem PmOk.zero : PmOk Pm.zero 0 := ⟨.inl rfl, isB_nil, Nat.le_refl _⟩
theorem PmOk.feed {p : Pm} {m : Nat} (h : PmOk p m) {b : Int} (h0 : 0 ≤ b) (h1 : b ≤ 255) : PmOk (feedP p b).1 (m + 1) := by
  refine ⟨?_, ?_, ?_⟩
  · rcases feedP_d p b with e | e | e | e
    · rw [e]; exact .inl rfl
    · rw [e]; exact h.ok
    · rw [e]; exact feedM_ok _ _ h.ok
    · rw [e]; exact feedM_ok _ _ (.inl rfl)
  · rcases feedP_pend p b with e | e | e
    · rw [e]; exact isB_nil
    · rw [e]; exact h.bd
    · rw [e]; exact isB_app h.bd (fun x hx => by simp at hx; subst hx; exact ⟨h0, h1⟩)
  · have := h.len
    rcases feedP_pend p b with e | e | e <;> rw [e] <;> first | omega | (simp; done) | (simp; omega)
theorem PmOk.tick {p : Pm} {m : Nat} (h : PmOk p m) : PmOk (tickP p).1 (m + 1) := by
  have hz : PmOk Pm.zero (m + 1) := ⟨.inl rfl, isB_nil, Nat.zero_le _⟩
  unfold tickP
  split
  · exact hz
  · split
    · exact hz
    · split
      · exact ⟨h.ok, h.bd, Nat.le_succ_of_le h.len⟩
      · exact hz
theorem feedR_row (r : Rm) (b : Int) : (feedR r b).1.row = [] ∨ (feedR r b).1.row = r.row ∨ (feedR r b).1.row = r.row ++ [b] := by
  obtain ⟨x, hx⟩ : ∃ x, x = feedR r b := ⟨_, rfl⟩
  rw [← hx]
  unfold feedR escapedR rowR pastedR brokenR aloneR fedR restR at hx
  dsimp only at hx
  repeat' split at hx
  all_goals (subst hx; simp)
theorem feedR_wait (r : Rm) (b : Int) : (feedR r b).1.wait = [] ∨ (feedR r b).1.wait = r.wait ∨ ∃ k, (feedR r b).1.wait = (r.wait ++ [b]).drop k := by
  obtain ⟨x, hx⟩ : ∃ x, x = feedR r b := ⟨_, rfl⟩
  rw [← hx]
  unfold feedR escapedR rowR pastedR brokenR aloneR fedR restR at hx
  dsimp only at hx
  repeat' split at hx
  all_goals (subst hx; first | (exact Or.inl rfl) | (exact Or.inr (Or.inl rfl)) | (exact Or.inr (Or.inr ⟨_, rfl⟩)))
/-- What the walk of the document's parser asks. -/
structure RmOk (r : Rm) (m : Nat) : Prop where
  rb : isB r.row
  rl : r.row.length ≤ m
  wb : isB r.wait
  wl : r.wait.length ≤ m
theorem RmOk.zero : RmOk Rm.zero 0 := ⟨isB_nil, Nat.le_refl _, isB_nil, Nat.le_refl _⟩
theorem RmOk.feed {r : Rm} {m : Nat} (h : RmOk r m) {b : Int} (h0 : 0 ≤ b) (h1 : b ≤ 255) : RmOk (feedR r b).1 (m + 1) := by
  have hb : isB [b] := fun x hx => by simp at hx; subst hx; exact ⟨h0, h1⟩
  have h2 := h.rl
  have h3 := h.wl
  refine ⟨?_, ?_, ?_, ?_⟩
  · rcases feedR_row r b with e | e | e
    · rw [e]; exact isB_nil
    · rw [e]; exact h.rb
    · rw [e]; exact isB_app h.rb hb
  · rcases feedR_row r b with e | e | e <;> rw [e] <;> first | omega | (simp; done) | (simp; omega)
  · rcases feedR_wait r b with e | e | ⟨k, e⟩
    · rw [e]; exact isB_nil
    · rw [e]; exact h.wb
    · rw [e]; exact fun x hx => isB_app h.wb hb x (List.mem_of_mem_drop hx)
  · rcases feedR_wait r b with e | e | ⟨k, e⟩ <;> rw [e] <;> first | omega | (simp; done) | (simp; omega)
theorem RmOk.tick {r : Rm} {m : Nat} (h : RmOk r m) : RmOk (tickR r).1 (m + 1) := by
  have h2 := h.rl
  have h3 := h.wl
  unfold tickR restR
  repeat' split
  · exact ⟨h.rb, by dsimp only; omega, h.wb, by dsimp only; omega⟩
  · exact ⟨isB_nil, Nat.zero_le _, h.wb, by dsimp only; omega⟩
  · exact ⟨isB_nil, Nat.zero_le _, h.wb, by dsimp only; omega⟩
  · exact ⟨isB_nil, Nat.zero_le _, isB_nil, Nat.zero_le _⟩

/-- Bytes in a row. -/
def feedsP (p : Pm) : List Int → Pm × List Ky
  | [] => (p, [])
  | b :: l => ((feedsP (feedP p b).1 l).1, (feedP p b).2 ++ (feedsP (feedP p b).1 l).2)
theorem feedsP_snoc : ∀ (l : List Int) (p : Pm) (b : Int), feedsP p (l ++ [b]) = ((feedP (feedsP p l).1 b).1, (feedsP p l).2 ++ (feedP (feedsP p l).1 b).2)
  | [], p, b => by simp [feedsP]
  | a :: l, p, b => by
    rw [List.cons_append, feedsP, feedsP_snoc l]
    simp [feedsP]
theorem feedsP_ok : ∀ (l : List Int) (p : Pm) (m : Nat), PmOk p m → isB l → PmOk (feedsP p l).1 (m + l.length)
  | [], _, _, h, _ => h
  | a :: l, p, m, h, hb => by
    have h1 := feedsP_ok l _ _ (h.feed (hb a (by simp)).1 (hb a (by simp)).2) (fun x hx => hb x (by simp [hx]))
    rw [List.length_cons, show m + (l.length + 1) = m + 1 + l.length by omega]
    exact h1
theorem feedP_len (p : Pm) (b : Int) : (feedP p b).2.length ≤ 3 := by
  have hch : ∀ (l : List Int) (m : Bool), (charsM l m).length = l.length := fun l m => by cases l <;> simp [charsM]
  have he : ∀ d : Dm, (endM d).length ≤ 1 := fun d => by unfold endM; split <;> simp
  have hf : ∀ (d : Dm), (feedM d b).2.length ≤ 2 := fun d => feedM_len d b
  have hpl : ∀ q : Pm, (plainM q b).2.length ≤ 2 := fun q => by
    unfold plainM brokenM scalarM
    split
    · dsimp only; rw [hch]; have := he q.d; omega
    · split
      · simp only [List.length_append, hch, List.length_cons, List.length_nil]; have := he q.d; omega
      · dsimp only; rw [hch]; exact hf q.d
  obtain ⟨x, hx⟩ : ∃ x, x = feedP p b := ⟨_, rfl⟩
  rw [← hx]
  unfold feedP escapedM rowM pasteM scalarM at hx
  dsimp only [Pm.zero] at hx
  have hp0 := hpl ⟨0, false, Dm.zero, []⟩
  have hpp := hpl p
  have hfz := hf Dm.zero
  repeat' split at hx
  all_goals (subst hx; first | omega | (simp only [List.length_cons, List.length_nil, hch]; omega))
end Go.Proofs.Ytmeefngkbcfpeaa
