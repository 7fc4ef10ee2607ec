/-
  package loop: Put: what it answers and leaves, in terms of the events that wait. Conditions: the box is in memory.
-/
import Derived.Test.YtakbfppmgngdiaaChan
import Derived.Tactics2
namespace Go.Proofs.Ytakbfppmgngdiaa
open Go.RowKit Go.Conc

theorem bBuf_snoc {q : List Ev} {x : Ev} (h : x.kind = 1) : bBuf (q ++ [x]) = (bBuf q).push (.int .u8 x.byte) := by simp [bBuf, ofK, h]
theorem tBuf_snoc {q : List Ev} {x : Ev} (h : x.kind = 2) : tBuf (q ++ [x]) = (tBuf q).push (.bool true) := by simp [tBuf, ofK, h]
theorem sBuf_snoc {q : List Ev} {x : Ev} (h : x.kind = 3) : sBuf (q ++ [x]) = (sBuf q).push (.agg #[.int .i64 x.rows, .int .i64 x.cols]) := by simp [sBuf, ofK, h]
theorem bBuf_other {q : List Ev} {x : Ev} (h : x.kind ≠ 1) : bBuf (q ++ [x]) = bBuf q := by simp [bBuf, ofK, h]
theorem tBuf_other {q : List Ev} {x : Ev} (h : x.kind ≠ 2) : tBuf (q ++ [x]) = tBuf q := by simp [tBuf, ofK, h]
theorem sBuf_other {q : List Ev} {x : Ev} (h : x.kind ≠ 3) : sBuf (q ++ [x]) = sBuf q := by simp [sBuf, ofK, h]
theorem bBuf_size (q : List Ev) : (bBuf q).size = (ofK 1 q).length := by simp [bBuf]
theorem tBuf_size (q : List Ev) : (tBuf q).size = (ofK 2 q).length := by simp [tBuf]
theorem sBuf_size (q : List Ev) : (sBuf q).size = (ofK 3 q).length := by simp [sBuf]

theorem put_nil (v : Value) (hv : ∃ a b c d, v = .agg #[.int .i64 a, .int .u8 b, .int .i64 c, .int .i64 d]) (w : World) : Calls Try.prog 18 #[.pointer none, v] w fun e w' => e = .returned (.bool false) ∧ Kp w w' := by
  obtain ⟨a, b, c, d, rfl⟩ := hv
  go_enter Try.func18, Try.ntmps18
  go_wp2
  go_ret
  exact ⟨rfl, (Kp.refl _).alloc _⟩

theorem put_other (p : Nat) (x : Ev) (w : World) (h1 : x.kind ≠ 1) (h2 : x.kind ≠ 2) (h3 : x.kind ≠ 3) :
    Calls Try.prog 18 #[.pointer (some ⟨p, 0, none⟩), .agg #[.int .i64 x.kind, .int .u8 x.byte, .int .i64 x.rows, .int .i64 x.cols]] w fun e w' => e = .returned (.bool false) ∧ Kp w w' := by
  have b1 : (x.kind == 1) = false := by simpa using h1
  have b2 : (x.kind == 2) = false := by simpa using h2
  have b3 : (x.kind == 3) = false := by simpa using h3
  clear h1 h2 h3
  go_enter Try.func18, Try.ntmps18
  go_wp2
  go_ret
  exact ⟨rfl, (Kp.refl _).alloc _⟩

/-- What Put answers and leaves. -/
def RetPut (p cb ct cs room : Nat) (q : List Ev) (x : Ev) (w : World) (e : Ending) (w' : World) : Prop :=
  e = .returned (.bool (putB room q x)) ∧ LB w' p cb ct cs room (putM room q x) ∧ Fr (Chs cb ct cs) w w'

theorem put_any (p cb ct cs room : Nat) (q : List Ev) (x : Ev) (w : World) (h : LB w p cb ct cs room q) :
    Calls Try.prog 18 #[.pointer (some ⟨p, 0, none⟩), .agg #[.int .i64 x.kind, .int .u8 x.byte, .int .i64 x.rows, .int .i64 x.cols]] w (RetPut p cb ct cs room q x w) := by
  have hp := h.not_p
  have lb := h.b.lt
  have lt := h.t.lt
  have ls := h.s.lt
  by_cases h1 : x.kind = 1
  · by_cases hr : (ofK 1 q).length < room
    · have hb : putB room q x = true := by simp [putB, h1, hr]
      refine (put1_room p cb ct cs room q x w h h1 (by rw [bBuf_size]; exact hr)).mono ?_
      rintro e w' ⟨rfl, s, r, rfl⟩
      have ka := h.kp ((Kp.refl w).alloc (.cells #[.int .i64 1, .int .u8 x.byte, .int .i64 x.rows, .int .i64 x.cols] 30))
      have hf : Fr (fun k => k = cb) (w.alloc (.cells #[.int .i64 1, .int .u8 x.byte, .int .i64 x.rows, .int .i64 x.cols] 30)) ((w.alloc (.cells #[.int .i64 1, .int .u8 x.byte, .int .i64 x.rows, .int .i64 x.cols] 30)).setChan cb room ((bBuf q).push (.int .u8 x.byte)) false s r false) := Fr.setChan (X := fun k => k = cb) (Fr.refl _) rfl _ _ _ _ _ _
      refine ⟨by rw [hb], ?_, ((Fr.refl w).alloc _).trans (hf.weak fun k hk => .inl hk)⟩
      rw [putM, if_pos hb]
      refine ⟨ka.bx.fr hf hp.1, ⟨s, r, ?_⟩, ?_, ?_, h.d⟩
      · rw [bBuf_snoc (by exact h1)]
        have hn : x.norm.byte = x.byte := by simp [Ev.norm, h1]
        rw [hn]
        exact heap_setChan _ _ _ _ _ _ _ _ ka.b.lt
      · rw [tBuf_other (by show x.kind ≠ 2; omega)]; exact ka.t.fr hf (fun e => h.d.1 e.symm)
      · rw [sBuf_other (by show x.kind ≠ 3; omega)]; exact ka.s.fr hf (fun e => h.d.2.1 e.symm)
    · have hb : putB room q x = false := by simp [putB, h1]; omega
      refine (put1_full p cb ct cs room q x w h h1 (by rw [bBuf_size]; omega)).mono ?_
      rintro e w' ⟨rfl, rfl⟩
      have ka := (Kp.refl w).alloc (.cells #[.int .i64 1, .int .u8 x.byte, .int .i64 x.rows, .int .i64 x.cols] 30)
      exact ⟨by rw [hb], by rw [putM, if_neg (by simp [hb])]; exact h.kp ka, ka.fr⟩
  · by_cases h2 : x.kind = 2
    · by_cases hr : (ofK 2 q).length < room
      · have hb : putB room q x = true := by simp [putB, h2, hr]
        refine (put2_room p cb ct cs room q x w h h2 (by rw [tBuf_size]; exact hr)).mono ?_
        rintro e w' ⟨rfl, s, r, rfl⟩
        have ka := h.kp ((Kp.refl w).alloc (.cells #[.int .i64 2, .int .u8 x.byte, .int .i64 x.rows, .int .i64 x.cols] 30))
        have hf : Fr (fun k => k = ct) (w.alloc (.cells #[.int .i64 2, .int .u8 x.byte, .int .i64 x.rows, .int .i64 x.cols] 30)) ((w.alloc (.cells #[.int .i64 2, .int .u8 x.byte, .int .i64 x.rows, .int .i64 x.cols] 30)).setChan ct room ((tBuf q).push (.bool true)) false s r false) := Fr.setChan (X := fun k => k = ct) (Fr.refl _) rfl _ _ _ _ _ _
        refine ⟨by rw [hb], ?_, ((Fr.refl w).alloc _).trans (hf.weak fun k hk => .inr (.inl hk))⟩
        rw [putM, if_pos hb]
        refine ⟨ka.bx.fr hf hp.2.1, ?_, ⟨s, r, ?_⟩, ?_, h.d⟩
        · rw [bBuf_other (by show x.kind ≠ 1; omega)]; exact ka.b.fr hf h.d.1
        · rw [tBuf_snoc (by exact h2)]
          exact heap_setChan _ _ _ _ _ _ _ _ ka.t.lt
        · rw [sBuf_other (by show x.kind ≠ 3; omega)]; exact ka.s.fr hf (fun e => h.d.2.2 e.symm)
      · have hb : putB room q x = false := by simp [putB, h2]; omega
        refine (put2_full p cb ct cs room q x w h h2 (by rw [tBuf_size]; omega)).mono ?_
        rintro e w' ⟨rfl, rfl⟩
        have ka := (Kp.refl w).alloc (.cells #[.int .i64 2, .int .u8 x.byte, .int .i64 x.rows, .int .i64 x.cols] 30)
        exact ⟨by rw [hb], by rw [putM, if_neg (by simp [hb])]; exact h.kp ka, ka.fr⟩
    · by_cases h3 : x.kind = 3
      · by_cases hr : (ofK 3 q).length < room
        · have hb : putB room q x = true := by simp [putB, h3, hr]
          refine (put3_room p cb ct cs room q x w h h3 (by rw [sBuf_size]; exact hr)).mono ?_
          rintro e w' ⟨rfl, s, r, rfl⟩
          have ka := h.kp ((Kp.refl w).alloc (.cells #[.int .i64 3, .int .u8 x.byte, .int .i64 x.rows, .int .i64 x.cols] 30))
          have hf : Fr (fun k => k = cs) (w.alloc (.cells #[.int .i64 3, .int .u8 x.byte, .int .i64 x.rows, .int .i64 x.cols] 30)) ((w.alloc (.cells #[.int .i64 3, .int .u8 x.byte, .int .i64 x.rows, .int .i64 x.cols] 30)).setChan cs room ((sBuf q).push (.agg #[.int .i64 x.rows, .int .i64 x.cols])) false s r false) := Fr.setChan (X := fun k => k = cs) (Fr.refl _) rfl _ _ _ _ _ _
          refine ⟨by rw [hb], ?_, ((Fr.refl w).alloc _).trans (hf.weak fun k hk => .inr (.inr hk))⟩
          rw [putM, if_pos hb]
          refine ⟨ka.bx.fr hf hp.2.2, ?_, ?_, ⟨s, r, ?_⟩, h.d⟩
          · rw [bBuf_other (by show x.kind ≠ 1; omega)]; exact ka.b.fr hf h.d.2.1
          · rw [tBuf_other (by show x.kind ≠ 2; omega)]; exact ka.t.fr hf h.d.2.2
          · rw [sBuf_snoc (by exact h3)]
            have hn : x.norm.rows = x.rows ∧ x.norm.cols = x.cols := by simp [Ev.norm, h3]
            rw [hn.1, hn.2]
            exact heap_setChan _ _ _ _ _ _ _ _ ka.s.lt
        · have hb : putB room q x = false := by simp [putB, h3]; omega
          refine (put3_full p cb ct cs room q x w h h3 (by rw [sBuf_size]; omega)).mono ?_
          rintro e w' ⟨rfl, rfl⟩
          have ka := (Kp.refl w).alloc (.cells #[.int .i64 3, .int .u8 x.byte, .int .i64 x.rows, .int .i64 x.cols] 30)
          exact ⟨by rw [hb], by rw [putM, if_neg (by simp [hb])]; exact h.kp ka, ka.fr⟩
      · have hb : putB room q x = false := by simp [putB, h1, h2, h3]
        refine (put_other p x w h1 h2 h3).mono ?_
        rintro e w' ⟨rfl, ka⟩
        exact ⟨by rw [hb], by rw [putM, if_neg (by simp [hb])]; exact h.kp ka, ka.fr⟩
end Go.Proofs.Ytakbfppmgngdiaa
