/-
  typebarref22: row: the parser in its box g. Conditions: the box is there; what waits are bytes, not more than 100000; a byte from 0 to 255.
-/
import Derived.Test.YtmeefngkbcfpeaaKeX
namespace Go.Proofs.Ytmeefngkbcfpeaa
open Go.RowKit

theorem numberR_text (s : List Int) : (numberR s).text = [] := by unfold numberR; split <;> rfl
theorem letterR_text (b : Int) : (letterR b).text = [] := by unfold letterR; split <;> rfl

set_option maxRecDepth 100000 in
set_option maxHeartbeats 3200000 in
theorem refRow_any (r : Rm) (hr : isB r.row) (hrl : r.row.length ≤ 100000) (hw : isB r.wait) (hwl : r.wait.length ≤ 100000) (b : Int) (h0 : 0 ≤ b) (h1 : b ≤ 255) (g : Nat) (w : World) (hg : Bx w g r.cells 45) :
    Calls Try.prog 47 #[.pointer (some ⟨g, 0, none⟩), .int .u8 b] w (RetRr (rowR r b) g w) := by
  have hbk := refBroken_any r hw hwl b h0 h1 g w hg
  have hP : rowR r b = if ctlM b = true ∨ 127 < b then brokenR r b else if b < 64 ∧ r.row.length < 16 then (⟨r.inn, r.row ++ [b], r.wait, r.met⟩, [])
    else if b < 64 then (⟨0, [], r.wait, r.met⟩, [⟨5, 0, false, []⟩]) else if b = 126 ∧ r.row = [50, 48, 48] then (⟨4, [], r.wait, r.met⟩, [])
    else if b = 126 then (⟨0, [], r.wait, r.met⟩, [numberR r.row]) else if r.row ≠ [] then (⟨0, [], r.wait, r.met⟩, [⟨5, 0, false, []⟩])
    else (⟨0, [], r.wait, r.met⟩, [letterR b]) := rfl
  generalize brokenR r b = bk at *
  obtain ⟨i, row, wait, met⟩ := r
  dsimp only [Rm.cells] at hP hg hr hrl
  have HBK := Lib.hid hbk
  have HCT := Lib.hid fun (wx : World) => refControl_any b wx
  have hnu := fun (wx : World) => refNumber_any row hr wx
  have hle := fun (wx : World) => refLetter_any b wx
  have hsz := bs8_size row
  have hq := bs8_beq hr isB_end
  have hn0 := bs8_beq hr isB_nil8
  have l2 : (bs8 [50, 48, 48]).toList = [50, 48, 48] := by rw [ByteArray.toList_eq]; rfl
  have l0 : (bs8 []).toList = [] := by rw [ByteArray.toList_eq]; rfl
  rw [l2] at hq
  rw [l0] at hn0
  have hres : bs8 (row ++ [b]) = bs8 row ++ bs [b] := by rw [bs8_app]; rfl
  have HRS := Lib.hid hres
  unfold kyv at hnu hle
  generalize hnr : numberR row = kn at *
  generalize hlr : letterR b = kl at *
  obtain ⟨nk, nr, nm, nt⟩ := kn
  obtain ⟨lk, lr, lm, lt⟩ := kl
  have HNU := Lib.hid hnu
  have HLE := Lib.hid hle
  clear hbk hw hwl hnu hle l2 l0 hres hnr hlr
  have hgl := hg.lt
  have hgb := Gb.refl g w
  generalize hs : bs8 row = s at *
  have HS := Lib.hid hs
  clear hs
  generalize hs2 : bs8 wait = s2 at *
  have HS2 := Lib.hid hs2
  clear hs2
  obtain ⟨⟨p0, p1, p2, p3⟩, q0, q1, q2, q3⟩ := hg.four4
  by_cases c1 : ctlM b = true ∨ 127 < b
  · rw [if_pos c1] at hP
    rw [hP]
    have hct := HCT.out
    obtain ⟨cb, hcb⟩ : ∃ cb, cb = ctlM b := ⟨_, rfl⟩
    rw [← hcb] at hct c1
    have HC2 := Lib.hid hct
    clear hct HCT hcb HLE HNU hq hn0 hP hsz hr
    go_enter Try.func47, Try.ntmps47
    cases cb with
    | true =>
      go_wp2_with (first | (go_at_call 48; refine (HC2.out _).mono ?_; rintro e w' ⟨rfl, hw'⟩; subst w') | (go_at_call 49; refine HBK.out.mono ?_; rintro e w2 ⟨A2, n2, c2, rfl, ho2, b2, gb2⟩))
      go_ret
      exact ⟨A2, n2, c2, rfl, ho2, b2, gb2⟩
    | false =>
      have c127 : 127 < b := by rcases c1 with c | c; cases c; exact c
      go_wp2_with (first | (go_at_call 48; refine (HC2.out _).mono ?_; rintro e w' ⟨rfl, hw'⟩; subst w') | (go_at_call 49; refine HBK.out.mono ?_; rintro e w2 ⟨A2, n2, c2, rfl, ho2, b2, gb2⟩))
      go_ret
      exact ⟨A2, n2, c2, rfl, ho2, b2, gb2⟩
  · have hcf : ctlM b = false := by simpa using fun h => c1 (Or.inl h)
    have h127 : b ≤ 127 := by omega
    have hct := HCT.out
    rw [hcf] at hct
    have HC2 := Lib.hid hct
    rw [if_neg c1] at hP
    have hgt : ¬ 127 < b := by omega
    clear hct HCT hcf c1 HBK hr
    by_cases c2 : b < 64
    · by_cases c3 : row.length < 16
      · rw [if_pos (And.intro c2 c3)] at hP
        rw [hP]
        have hl16 : (s.size : Int) < 16 := by omega
        have hs1 : (bs [b]).size = 1 := by rw [bs_size]; rfl
        have hs3 : s.size ≤ 100000 := by omega
        have hcv := conv_sl (P := Try.prog) (w.alloc (.cells #[.int .u8 b] 5)) 60 9 5 Try.underlying60 Try.underlying5 Try.underlying9 (A := some ⟨w.heap.size, 0, none⟩) (n := 1) (c := 1) (l := [b]) (F := Any) (Sl.new_ w #[.int .u8 b] 5 1 1 _ rfl trivial rfl (by omega)) (isB_one h0 h1)
        clear hP hq hn0 HNU HLE c3 hsz hrl
        go_enter Try.func47, Try.ntmps47
        go_wp2_with (first | (go_at_call 48; refine (HC2.out _).mono ?_; rintro e w' ⟨rfl, hw'⟩; subst w'))
        go_ret
        refine ⟨none, 0, 0, rfl, Own.nil _ _ _ _, ?_, (hgb.set 1 _).alloc _⟩
        show Bx _ g #[.int .i64 i, .string (bs8 (row ++ [b])), .string (bs8 wait), .bool met] _
        rw [HRS.out, HS2.out]
        exact Bx.alloc (hg.set 1 _) _
      · rw [if_neg (fun h => c3 h.2), if_pos c2] at hP
        rw [hP]
        have hl16 : ¬ (s.size : Int) < 16 := by omega
        clear hP hq hn0 HNU HLE c3 hsz hrl
        go_enter Try.func47, Try.ntmps47
        go_wp2_with (first | (go_at_call 48; refine (HC2.out _).mono ?_; rintro e w' ⟨rfl, hw'⟩; subst w'))
        go_ret
        refine ⟨_, 1, 1, rfl, Own.new_ ((w.setCell ⟨g, 0, none⟩ _).setCell ⟨g, 1, none⟩ _) #[.int .i64 5, .int .i32 0, .bool false, .slice none 0 0] 57 4 1 _ _ (by simp) (Nat.le_refl _) rfl (by omega), ?_, ((hgb.set 0 _).set 1 _).alloc _⟩
        show Bx _ g #[.int .i64 0, .string (bs8 []), .string (bs8 wait), .bool met] _
        rw [HS2.out]
        exact Bx.alloc ((hg.set 0 _).set 1 _) _
    · have c2' : ¬ (b < 64 ∧ row.length < 16) := fun h => c2 h.1
      rw [if_neg c2', if_neg c2] at hP
      clear c2' hsz hrl
      by_cases c4 : b = 126
      · subst c4
        by_cases c5 : row = [50, 48, 48]
        · rw [if_pos (And.intro rfl c5)] at hP
          rw [hP]
          rw [decide_eq_true c5] at hq
          clear hP hn0 HNU HLE c5
          go_enter Try.func47, Try.ntmps47
          go_wp2_with (first | (go_at_call 48; refine (HC2.out _).mono ?_; rintro e w' ⟨rfl, hw'⟩; subst w'))
          go_ret
          refine ⟨none, 0, 0, rfl, Own.nil _ _ _ _, ?_, ((hgb.set 0 _).set 1 _).set 0 _⟩
          show Bx _ g #[.int .i64 4, .string (bs8 []), .string (bs8 wait), .bool met] _
          rw [HS2.out]
          exact ((hg.set 0 _).set 1 _).set 0 _
        · rw [if_neg (fun h => c5 h.2), if_pos rfl] at hP
          rw [hP]
          rw [decide_eq_false c5] at hq
          clear hP hn0 HLE c5
          go_enter Try.func47, Try.ntmps47
          go_wp2_with (first | (go_at_call 48; refine (HC2.out _).mono ?_; rintro e w' ⟨rfl, hw'⟩; subst w') | (go_at_call 61; refine (HNU.out _).mono ?_; rintro e w2 ⟨rfl, k2⟩))
          go_ret
          have hz2 : w.heap.size ≤ w2.heap.size := by have := k2.size; simp at this; exact this
          refine ⟨_, 1, 1, rfl, Own.new_ w2 #[.int .i64 nk, .int .i32 nr, .bool nm, .slice none 0 0] 57 4 1 _ _ rfl hz2 rfl (by omega), ?_, (((hgb.set 0 _).set 1 _).kp k2).alloc _⟩
          show Bx _ g #[.int .i64 0, .string (bs8 []), .string (bs8 wait), .bool met] _
          rw [HS2.out]
          exact Bx.alloc (Bx.kp ((hg.set 0 _).set 1 _) k2) _
      · have hb126 : (b == 126) = false := by simpa using c4
        rw [if_neg (fun h => c4 h.1), if_neg c4] at hP
        by_cases c6 : row = []
        · rw [if_neg (fun h => h c6)] at hP
          rw [hP]
          rw [decide_eq_true c6] at hn0
          clear hP hq HNU c6 c4
          go_enter Try.func47, Try.ntmps47
          go_wp2_with (first | (go_at_call 48; refine (HC2.out _).mono ?_; rintro e w' ⟨rfl, hw'⟩; subst w') | (go_at_call 50; refine (HLE.out _).mono ?_; rintro e w2 ⟨rfl, k2⟩))
          go_ret
          have hz2 : w.heap.size ≤ w2.heap.size := by have := k2.size; simp at this; exact this
          refine ⟨_, 1, 1, rfl, Own.new_ w2 #[.int .i64 lk, .int .i32 lr, .bool lm, .slice none 0 0] 57 4 1 _ _ rfl hz2 rfl (by omega), ?_, (((hgb.set 0 _).set 1 _).kp k2).alloc _⟩
          show Bx _ g #[.int .i64 0, .string (bs8 []), .string (bs8 wait), .bool met] _
          rw [HS2.out]
          exact Bx.alloc (Bx.kp ((hg.set 0 _).set 1 _) k2) _
        · rw [if_pos c6] at hP
          rw [hP]
          rw [decide_eq_false c6] at hn0
          clear hP hq HNU HLE c6 c4
          go_enter Try.func47, Try.ntmps47
          go_wp2_with (first | (go_at_call 48; refine (HC2.out _).mono ?_; rintro e w' ⟨rfl, hw'⟩; subst w'))
          go_ret
          refine ⟨_, 1, 1, rfl, Own.new_ ((w.setCell ⟨g, 0, none⟩ _).setCell ⟨g, 1, none⟩ _) #[.int .i64 5, .int .i32 0, .bool false, .slice none 0 0] 57 4 1 _ _ (by simp) (Nat.le_refl _) rfl (by omega), ?_, ((hgb.set 0 _).set 1 _).alloc _⟩
          show Bx _ g #[.int .i64 0, .string (bs8 []), .string (bs8 wait), .bool met] _
          rw [HS2.out]
          exact Bx.alloc ((hg.set 0 _).set 1 _) _
end Go.Proofs.Ytmeefngkbcfpeaa
