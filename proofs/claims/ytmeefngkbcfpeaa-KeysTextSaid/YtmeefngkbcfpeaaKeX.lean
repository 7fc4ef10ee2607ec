/-
  typebarref22: alone, escaped, broken: the parser in its box g. Conditions: the box is there; what waits are bytes, not more than 100000; a byte from 0 to 255.
-/
import Derived.Test.YtmeefngkbcfpeaaKeW
namespace Go.Proofs.Ytmeefngkbcfpeaa
open Go.RowKit

theorem restR_len (r : Rm) : (restR r).2.length ≤ r.wait.length := by unfold restR; dsimp only; rw [charsM_len]; exact decR_length _

set_option maxRecDepth 100000 in
set_option maxHeartbeats 1600000 in
theorem refAlone_any (r : Rm) (hw : isB r.wait) (hwl : r.wait.length ≤ 100000) (b : Int) (h0 : 0 ≤ b) (h1 : b ≤ 255) (g : Nat) (w : World) (hg : Bx w g r.cells 45) :
    Calls Try.prog 52 #[.pointer (some ⟨g, 0, none⟩), .int .u8 b] w (RetRr (aloneR r b) g w) := by
  have hre := refRest_any r hw (by omega) g w hg
  have hfe := refFed_any r hw hwl b h0 h1 g w hg
  have hrl := restR_len r
  have hP : aloneR r b = if b = 27 then (⟨1, r.row, [], false⟩, (restR r).2) else if ctlM b = true then ((restR r).1, (restR r).2 ++ [⟨2, b, false, []⟩]) else fedR r b := rfl
  have hr1 : (restR r).1 = ⟨r.inn, r.row, [], false⟩ := rfl
  have hgl := hg.lt
  generalize restR r = rr at *
  generalize fedR r b = fr at *
  obtain ⟨r1, ks⟩ := rr
  dsimp only at hP hr1 hrl
  subst hr1
  have HRE := Lib.hid hre
  have HFE := Lib.hid hfe
  have HCT := Lib.hid fun (wx : World) => refControl_any b wx
  have hrl2 : ks.length ≤ 100000 := by omega
  clear hre hfe hrl hw hwl
  by_cases c1 : b = 27
  · subst c1
    rw [if_pos rfl] at hP
    rw [hP]
    clear hP
    go_enter Try.func52, Try.ntmps52
    go_wp2_with (go_at_call 54; refine HRE.out.mono ?_; rintro e w2 ⟨A2, n2, c2, rfl, ho2, b2, gb2⟩; obtain ⟨⟨p0, p1, p2, p3⟩, q0, q1, q2, q3⟩ := Bx.four4 b2)
    go_ret
    have hm : rowOf A2 ≠ some g := fun e => by have := (ho2.lt _ e).1; omega
    exact ⟨A2, n2, c2, rfl, ho2.setCell (p := ⟨g, 0, none⟩) hm _, Bx.set b2 0 _, gb2.set 0 _⟩
  · rw [if_neg c1] at hP
    have hb : (b == 27) = false := by simpa using c1
    by_cases hc : ctlM b = true
    · rw [if_pos hc] at hP
      rw [hP]
      have hct := HCT.out
      rw [hc] at hct
      have HC2 := Lib.hid hct
      have hwr : IntKind.i32.wrap b = b := by simp [IntKind.wrap, IntKind.signed, IntKind.bits]; omega
      clear c1 hc hct HCT hP
      go_enter Try.func52, Try.ntmps52
      go_wp2_with (first
        | (go_at_call 48; refine (HC2.out _).mono ?_; rintro e w' ⟨rfl, hw'⟩; subst w')
        | (go_at_call 54; refine HRE.out.mono ?_; rintro e w2 ⟨A2, n2, c2, rfl, ho2', b2, gb2⟩; have ho2 : Own w2 w.heap.size 57 4 A2 n2 c2 (K4 ks) := ho2'; clear ho2'; have hn2 : n2 ≤ 100000 := (by have h1 := ho2.len; rw [K4_length] at h1; omega); have hz2 := gb2.size)
        | (at_builtin; refine wpList_append_sl _ rfl (.tmp 17) (.tmp 21) _ rfl w.heap.size 57 _ 4 40 Try.underlying46 infoKey rfl (by omega) A2 n2 c2 (K4 ks) rfl (ho2.alloc _) Any _ 1 1 [.int .i64 2, .int .i32 b, .bool false, .slice none 0 0] rfl (Sl.new _ _ _ _ _ trivial rfl (by omega)) (by simp [Value.oneCell']) (by simp only [maxLen]; omega) (by omega) (by first | omega | (simp; omega)) ?_; intro A4 c4 w4 hown4 hg4 hat4))
      go_ret
      have hr3 : ∀ j, rowOf A2 = some j → w.heap.size ≤ j := fun j e => (ho2.lt j e).1
      exact ⟨A4, n2 + 1, c4, rfl, by rw [K4_append]; exact hown4, Bx.grown (Bx.alloc b2 _) hg4 (fun e => by have := hr3 _ e; omega), Gb.grown (gb2.alloc _) hg4 hr3⟩
    · have hcf : ctlM b = false := by simpa using hc
      rw [if_neg hc] at hP
      rw [hP]
      have hct := HCT.out
      rw [hcf] at hct
      have HC2 := Lib.hid hct
      clear c1 hc hcf hct HCT hP
      go_enter Try.func52, Try.ntmps52
      go_wp2_with (first
        | (go_at_call 48; refine (HC2.out _).mono ?_; rintro e w' ⟨rfl, hw'⟩; subst w')
        | (go_at_call 60; refine HFE.out.mono ?_; rintro e w2 ⟨A2, n2, c2, rfl, ho2, b2, gb2⟩))
      go_ret
      exact ⟨A2, n2, c2, rfl, ho2, b2, gb2⟩

set_option maxRecDepth 100000 in
set_option maxHeartbeats 1600000 in
theorem refEscaped_any (r : Rm) (hw : isB r.wait) (hwl : r.wait.length ≤ 100000) (b : Int) (h0 : 0 ≤ b) (h1 : b ≤ 255) (g : Nat) (w : World) (hg : Bx w g r.cells 45) :
    Calls Try.prog 46 #[.pointer (some ⟨g, 0, none⟩), .int .u8 b] w (RetRr (escapedR r b) g w) := by
  have hfe := fun (wx : World) (hx : Bx wx g (Rm.cells ⟨0, r.row, r.wait, true⟩) 45) => refFed_any ⟨0, r.row, r.wait, true⟩ hw hwl b h0 h1 g wx hx
  have hP : escapedR r b = if b = 27 then (r, [⟨2, 27, false, []⟩]) else if b = 91 then (⟨2, [], r.wait, r.met⟩, []) else if b = 79 then (⟨3, r.row, r.wait, r.met⟩, [])
    else if ctlM b = true then (⟨0, r.row, r.wait, r.met⟩, [⟨2, b, true, []⟩]) else fedR ⟨0, r.row, r.wait, true⟩ b := rfl
  have hgl := hg.lt
  generalize fedR ⟨0, r.row, r.wait, true⟩ b = fr at *
  obtain ⟨i, row, wait, met⟩ := r
  dsimp only [Rm.cells] at hP hg hfe
  have HFE := Lib.hid hfe
  have HCT := Lib.hid fun (wx : World) => refControl_any b wx
  clear hfe hw hwl
  have hgb := Gb.refl g w
  obtain ⟨⟨p0, p1, p2, p3⟩, q0, q1, q2, q3⟩ := hg.four4
  by_cases c1 : b = 27
  · subst c1
    rw [if_pos rfl] at hP
    rw [hP]
    clear hP
    go_enter Try.func46, Try.ntmps46
    go_wp2_with fail
    go_ret
    exact ⟨_, 1, 1, rfl, Own.new_ w #[.int .i64 2, .int .i32 27, .bool false, .slice none 0 0] _ 4 1 _ _ rfl (Nat.le_refl _) rfl (by omega), hg.alloc _, hgb.alloc _⟩
  · rw [if_neg c1] at hP
    have hb1 : (b == 27) = false := by simpa using c1
    by_cases c2 : b = 91
    · subst c2
      rw [if_pos rfl] at hP
      rw [hP]
      clear hP c1
      go_enter Try.func46, Try.ntmps46
      go_wp2_with fail
      go_ret
      exact ⟨none, 0, 0, rfl, Own.nil _ _ _ _, ((hg.set 0 _).set 0 _).set 1 _, ((hgb.set 0 _).set 0 _).set 1 _⟩
    · rw [if_neg c2] at hP
      have hb2 : (b == 91) = false := by simpa using c2
      by_cases c3 : b = 79
      · subst c3
        rw [if_pos rfl] at hP
        rw [hP]
        clear hP c1 c2
        go_enter Try.func46, Try.ntmps46
        go_wp2_with fail
        go_ret
        exact ⟨none, 0, 0, rfl, Own.nil _ _ _ _, (hg.set 0 _).set 0 _, (hgb.set 0 _).set 0 _⟩
      · rw [if_neg c3] at hP
        have hb3 : (b == 79) = false := by simpa using c3
        by_cases hc : ctlM b = true
        · rw [if_pos hc] at hP
          rw [hP]
          have hct := HCT.out
          rw [hc] at hct
          have HC2 := Lib.hid hct
          have hwr : IntKind.i32.wrap b = b := by simp [IntKind.wrap, IntKind.signed, IntKind.bits]; omega
          clear c1 c2 c3 hc hct HCT hP
          go_enter Try.func46, Try.ntmps46
          go_wp2_with (go_at_call 48; refine (HC2.out _).mono ?_; rintro e w' ⟨rfl, hw'⟩; subst w')
          go_ret
          exact ⟨_, 1, 1, rfl, Own.new_ _ #[.int .i64 2, .int .i32 b, .bool true, .slice none 0 0] _ 4 1 _ _ (by simp) (Nat.le_refl _) rfl (by omega), Bx.alloc (hg.set 0 _) _, (hgb.set 0 _).alloc _⟩
        · have hcf : ctlM b = false := by simpa using hc
          rw [if_neg hc] at hP
          rw [hP]
          have hct := HCT.out
          rw [hcf] at hct
          have HC2 := Lib.hid hct
          clear c1 c2 c3 hc hcf hct HCT hP
          go_enter Try.func46, Try.ntmps46
          go_wp2_with (first
            | (go_at_call 48; refine (HC2.out _).mono ?_; rintro e w' ⟨rfl, hw'⟩; subst w')
            | (go_at_call 60; refine (HFE.out _ ((hg.set 0 _).set 3 _)).mono ?_; rintro e w2 ⟨A2, n2, c2, rfl, ho2, b2, gb2⟩))
          go_ret
          simp only [World.size_setCell] at ho2
          exact ⟨A2, n2, c2, rfl, ho2, b2, ((hgb.set 0 _).set 3 _).trans gb2⟩

set_option maxRecDepth 100000 in
set_option maxHeartbeats 1600000 in
theorem refBroken_any (r : Rm) (hw : isB r.wait) (hwl : r.wait.length ≤ 100000) (b : Int) (h0 : 0 ≤ b) (h1 : b ≤ 255) (g : Nat) (w : World) (hg : Bx w g r.cells 45) :
    Calls Try.prog 49 #[.pointer (some ⟨g, 0, none⟩), .int .u8 b] w (RetRr (brokenR r b) g w) := by
  have hal := fun (wx : World) (hx : Bx wx g (Rm.cells ⟨0, [], r.wait, r.met⟩) 45) => refAlone_any ⟨0, [], r.wait, r.met⟩ hw hwl b h0 h1 g wx hx
  have hP : brokenR r b = ((aloneR ⟨0, [], r.wait, r.met⟩ b).1, ⟨5, 0, false, []⟩ :: (aloneR ⟨0, [], r.wait, r.met⟩ b).2) := rfl
  have hall : (aloneR ⟨0, [], r.wait, r.met⟩ b).2.length ≤ 100001 := by
    unfold aloneR
    split
    · have := restR_len ⟨0, [], r.wait, r.met⟩; dsimp only at this ⊢; omega
    · split
      · have := restR_len ⟨0, [], r.wait, r.met⟩; simp at this ⊢; omega
      · unfold fedR; dsimp only; rw [charsM_len]; have := decR_length ((r.wait ++ [b]).take (r.wait.length + 1 - waitR (r.wait ++ [b]))); simp at this; omega
  generalize aloneR ⟨0, [], r.wait, r.met⟩ b = ar at *
  obtain ⟨i, row, wait, met⟩ := r
  obtain ⟨r1, ks⟩ := ar
  dsimp only [Rm.cells] at hP hg hal hall
  have HAL := Lib.hid hal
  clear hal hw hwl
  rw [hP]
  clear hP
  have hgl := hg.lt
  have hgb := Gb.refl g w
  obtain ⟨⟨p0, p1, p2, p3⟩, q0, q1, q2, q3⟩ := hg.four4
  go_enter Try.func49, Try.ntmps49
  have hb1 := Bx.alloc ((hg.set 0 (.int .i64 0)).set 1 (.string (bs8 []))) (.cells #[.int .i64 5, .int .i32 0, .bool false, .slice none 0 0] 57)
  have gb1 := ((hgb.set 0 (.int .i64 0)).set 1 (.string (bs8 []))).alloc (.cells #[.int .i64 5, .int .i32 0, .bool false, .slice none 0 0] 57)
  have ho1 := Own.new_ ((w.setCell ⟨g, 0, none⟩ (.int .i64 0)).setCell ⟨g, 1, none⟩ (.string (bs8 []))) #[.int .i64 5, .int .i32 0, .bool false, .slice none 0 0] 57 4 1 w.heap.size w.heap.size (by simp) (Nat.le_refl _) rfl (by omega)
  have hz1 : (((w.setCell ⟨g, 0, none⟩ (.int .i64 0)).setCell ⟨g, 1, none⟩ (.string (bs8 []))).alloc (.cells #[.int .i64 5, .int .i32 0, .bool false, .slice none 0 0] 57)).heap.size = w.heap.size + 1 := by simp
  have hbs : bs8 [] = ⟨#[]⟩ := rfl
  rw [hbs] at hb1 gb1 ho1 hz1
  have HZ1 := Lib.hid hz1
  clear hz1 hbs
  go_wp2_with (first
    | (go_at_call 52; refine (HAL.out _ hb1).mono ?_; rintro e w2 ⟨A2, n2, c2, rfl, ho2', b2, gb2⟩; have ho2 : Own w2 _ 57 4 A2 n2 c2 (K4 ks) := ho2'; clear ho2'; rw [HZ1.out] at ho2; have hn2 : n2 ≤ 100001 := (by have h1 := ho2.len; rw [K4_length] at h1; omega); have ho12 := gb2.own ho1 hgl; have hz2 := (gb1.trans gb2).size)
    | (at_builtin; refine wpList_append_sl _ rfl (.tmp 14) (.tmp 17) _ rfl w.heap.size 57 _ 4 40 Try.underlying46 infoKey rfl (by omega) (some ⟨w.heap.size, 0, none⟩) 1 1 _ rfl ho12 _ A2 n2 c2 (K4 ks) rfl ho2.sl (K4_one _) (by simp only [maxLen]; omega) (by omega) hz2 ?_; intro A4 c4 w4 hown4 hg4 hat4))
  go_ret
  exact ⟨A4, 1 + n2, c4, rfl, hown4, Bx.grown b2 hg4 (fun e => by simp [rowOf] at e; omega), Gb.grown (gb1.trans gb2) hg4 (fun j e => by simp [rowOf] at e; omega)⟩
end Go.Proofs.Ytmeefngkbcfpeaa
