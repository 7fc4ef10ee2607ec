/-
  typebarref09.Joined, typebarref19.Back: a line ahead of an edit, as the document has it. Conditions: what is read can be read, and is shorter than 10^9.
-/
import Derived.Test.YtakbfppmgngdiaaUndoE
import Derived.BigQuiet
import Derived.IntWalk
namespace Go.Proofs.Ytakbfppmgngdiaa
open Go.RowKit

def RetRu (l : List Int) (w : World) (e : Ending) (w' : World) : Prop := ∃ A n c, e = .returned (.slice A n c) ∧ Ru w' (From w.heap.size) A n c l ∧ Kp w w'
set_option maxRecDepth 100000 in
set_option maxHeartbeats 1600000 in
theorem joined_any (A B C : Option Addr) (n c m d p q : Nat) (xs ys zs : List Int) (w : World) (hx : Ru w Any A n c xs) (hy : Ru w Any B m d ys) (hz : Ru w Any C p q zs) (hn : n ≤ 1000000000) (hm : m ≤ 1000000000) (hp : p ≤ 1000000000) :
    Calls Try.prog 75 #[.slice A n c, .slice B m d, .slice C p q] w (RetRu (xs ++ ys ++ zs) w) := by
  have hyT : Ru w (To w.heap.size) B m d ys := Sl.weak hy fun k hk _ => hk
  have hzT : Ru w (To w.heap.size) C p q zs := Sl.weak hz fun k hk _ => hk
  clear hy hz
  go_enter Try.func75, Try.ntmps75
  go_upto_region 3 with (at_builtin; refine wpList_append_sl _ rfl _ _ _ rfl w.heap.size 21 _ 1 4 Try.underlying49 info32 rfl (by omega) none 0 0 [] rfl (Own.nil _ _ _ _) Any A n c (R32 xs) rfl hx (R32_one _) (by simp only [maxLen]; omega) (by omega) (by omega) ?_; intro A1 c1 w1 hown1 hg1 _)
  rw [List.nil_append, Nat.zero_add] at hown1
  have k1 := (Kp.refl w).grown hg1 (by simp [rowOf])
  have hy1 := Ru.kp hyT k1
  have hz1 := Ru.kp hzT k1
  have hs1 := k1.size
  clear hg1 hx hyT hzT
  go_upto_region 4 with (at_builtin; refine wpList_append_sl _ rfl _ _ _ rfl w.heap.size 21 _ 1 4 Try.underlying49 info32 rfl (by omega) A1 n c1 (R32 xs) rfl hown1 (To w.heap.size) B m d (R32 ys) rfl hy1 (R32_one _) (by simp only [maxLen]; omega) (by omega) (by omega) ?_; intro A2 c2 w2 hown2 hg2 _)
  have hrow : ∀ g, rowOf A1 = some g → w.heap.size ≤ g := fun g h => (hown1.lt g h).1
  have k2 := k1.grown hg2 hrow
  have hz2 : Ru w2 (To w.heap.size) C p q zs := Sl.grown hz1 hg2 fun g h hF => by have := hrow g h; unfold To at hF; omega
  have hs2 := k2.size
  clear hg2 hy1 hz1 hs1 hown1 hrow k1
  go_upto_region 5 with (at_builtin; refine wpList_append_sl _ rfl _ _ _ rfl w.heap.size 21 _ 1 4 Try.underlying49 info32 rfl (by omega) A2 (n + m) c2 (R32 xs ++ R32 ys) rfl hown2 (To w.heap.size) C p q (R32 zs) rfl hz2 (R32_one _) (by simp only [maxLen]; omega) (by omega) (by omega) ?_; intro A3 c3 w3 hown3 hg3 _)
  have hrow : ∀ g, rowOf A2 = some g → w.heap.size ≤ g := fun g h => (hown2.lt g h).1
  have k3 := k2.grown hg3 hrow
  rw [R32_append, R32_append] at hown3
  have h3 : Ru w3 (From w.heap.size) A3 (n + m + p) c3 (xs ++ ys ++ zs) := hown3.sl
  clear hg3 hz2 hs2 hown2 hrow k2 hown3
  go_wp2_with fail
  go_ret
  exact ⟨A3, _, c3, rfl, h3, k3⟩

set_option maxRecDepth 100000 in
set_option maxHeartbeats 1600000 in
theorem refBack_neg (at_ : Int) (A B C : Option Addr) (n c m d p q : Nat) (w : World) (hat : at_ < 0) :
    Calls Try.prog 72 #[.agg #[.int .i64 at_, .slice B m d, .slice C p q], .slice A n c] w fun e w' => e = .returned (.tuple #[.slice none 0 0, .bool false]) ∧ Kp w w' := by
  have hb : decide (at_ < 0) = true := by simpa using hat
  go_enter Try.func72, Try.ntmps72
  go_upto_region 1 with fail
  have ka := (Kp.refl w).alloc (.cells #[.int .i64 at_, .slice B m d, .slice C p q] 51)
  have b1 := Bx.new w #[.int .i64 at_, .slice B m d, .slice C p q] 51
  generalize (w.alloc (.cells #[.int .i64 at_, .slice B m d, .slice C p q] 51)) = w1 at *
  obtain ⟨x0, x1, x2, _, _, _⟩ := b1.three
  go_quiet (fail)
  go_wp2_with fail
  refine bodyPost_ret (v := .tuple #[.slice none 0 0, .bool false]) (by simp [results, Try.results72, go_sem]) rfl ?_
  exact ⟨rfl, ka.drewN _⟩
set_option maxRecDepth 100000 in
set_option maxHeartbeats 1600000 in
theorem refBack_far (at_ : Int) (A B C : Option Addr) (n c m d p q : Nat) (w : World) (hat : 0 ≤ at_) (hf : (n : Int) - p < at_) (hn : n ≤ 1000000000) (hp : p ≤ 1000000000) :
    Calls Try.prog 72 #[.agg #[.int .i64 at_, .slice B m d, .slice C p q], .slice A n c] w fun e w' => e = .returned (.tuple #[.slice none 0 0, .bool false]) ∧ Kp w w' := by
  have hb : decide (at_ < 0) = false := by simpa using hat
  have hb2 : decide ((n : Int) - p < at_) = true := by simpa using hf
  go_enter Try.func72, Try.ntmps72
  go_upto_region 1 with fail
  have ka := (Kp.refl w).alloc (.cells #[.int .i64 at_, .slice B m d, .slice C p q] 51)
  have b1 := Bx.new w #[.int .i64 at_, .slice B m d, .slice C p q] 51
  generalize (w.alloc (.cells #[.int .i64 at_, .slice B m d, .slice C p q] 51)) = w1 at *
  obtain ⟨x0, x1, x2, _, _, _⟩ := b1.three
  go_quiet (fail)
  go_wp2_with fail
  refine bodyPost_ret (v := .tuple #[.slice none 0 0, .bool false]) (by simp [results, Try.results72, go_sem]) rfl ?_
  exact ⟨rfl, ka.drewN _⟩
set_option maxRecDepth 100000 in
set_option maxHeartbeats 4000000 in
theorem refBack_fit (a : Nat) (A B C : Option Addr) (n c m d p q : Nat) (xs ys l : List Int) (w : World) (hx : Ru w Any B m d xs) (hy : Ru w Any C p q ys) (hl : Ru w Any A n c l) (hn : n ≤ 1000000000) (hm : m ≤ 1000000000) (hp : p ≤ 1000000000) (hfit : a + p ≤ n) :
    Calls Try.prog 72 #[.agg #[.int .i64 (a : Int), .slice B m d, .slice C p q], .slice A n c] w (RetLine (doM ⟨a, ys, xs⟩ l) w) := by
  have hb : decide ((a : Int) < 0) = false := by simp
  have hb2 : decide ((n : Int) - p < (a : Int)) = false := by simp; omega
  have hle := hl.le
  have hcap := hl.cap
  unfold maxLen at hcap
  go_enter Try.func72, Try.ntmps72
  go_upto_region 1 with fail
  have ka := (Kp.refl w).alloc (.cells #[.int .i64 a, .slice B m d, .slice C p q] 51)
  have b1 := Bx.new w #[.int .i64 a, .slice B m d, .slice C p q] 51
  have hx1 := hx.kp ka
  have hy1 := hy.kp ka
  have hl1 := hl.kp ka
  clear hx hy hl
  generalize (w.alloc (.cells #[.int .i64 a, .slice B m d, .slice C p q] 51)) = w1 at *
  obtain ⟨x0, x1, x2, _, _, _⟩ := b1.three
  have i1 : (0 : Int) ≤ (a : Int) := by omega
  have i2 : (a : Int) + p ≤ (c : Int) := by omega
  have i3 : (a : Int) ≤ (c : Int) := by omega
  have hd1 := (hl1.drop (k := a) (by omega)).take (k := p) (by omega)
  have hd2 := hl1.drop (k := a + p) hfit
  have hta := hl1.take (k := a) (by omega)
  have hlenl := hl1.len
  have hleny := hy1.len
  have hcs : c = a ∨ (c ≠ a ∧ c = a + p) ∨ (c ≠ a ∧ c ≠ a + p) := by omega
  by_cases hs : (l.drop a).take p = ys
  · have hsb : sameB ((l.drop a).take p) ys = true := (sameB_iff _ _).2 hs
    have HS : Hid (doM ⟨a, ys, xs⟩ l = some (l.take a ++ xs ++ l.drop (a + p))) := by
      have h1 := doM_yes (a := a) (o := ys) (nw := xs) (l := l) (by omega) (by rw [hleny]; exact hs)
      rw [hleny] at h1
      exact h1
    have hsame := fun (D : Option Addr) (k : Nat) (h : Ru w1 Any D p (c - a) ((l.drop a).take p)) => same_any Any Any D C p (c - a) p q _ ys (w1.drewN k) (Sl.drewN h k) (Sl.drewN hy1 k)
    rw [hsb] at hsame
    have HSAME := Lib.hid hsame
    clear hsame hs hlenl hleny hsb
    rcases hcs with hc | ⟨hc, hc2⟩ | ⟨hc, hc2⟩
    · obtain rfl : a = c := hc.symm
      obtain rfl : p = 0 := by omega
      obtain rfl : a = n := by omega
      simp only [if_true, Nat.add_zero, Nat.sub_self] at hd1 hd2 HSAME
      refine wp_region_quiet_lit (by kernel_rfl) (by kernel_rfl) ?_
      repeat (go_big_quiet_step (exact Calls.quiet_of (HSAME.out _ _ hd1)))
      refine wpQuiet_nil ?_
      intro _ hw'
      obtain ⟨nq, hw''⟩ := hw'
      subst hw''
      have kb := ka.drewN nq
      have hta2 := Sl.drewN hta nq
      have hd22 := Sl.drewN hd2 nq
      have hx2 := Sl.drewN hx1 nq
      have b2 := b1.drewN nq
      have hz2 := kb.size
      clear x0 x1 x2 hta hd2 hx1 b1 ka hd1 hl1 hy1
      generalize w1.drewN nq = w2 at *
      obtain ⟨x0, x1, x2, _, _, _⟩ := b2.three
      go_upto_region 3 with fail
      have e1 : IntKind.i64.wrap ((a : Int) + ((0 : Nat) : Int)) = (a : Int) + ((0 : Nat) : Int) := IntWalk.i64_in _ (by omega)
      have i4 : (0 : Int) ≤ (a : Int) + ((0 : Nat) : Int) := by omega
      have i5 : (a : Int) + ((0 : Nat) : Int) ≤ (a : Int) := by omega
      have i7 : (a : Int) ≤ (a : Int) := by omega
      have i6 : ((a : Int) + ((0 : Nat) : Int)).toNat = a + 0 := by omega
      have e2 : IntKind.i64.wrap (a : Int) = (a : Int) := IntWalk.i64_in _ (by omega)
      have i8 : (0 : Int) ≤ (a : Int) := by omega
      clear e1 i4 i5 i6 i7
      go_region_held3 (fun w' => w'.cell? ⟨w.heap.size, 0, none⟩ = some (.int .i64 a) ∧ w'.cell? ⟨w.heap.size, 1, none⟩ = some (.slice B m d) ∧ w'.cell? ⟨w.heap.size, 2, none⟩ = some (.slice C 0 q))
        (first | (with_reducible exact ⟨x0, x1, x2⟩) | (with_reducible exact ⟨r0, r1, r2⟩) | go_keep)
        ((go_at_call 75; go_loud (refine (joined_any _ B _ a _ m d _ _ (l.take a) xs (l.drop (a + 0)) _ (Sl.drew hta2) (Sl.drew hx2) (Sl.drew hd22) (by omega) (by omega) (by omega)).mono ?_); rintro e w4 ⟨A4, n4, c4, rfl, hr4, k4'⟩; have k4 := kb.trans ((Kp.refl w2).drew.trans k4'); have b4 := (Bx.drew b2).kp k4'; obtain ⟨r0, r1, r2, _, _, _⟩ := b4.three))
      clear e2 i8
      go_wp2_with fail
      refine bodyPost_ret (v := .tuple #[.slice A4 n4 c4, .bool true]) (by simp [results, Try.results72, go_sem]) rfl ?_
      rw [HS.out]
      exact ⟨A4, n4, c4, rfl, Sl.weak hr4 fun k _ h => by unfold From at h ⊢; exact Nat.le_trans hz2 h, k4⟩
    · subst hc2
      obtain rfl : n = a + p := by omega
      have hpp : a + p - a = p := by omega
      rw [if_neg hc, hpp] at hd1
      rw [if_pos rfl, Nat.sub_self] at hd2
      rw [hpp] at HSAME
      clear hpp
      refine wp_region_quiet_lit (by kernel_rfl) (by kernel_rfl) ?_
      repeat (go_big_quiet_step (exact Calls.quiet_of (HSAME.out _ _ hd1)))
      refine wpQuiet_nil ?_
      intro _ hw'
      obtain ⟨nq, hw''⟩ := hw'
      subst hw''
      have kb := ka.drewN nq
      have hta2 := Sl.drewN hta nq
      have hd22 := Sl.drewN hd2 nq
      have hx2 := Sl.drewN hx1 nq
      have b2 := b1.drewN nq
      have hz2 := kb.size
      clear x0 x1 x2 hta hd2 hx1 b1 ka hd1 hl1 hy1
      generalize w1.drewN nq = w2 at *
      obtain ⟨x0, x1, x2, _, _, _⟩ := b2.three
      go_upto_region 3 with fail
      have e1 : IntKind.i64.wrap ((a : Int) + (p : Int)) = (a : Int) + (p : Int) := IntWalk.i64_in _ (by omega)
      have i4 : (0 : Int) ≤ (a : Int) + (p : Int) := by omega
      have i5 : (a : Int) + (p : Int) ≤ ((a + p : Nat) : Int) := by omega
      have i7 : (a : Int) ≤ ((a + p : Nat) : Int) := by omega
      have i6 : ((a : Int) + (p : Int)).toNat = a + p := by omega
      have i8 : (a : Int) ≤ (a : Int) + (p : Int) := by omega
      have i9 : a ≤ a + p := by omega
      go_region_held3 (fun w' => w'.cell? ⟨w.heap.size, 0, none⟩ = some (.int .i64 a) ∧ w'.cell? ⟨w.heap.size, 1, none⟩ = some (.slice B m d) ∧ w'.cell? ⟨w.heap.size, 2, none⟩ = some (.slice C p q))
        (first | (with_reducible exact ⟨x0, x1, x2⟩) | (with_reducible exact ⟨r0, r1, r2⟩) | go_keep)
        ((go_at_call 75; go_loud (refine (joined_any _ B _ a _ m d _ _ (l.take a) xs (l.drop (a + p)) _ (Sl.drew hta2) (Sl.drew hx2) (Sl.drew hd22) (by omega) (by omega) (by omega)).mono ?_); rintro e w4 ⟨A4, n4, c4, rfl, hr4, k4'⟩; have k4 := kb.trans ((Kp.refl w2).drew.trans k4'); have b4 := (Bx.drew b2).kp k4'; obtain ⟨r0, r1, r2, _, _, _⟩ := b4.three))
      clear e1 i4 i5 i6 i7 i8 i9
      go_wp2_with fail
      refine bodyPost_ret (v := .tuple #[.slice A4 n4 c4, .bool true]) (by simp [results, Try.results72, go_sem]) rfl ?_
      rw [HS.out]
      exact ⟨A4, n4, c4, rfl, Sl.weak hr4 fun k _ h => by unfold From at h ⊢; exact Nat.le_trans hz2 h, k4⟩
    · rw [if_neg hc] at hd1
      rw [if_neg hc2] at hd2
      refine wp_region_quiet_lit (by kernel_rfl) (by kernel_rfl) ?_
      repeat (go_big_quiet_step (exact Calls.quiet_of (HSAME.out _ _ hd1)))
      refine wpQuiet_nil ?_
      intro _ hw'
      obtain ⟨nq, hw''⟩ := hw'
      subst hw''
      have kb := ka.drewN nq
      have hta2 := Sl.drewN hta nq
      have hd22 := Sl.drewN hd2 nq
      have hx2 := Sl.drewN hx1 nq
      have b2 := b1.drewN nq
      have hz2 := kb.size
      clear x0 x1 x2 hta hd2 hx1 b1 ka hd1 hl1 hy1
      generalize w1.drewN nq = w2 at *
      obtain ⟨x0, x1, x2, _, _, _⟩ := b2.three
      go_upto_region 3 with fail
      have e1 : IntKind.i64.wrap ((a : Int) + (p : Int)) = (a : Int) + (p : Int) := IntWalk.i64_in _ (by omega)
      have i4 : (0 : Int) ≤ (a : Int) + (p : Int) := by omega
      have i5 : (a : Int) + (p : Int) ≤ (n : Int) := by omega
      have i7 : (a : Int) ≤ (n : Int) := by omega
      have i6 : ((a : Int) + (p : Int)).toNat = a + p := by omega
      go_region_held3 (fun w' => w'.cell? ⟨w.heap.size, 0, none⟩ = some (.int .i64 a) ∧ w'.cell? ⟨w.heap.size, 1, none⟩ = some (.slice B m d) ∧ w'.cell? ⟨w.heap.size, 2, none⟩ = some (.slice C p q))
        (first | (with_reducible exact ⟨x0, x1, x2⟩) | (with_reducible exact ⟨r0, r1, r2⟩) | go_keep)
        ((go_at_call 75; go_loud (refine (joined_any _ B _ a _ m d _ _ (l.take a) xs (l.drop (a + p)) _ (Sl.drew hta2) (Sl.drew hx2) (Sl.drew hd22) (by omega) (by omega) (by omega)).mono ?_); rintro e w4 ⟨A4, n4, c4, rfl, hr4, k4'⟩; have k4 := kb.trans ((Kp.refl w2).drew.trans k4'); have b4 := (Bx.drew b2).kp k4'; obtain ⟨r0, r1, r2, _, _, _⟩ := b4.three))
      clear e1 i4 i5 i6 i7
      go_wp2_with fail
      refine bodyPost_ret (v := .tuple #[.slice A4 n4 c4, .bool true]) (by simp [results, Try.results72, go_sem]) rfl ?_
      rw [HS.out]
      exact ⟨A4, n4, c4, rfl, Sl.weak hr4 fun k _ h => by unfold From at h ⊢; exact Nat.le_trans hz2 h, k4⟩
  · have hsb : sameB ((l.drop a).take p) ys = false := sameB_no hs
    have HS : Hid (doM ⟨a, ys, xs⟩ l = none) := doM_no (by rw [hleny]; exact hs)
    have hsame := fun (D : Option Addr) (k : Nat) (h : Ru w1 Any D p (c - a) ((l.drop a).take p)) => same_any Any Any D C p (c - a) p q _ ys (w1.drewN k) (Sl.drewN h k) (Sl.drewN hy1 k)
    rw [hsb] at hsame
    have HSAME := Lib.hid hsame
    clear hsame hs hlenl hleny hsb
    rcases hcs with hc | ⟨hc, hc2⟩ | ⟨hc, hc2⟩
    · obtain rfl : a = c := hc.symm
      obtain rfl : p = 0 := by omega
      obtain rfl : a = n := by omega
      simp only [if_true, Nat.add_zero, Nat.sub_self] at hd1 hd2 HSAME
      refine wp_region_quiet_lit (by kernel_rfl) (by kernel_rfl) ?_
      repeat (go_big_quiet_step (exact Calls.quiet_of (HSAME.out _ _ hd1)))
      refine wpQuiet_nil ?_
      intro _ hw'
      obtain ⟨nq, hw''⟩ := hw'
      subst hw''
      clear x0 x1 x2 hta hd2 hx1 b1 hd1 hl1 hy1
      go_wp2_with fail
      refine bodyPost_ret (v := .tuple #[.slice none 0 0, .bool false]) (by simp [results, Try.results72, go_sem]) rfl ?_
      rw [HS.out]
      exact ⟨rfl, ka.drewN _⟩
    · subst hc2
      obtain rfl : n = a + p := by omega
      have hpp : a + p - a = p := by omega
      rw [if_neg hc, hpp] at hd1
      rw [if_pos rfl, Nat.sub_self] at hd2
      rw [hpp] at HSAME
      clear hpp
      refine wp_region_quiet_lit (by kernel_rfl) (by kernel_rfl) ?_
      repeat (go_big_quiet_step (exact Calls.quiet_of (HSAME.out _ _ hd1)))
      refine wpQuiet_nil ?_
      intro _ hw'
      obtain ⟨nq, hw''⟩ := hw'
      subst hw''
      clear x0 x1 x2 hta hd2 hx1 b1 hd1 hl1 hy1
      go_wp2_with fail
      refine bodyPost_ret (v := .tuple #[.slice none 0 0, .bool false]) (by simp [results, Try.results72, go_sem]) rfl ?_
      rw [HS.out]
      exact ⟨rfl, ka.drewN _⟩
    · rw [if_neg hc] at hd1
      rw [if_neg hc2] at hd2
      refine wp_region_quiet_lit (by kernel_rfl) (by kernel_rfl) ?_
      repeat (go_big_quiet_step (exact Calls.quiet_of (HSAME.out _ _ hd1)))
      refine wpQuiet_nil ?_
      intro _ hw'
      obtain ⟨nq, hw''⟩ := hw'
      subst hw''
      clear x0 x1 x2 hta hd2 hx1 b1 hd1 hl1 hy1
      go_wp2_with fail
      refine bodyPost_ret (v := .tuple #[.slice none 0 0, .bool false]) (by simp [results, Try.results72, go_sem]) rfl ?_
      rw [HS.out]
      exact ⟨rfl, ka.drewN _⟩

/-- An edit is undone, as the document has it. -/
theorem refBack_any (ed : Ed) (A B C : Option Addr) (n c m d p q : Nat) (l : List Int) (w : World) (hx : Ru w Any B m d ed.old) (hy : Ru w Any C p q ed.new) (hl : Ru w Any A n c l) (hn : n ≤ 1000000000) (hm : m ≤ 1000000000) (hp : p ≤ 1000000000) :
    Calls Try.prog 72 #[.agg #[.int .i64 ed.at_, .slice B m d, .slice C p q], .slice A n c] w (RetLine (doM ed.back l) w) := by
  obtain ⟨at_, xs, ys⟩ := ed
  dsimp only at hx hy ⊢
  by_cases h0 : at_ < 0
  · rw [doM_neg (show (Ed.back ⟨at_, xs, ys⟩).at_ < 0 from h0)]
    exact refBack_neg at_ A B C n c m d p q w h0
  · by_cases hf : at_ + p ≤ n
    · obtain ⟨a, rfl⟩ : ∃ a : Nat, at_ = a := ⟨at_.toNat, by omega⟩
      exact refBack_fit a A B C n c m d p q xs ys l w hx hy hl hn hm hp (by omega)
    · rw [doM_far (by show (l.length : Int) < at_ + ys.length; rw [hy.len, hl.len]; omega)]
      exact refBack_far at_ A B C n c m d p q w (by omega) (by omega) hn hp
end Go.Proofs.Ytakbfppmgngdiaa
