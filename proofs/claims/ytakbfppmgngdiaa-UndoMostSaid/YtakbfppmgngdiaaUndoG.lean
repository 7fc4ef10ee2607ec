/-
  undo.Add and typebarref19.Add, whatever is asked; typebarlaw19.sameGroup on the same group. Conditions: what is read can be read.
-/
import Derived.Test.YtakbfppmgngdiaaUndoS
namespace Go.Proofs.Ytakbfppmgngdiaa
open Go.RowKit

theorem undo_add (A B C : Option Addr) (n c m d p q : Nat) (gs : List Grp) (ed : Ed) (cur : Int) (join : Bool) (w : World) (h : Grps w A n c gs) (hB : Ru w Any B m d ed.old) (hC : Ru w Any C p q ed.new)
    (hn : n ≤ 2000) (hes : ∀ g ∈ gs, g.es.length ≤ 1000000) :
    Calls Try.prog 26 #[.agg #[.slice A n c], .agg #[.int .i64 ed.at_, .slice B m d, .slice C p q], .int .i64 cur, .bool join] w (RetAdd (addM gs ed cur join) w) := by
  by_cases hj : join = false ∨ n = 0
  · exact undo_add_own A B C n c m d p q gs ed cur join w h hB hC hn hj
  · have h1 : join = true := by cases join <;> simp_all
    subst h1
    exact undo_add_join A B C n c m d p q gs ed cur w h hB hC hn (by omega) hes
theorem ref_add (A B C : Option Addr) (n c m d p q : Nat) (gs : List Grp) (ed : Ed) (cur : Int) (join : Bool) (w : World) (h : Grps w A n c gs) (hB : Ru w Any B m d ed.old) (hC : Ru w Any C p q ed.new)
    (hn : n ≤ 1000) (hes : ∀ g ∈ gs, g.es.length ≤ 1000000) :
    Calls Try.prog 28 #[.slice A n c, .agg #[.int .i64 ed.at_, .slice B m d, .slice C p q], .int .i64 cur, .bool join] w (RetRAdd (addM gs ed cur join) w) := by
  by_cases hj : join = false ∨ n = 0
  · exact ref_add_own A B C n c m d p q gs ed cur join w h hB hC hn hj
  · have h1 : join = true := by cases join <;> simp_all
    subst h1
    exact ref_add_join A B C n c m d p q gs ed cur w h hB hC hn (by omega) hes

theorem same_eq (F G : Nat → Prop) (A B : Option Addr) (n c m d : Nat) (xs : List Int) (w : World) (ha : Ru w F A n c xs) (hb : Ru w G B m d xs) :
    Calls Try.prog 37 #[.slice A n c, .slice B m d] w fun e w' => e = .returned (.bool true) ∧ Kp w w' :=
  (same_any F G A B n c m d xs xs w ha hb).mono fun _ _ ⟨he, hd⟩ => ⟨by rw [he, (sameB_iff xs xs).2 rfl], hd.kp⟩

set_option maxRecDepth 100000 in
set_option maxHeartbeats 3200000 in
theorem sameGroup_true (A B : Option Addr) (n c m d : Nat) (g : Grp) (w : World) (ha : Eds w A n c g.es) (hb : Eds w B m d g.es) :
    Calls Try.prog 32 #[.agg #[.slice A n c, .int .i64 g.cur], .agg #[.slice B m d, .int .i64 g.cur]] w fun e w' => e = .returned (.bool true) ∧ Kp w w' := by
  have hnm : n = m := by rw [← ha.len, ← hb.len]
  subst hnm
  have hlx := ha.le
  have hcx := ha.cap
  have hly := hb.le
  have hcy := hb.cap
  unfold maxLen at hcx hcy
  have HL := Lib.hid ha.len
  go_enter Try.func32, Try.ntmps32
  go_upto_region 1 with fail
  have ka := ((Kp.refl w).alloc (.cells #[.slice A n c, .int .i64 g.cur] 62)).alloc (.cells #[.slice B n d, .int .i64 g.cur] 69)
  have b0 := (Bx.new w #[.slice A n c, .int .i64 g.cur] 62).alloc (.cells #[.slice B n d, .int .i64 g.cur] 69)
  have b1 := Bx.new (w.alloc (.cells #[.slice A n c, .int .i64 g.cur] 62)) #[.slice B n d, .int .i64 g.cur] 69
  rw [World.size_alloc] at b1
  generalize ((w.alloc (.cells #[.slice A n c, .int .i64 g.cur] 62)).alloc (.cells #[.slice B n d, .int .i64 g.cur] 69)) = w1 at *
  have ha1 := ha.kp ka
  have hb1 := hb.kp ka
  obtain ⟨p0, p1, _, _⟩ := b0.two
  obtain ⟨q0, q1, _, _⟩ := b1.two
  go_wp2_with fail
  clear p0 p1 q0 q1
  go_loopw [5] (fun i wr => ∃ k : Nat, k ≤ n ∧ i = .int .i64 k ∧ Kp w1 wr) (fun i _ => n - (intOf i).toNat)
  case atStart => exact ⟨0, Nat.zero_le _, rfl, Kp.refl _⟩
  case round =>
    obtain ⟨k, hk, rfl, hdr⟩ := hrel
    have c0 := b0.kp hdr
    have c1 := b1.kp hdr
    obtain ⟨p0, p1, _, _⟩ := c0.two
    obtain ⟨q0, q1, _, _⟩ := c1.two
    have kw := ka.trans hdr
    by_cases hlt : k < n
    · obtain ⟨e, he⟩ : ∃ e, g.es[k]? = some e := ⟨g.es[k]'(by rw [HL.out]; exact hlt), List.getElem?_eq_getElem _⟩
      obtain ⟨ad, A1, n1, d1, A2, n2, d2, rfl, x0, x1, x2, r1, r2⟩ := (ha1.kp hdr).get he
      obtain ⟨bd, B1, m1, f1, B2, m2, f2, rfl, y0, y1, y2, s1, s2⟩ := (hb1.kp hdr).get he
      clear he
      go_upto_region 6 with fail
      have F1 : ∀ {a : Addr} {v : Value}, wr.cell? a = some v → ∀ o : Obj, (wr.alloc o).cell? a = some v := fun h o => cell_kp ((Kp.refl wr).alloc o) h
      have F2 : ∀ {a : Addr} {v : Value}, wr.cell? a = some v → ∀ o o' : Obj, ((wr.alloc o).alloc o').cell? a = some v := fun h o o' => cell_kp (((Kp.refl wr).alloc o).alloc o') h
      have p0a := F1 p0
      have q0a := F1 q0
      have x0a := F1 x0
      have x1a := F1 x1
      have x2a := F1 x2
      have y0a := F1 y0
      have y1a := F1 y1
      have y2a := F1 y2
      have p0b := F2 p0
      have q0b := F2 q0
      have x0b := F2 x0
      have x1b := F2 x1
      have x2b := F2 x2
      have y0b := F2 y0
      have y1b := F2 y1
      have y2b := F2 y2
      clear F1 F2
      go_region
      · have kz := (((Kp.refl wr).alloc (.cells #[.int .i64 e.at_, .slice A1 n1 d1, .slice A2 n2 d2] 56)).alloc (.cells #[.int .i64 e.at_, .slice B1 m1 f1, .slice B2 m2 f2] 51)).drew
        have bX := ((Bx.new wr #[.int .i64 e.at_, .slice A1 n1 d1, .slice A2 n2 d2] 56).alloc (.cells #[.int .i64 e.at_, .slice B1 m1 f1, .slice B2 m2 f2] 51)).drew
        have bY := (Bx.new (wr.alloc (.cells #[.int .i64 e.at_, .slice A1 n1 d1, .slice A2 n2 d2] 56)) #[.int .i64 e.at_, .slice B1 m1 f1, .slice B2 m2 f2] 51).drew
        rw [World.size_alloc] at bY
        generalize ((wr.alloc (.cells #[.int .i64 e.at_, .slice A1 n1 d1, .slice A2 n2 d2] 56)).alloc (.cells #[.int .i64 e.at_, .slice B1 m1 f1, .slice B2 m2 f2] 51)).drew = wz at *
        clear p0a q0a x0a x1a x2a y0a y1a y2a p0b q0b x0b x1b x2b y0b y1b y2b p0 p1 q0 q1 x0 x1 x2 y0 y1 y2 c0 c1
        generalize wr.heap.size = sz at *
        obtain ⟨x0, x1, x2, _, _, _⟩ := bX.three
        obtain ⟨y0, y1, y2, _, _, _⟩ := bY.three
        go_wp2_with fail
        refine (same_eq Any Any A1 B1 n1 d1 m1 f1 e.old wz (r1.kp kz) (s1.kp kz)).mono ?_
        rintro e' w3 ⟨rfl, k3⟩
        have bX3 := bX.kp k3
        have bY3 := bY.kp k3
        have kz3 := kz.trans k3
        clear x0 x1 x2 y0 y1 y2 bX bY kz k3
        obtain ⟨x0, x1, x2, _, _, _⟩ := bX3.three
        obtain ⟨y0, y1, y2, _, _, _⟩ := bY3.three
        go_wp2_with fail
        refine (same_eq Any Any A2 B2 n2 d2 m2 f2 e.new w3 (r2.kp kz3) (s2.kp kz3)).mono ?_
        rintro e' w4 ⟨rfl, k4⟩
        have kz4 := kz3.trans k4
        clear x0 x1 x2 y0 y1 y2 bX3 bY3
        go_wp2_with fail
        go_roundw
        case rel => exact ⟨k + 1, by omega, by go_num, hdr.trans kz4⟩
        case measure => simp [intOf]; omega
      · have kz := (((Kp.refl wr).alloc (.cells #[.int .i64 e.at_, .slice B1 m1 f1, .slice B2 m2 f2] 51)).alloc (.cells #[.int .i64 e.at_, .slice A1 n1 d1, .slice A2 n2 d2] 56)).drew
        have bX := ((Bx.new wr #[.int .i64 e.at_, .slice B1 m1 f1, .slice B2 m2 f2] 51).alloc (.cells #[.int .i64 e.at_, .slice A1 n1 d1, .slice A2 n2 d2] 56)).drew
        have bY := (Bx.new (wr.alloc (.cells #[.int .i64 e.at_, .slice B1 m1 f1, .slice B2 m2 f2] 51)) #[.int .i64 e.at_, .slice A1 n1 d1, .slice A2 n2 d2] 56).drew
        rw [World.size_alloc] at bY
        generalize ((wr.alloc (.cells #[.int .i64 e.at_, .slice B1 m1 f1, .slice B2 m2 f2] 51)).alloc (.cells #[.int .i64 e.at_, .slice A1 n1 d1, .slice A2 n2 d2] 56)).drew = wz at *
        clear p0a q0a x0a x1a x2a y0a y1a y2a p0b q0b x0b x1b x2b y0b y1b y2b p0 p1 q0 q1 x0 x1 x2 y0 y1 y2 c0 c1
        generalize wr.heap.size = sz at *
        obtain ⟨x0, x1, x2, _, _, _⟩ := bX.three
        obtain ⟨y0, y1, y2, _, _, _⟩ := bY.three
        go_wp2_with fail
        refine (same_eq Any Any A1 B1 n1 d1 m1 f1 e.old wz (r1.kp kz) (s1.kp kz)).mono ?_
        rintro e' w3 ⟨rfl, k3⟩
        have bX3 := bX.kp k3
        have bY3 := bY.kp k3
        have kz3 := kz.trans k3
        clear x0 x1 x2 y0 y1 y2 bX bY kz k3
        obtain ⟨x0, x1, x2, _, _, _⟩ := bX3.three
        obtain ⟨y0, y1, y2, _, _, _⟩ := bY3.three
        go_wp2_with fail
        refine (same_eq Any Any A2 B2 n2 d2 m2 f2 e.new w3 (r2.kp kz3) (s2.kp kz3)).mono ?_
        rintro e' w4 ⟨rfl, k4⟩
        have kz4 := kz3.trans k4
        clear x0 x1 x2 y0 y1 y2 bX3 bY3
        go_wp2_with fail
        go_roundw
        case rel => exact ⟨k + 1, by omega, by go_num, hdr.trans kz4⟩
        case measure => simp [intOf]; omega
    · go_wp2
      go_ret
      exact ⟨rfl, kw⟩
end Go.Proofs.Ytakbfppmgngdiaa
