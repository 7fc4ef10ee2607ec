/-
  typebarlaw19.UndoPlays: the walk: it returns true, and what was in memory stays. Conditions: the deeds can be read.
-/
import Derived.Test.YtakbfppmgngdiaaUndoN
import Derived.Lib.QuietBelow
import Derived.IntWalk
import Derived.BigQuiet
namespace Go.Proofs.Ytakbfppmgngdiaa
open Go.RowKit

/-- Behind the program's Add, ahead of the document's. -/
def Mid9 (w wx : World) (s sx se : Nat) (gs gs' : List Grp) (A5 : Option Addr) (n5 c5 : Nat) (A2 : Option Addr) (n2 c2 : Nat) (kind cur at_ : Int) (B : Option Addr) (m d : Nat) (C : Option Addr) (p q : Nat) (B' : Option Addr) (m' d' : Nat) (C' : Option Addr) (p' q' : Nat) (xo xn : List Int) : Prop :=
  Bx wx s #[.slice A5 n5 c5] 47 ∧ Grps wx A5 n5 c5 gs' ∧ Grps wx A2 n2 c2 gs ∧ Kp w wx ∧ Bx wx sx #[.int .i64 kind, .int .i64 cur, .int .i64 at_, .slice B m d, .slice C p q] 53 ∧
    Bx wx se #[.int .i64 at_, .slice B' m' d', .slice C' p' q'] 51 ∧ Ru wx Any B' m' d' xo ∧ Ru wx Any C' p' q' xn
theorem mid9_mk {w w3 w5 : World} {s sx se : Nat} {gs gs' : List Grp} {A1 : Option Addr} {n1 c1 : Nat} {A5 : Option Addr} {n5 c5 : Nat} {A2 : Option Addr} {n2 c2 : Nat} {kind cur at_ : Int} {B : Option Addr} {m d : Nat} {C : Option Addr} {p q : Nat} {B' : Option Addr} {m' d' : Nat} {C' : Option Addr} {p' q' : Nat} {xo xn : List Int}
    (hs : w.heap.size ≤ s) (h1 : s ≠ sx) (h2 : s ≠ se) (st : USt w w5 s gs A1 n1 c1 A2 n2 c2) (hG : Grps w5 A5 n5 c5 gs') (k : Kp w3 w5) (bx : Bx w3 sx #[.int .i64 kind, .int .i64 cur, .int .i64 at_, .slice B m d, .slice C p q] 53)
    (be : Bx w3 se #[.int .i64 at_, .slice B' m' d', .slice C' p' q'] 51) (hB : Ru w3 Any B' m' d' xo) (hC : Ru w3 Any C' p' q' xn) :
    Mid9 w (w5.setCell ⟨s, 0, none⟩ (.slice A5 n5 c5)) s sx se gs gs' A5 n5 c5 A2 n2 c2 kind cur at_ B m d C p q B' m' d' C' p' q' xo xn :=
  ⟨st.1.set 0 _, hG.set1 st.1 _, st.2.2.1.set1 st.1 _, st.2.2.2.setCell (p := ⟨s, 0, none⟩) hs _, (bx.kp k).far (p := ⟨s, 0, none⟩) (Ne.symm h1) _, (be.kp k).far (p := ⟨s, 0, none⟩) (Ne.symm h2) _, (hB.kp k).set1 st.1 _, (hC.kp k).set1 st.1 _⟩

attribute [local go_sem ↓] Go.wp_at_zero Go.wp_at_succ
set_option maxRecDepth 100000 in
set_option maxHeartbeats 8000000 in
theorem undoPlays_walk' (A : Option Addr) (n c : Nat) (ds : List DuM) (w : World) (hD : Dus w A n c ds) (hat : ∀ d ∈ ds, d.e.at_ ≤ 9223372036854775807) :
    Calls Try.prog 6 #[.slice A n c] w fun e w' => e = .returned (.bool true) ∧ Kp w w' := by
  have hcap := hD.cap
  have hle := hD.le
  unfold maxLen at hcap
  have HLEN := Lib.hid hD.len
  have HAT := Lib.hid hat
  clear hat
  go_enter Try.func6, Try.ntmps6
  go_wp2_with fail
  go_loopg [4, 5] 100 (fun g v4 i wr => ∃ (j : Nat) (gs : List Grp) (A1 : Option Addr) (n1 c1 : Nat) (A2 : Option Addr) (n2 c2 : Nat), j + g = 100 ∧ i = .int .i64 j ∧ v4 = .slice A2 n2 c2 ∧ USt w wr w.heap.size gs A1 n1 c1 A2 n2 c2 ∧ Hid (Small j gs))
  case atStart =>
    exact ⟨0, [], none, 0, 0, none, 0, 0, rfl, rfl, rfl, ⟨Bx.new w _ _, Lst.nil, Lst.nil, (Kp.refl _).alloc _⟩, Small.nil 0⟩
  case round =>
    obtain ⟨j, gs, A1, n1, c1, A2, n2, c2, hj, rfl, rfl, hst, hsm⟩ := hrel
    by_cases hlt : j < n ∧ j < 100
    · obtain ⟨h1, h2⟩ := hlt
      have h2b : decide ((j : Int) < 100) = true := by simp; omega
      obtain ⟨dd, hdd⟩ : ∃ dd, ds[j]? = some dd := ⟨ds[j]'(by rw [HLEN.out]; exact h1), List.getElem?_eq_getElem _⟩
      have hdat := HAT.out dd (List.mem_of_getElem? hdd)
      obtain ⟨ad, B, m, d, C, p, q, rfl, q0, q1, q2, q3, q4, hrB, hrC⟩ := (hD.kp hst.2.2.2).get hdd
      clear hdd
      obtain ⟨kind, cur, ⟨at_, xo, xn⟩⟩ := dd
      dsimp only at q0 q1 q2 q3 q4 hrB hrC hdat
      go_upto_region 7 with fail
      have ka := (Kp.refl wr).alloc (.cells #[.int .i64 kind, .int .i64 cur, .int .i64 at_, .slice B m d, .slice C p q] 53)
      have bx := Bx.new wr #[.int .i64 kind, .int .i64 cur, .int .i64 at_, .slice B m d, .slice C p q] 53
      have st1 := hst.kp ka
      have hrB1 := hrB.kp ka
      have hrC1 := hrC.kp ka
      have hne : w.heap.size < wr.heap.size := hst.1.lt
      clear hst ka q0 q1 q2 q3 q4 hrB hrC
      generalize (wr.alloc (.cells #[.int .i64 kind, .int .i64 cur, .int .i64 at_, .slice B m d, .slice C p q] 53)) = w1 at *
      generalize wr.heap.size = sx at *
      obtain ⟨x0, x1, x2, x3, x4⟩ := bx.five'
      obtain ⟨kb, hkb⟩ : ∃ kb, kb = decide (0 ≤ kind ∧ kind ≤ 2) := ⟨_, rfl⟩
      have HKB := Lib.hid hkb
      clear hkb
      go_cut [31] (fun v wx => v = .bool kb ∧ wx = w1)
      case first =>
        by_cases hk0 : 0 ≤ kind
        · by_cases hk2 : kind ≤ 2
          · go_wp2_with fail
            go_meet
            exact ⟨by rw [HKB.out, decide_eq_true ⟨hk0, hk2⟩], rfl⟩
          · go_wp2_with fail
            go_meet
            exact ⟨by rw [HKB.out, decide_eq_false (by omega)], rfl⟩
        · go_wp2_with fail
          go_meet
          exact ⟨by rw [HKB.out, decide_eq_false (by omega)], rfl⟩
      case rest =>
        obtain ⟨rfl, rfl⟩ := hcut
        go_upto_if 31 with fail
        go_cut [4] (fun v wx => ∃ (gs : List Grp) (A1 : Option Addr) (n1 c1 : Nat) (A2 : Option Addr) (n2 c2 : Nat), v = .slice A2 n2 c2 ∧ USt w wx w.heap.size gs A1 n1 c1 A2 n2 c2 ∧ Hid (Small (j + 1) gs))
        case first =>
          have hle2 := st1.2.2.1.le
          have hcap2 := st1.2.2.1.cap
          have hlen2 := Lib.hid st1.2.2.1.len
          have hlen1 := Lib.hid st1.2.1.len
          unfold maxLen at hcap2
          obtain ⟨p0, p1⟩ := st1.1.one
          have hn1 : n1 ≤ 100 := by have h1 := hlen1.out; have h2 := hsm.out.1; omega
          have hn2 : n2 ≤ 100 := by have h1 := hlen2.out; have h2 := hsm.out.1; omega
          have HES : Hid (∀ g ∈ gs, g.es.length ≤ 1000000) := fun g hg => by have := hsm.out.2.2.1 g hg; omega
          cases kb
          · clear x0 x1 x2 x3 x4
            go_wp2_with fail
            refine (undo_drop A1 n1 c1 gs wc st1.2.1).mono ?_
            rintro e w2 ⟨A3, n3, c3, rfl, hG3, k2⟩
            have st2 := st1.kp k2
            clear p0 p1 st1 k2
            obtain ⟨p0, p1⟩ := st2.1.one
            go_upto_region 12 with fail
            have b3 := st2.1.set 0 (.slice A3 n3 c3)
            have hG4 := hG3.set1 st2.1 (.slice A3 n3 c3)
            have hR4 := st2.2.2.1.set1 st2.1 (.slice A3 n3 c3)
            have k4 := st2.2.2.2.setCell (p := ⟨w.heap.size, 0, none⟩) (Nat.le_refl _) (.slice A3 n3 c3)
            clear p0 p1 st2 hG3
            generalize (w2.setCell ⟨w.heap.size, 0, none⟩ (.slice A3 n3 c3)) = w3 at *
            by_cases h0 : n2 = 0
            · subst h0
              go_wp2_with fail
              go_meet
              have hge : gs = [] := List.eq_nil_of_length_eq_zero hlen2.out
              exact ⟨gs.dropLast, A3, n3, c3, A2, 0, c2, rfl, ⟨b3, hG4, by rw [hge] at hR4 ⊢; exact hR4, k4⟩, hsm.out.dropLast.mono (by omega)⟩
            · have e1 : (n2 : Int) - 1 = ((n2 - 1 : Nat) : Int) := by omega
              have hR5 := Lst.take GrpV.len hR4 (m := n2 - 1) (by omega) c2 (by omega) (Nat.le_refl _)
              have hde : gs.take (n2 - 1) = gs.dropLast := by rw [List.dropLast_eq_take, hlen2.out]
              rw [hde] at hR5
              clear hde
              go_wp2_with fail
              go_meet
              exact ⟨gs.dropLast, A3, n3, c3, A2, n2 - 1, c2, rfl, ⟨b3, hG4, hR5, k4⟩, hsm.out.dropLast.mono (by omega)⟩
          · have hB1 := hrB1.le
            have hB2 := hrB1.cap
            have hC1 := hrC1.le
            have hC2 := hrC1.cap
            go_wp2_with fail
            refine (light_any at_ B C m d p q wc hB1 hC1 hB2 hC2).mono ?_
            rintro e w2 ⟨rfl, k2⟩
            have st2 := st1.kp k2
            have bx2 := bx.kp k2
            have hrB2 := (hrB1.kp k2).take (k := min m 20) (by omega)
            have hrC2 := (hrC1.kp k2).take (k := min p 20) (by omega)
            have hxo : (xo.take (min m 20)).length ≤ 20 := by rw [List.length_take]; omega
            have hxn : (xn.take (min p 20)).length ≤ 20 := by rw [List.length_take]; omega
            clear p0 p1 st1 k2 bx x0 x1 x2 x3 x4 hB1 hB2 hC1 hC2 hrB1 hrC1
            generalize min m 20 = m' at *
            generalize min p 20 = p' at *
            generalize xo.take m' = xo' at *
            generalize xn.take p' = xn' at *
            obtain ⟨x0, x1, x2, x3, x4⟩ := bx2.five'
            obtain ⟨p0, p1⟩ := st2.1.one
            go_upto_region 9 with fail
            have ka := (Kp.refl w2).alloc (.cells #[.int .i64 at_, .slice B m' d, .slice C p' q] 51)
            have be := Bx.new w2 #[.int .i64 at_, .slice B m' d, .slice C p' q] 51
            have st3 := st2.kp ka
            have bx3 := bx2.kp ka
            have hrB3 := hrB2.kp ka
            have hrC3 := hrC2.kp ka
            have hse : w.heap.size < w2.heap.size := st2.1.lt
            clear p0 p1 x0 x1 x2 x3 x4 st2 bx2 hrB2 hrC2 ka
            generalize (w2.alloc (.cells #[.int .i64 at_, .slice B m' d, .slice C p' q] 51)) = w3 at *
            generalize w2.heap.size = se at *
            obtain ⟨x0, x1, x2, x3, x4⟩ := bx3.five'
            obtain ⟨y0, y1, y2, _, _, _⟩ := be.three
            obtain ⟨p0, p1⟩ := st3.1.one
            go_cut [] (fun wx => ∃ (A5 : Option Addr) (n5 c5 : Nat), Mid9 w wx w.heap.size sx se gs (addM gs ⟨at_, xo', xn'⟩ cur (decide (0 < kind))) A5 n5 c5 A2 n2 c2 kind cur at_ B m d C p q B m' d C p' q xo' xn')
            case first =>
              have hd1 : w.heap.size ≠ sx := by omega
              have hd2 : w.heap.size ≠ se := by omega
              go_region_with (first | (go_at_call 27; (with_reducible refine (edit_any at_ B C m' d p' q _).mono ?_); rintro e w4 ⟨rfl, k4'⟩; have k4 : Kp w3 w4 := (by first | exact k4' | exact ((Kp.refl w3).drew).trans k4'); have r0 := cell_kp k4 p0; have r1 := cell_kp k4 x0; have r2 := cell_kp k4 x1) | (go_at_call 26; refine (undo_add A1 B C n1 c1 m' d p' q gs ⟨at_, xo', xn'⟩ cur (decide (0 < kind)) _ (st3.2.1.kp k4) (hrB3.kp k4) (hrC3.kp k4) (by omega) HES.out).mono ?_; rintro e w5 ⟨A5, n5, c5, rfl, hG5, k5⟩; have k35 := k4.trans k5; clear r0 r1 r2; have st5 := st3.kp k35; obtain ⟨r0, s1⟩ := st5.1.one))
              all_goals (go_wp2_with fail; go_meet; exact ⟨A5, n5, c5, mid9_mk (Nat.le_refl _) hd1 hd2 st5 hG5 k35 bx3 be hrB3 hrC3⟩)
            case rest =>
              obtain ⟨A5, n5, c5, g1, g2, g3, g4, g5, g6, g7, g8⟩ := hcut
              clear p0 p1 x0 x1 x2 x3 x4 y0 y1 y2 st3 hrB3 hrC3 be bx3 hle2 hcap2
              obtain ⟨x0, x1, x2, x3, x4⟩ := g5.five'
              obtain ⟨y0, y1, y2, _, _, _⟩ := g6.three
              go_wp2_with fail
              refine (ref_add A2 B C n2 c2 m' d p' q gs ⟨at_, xo', xn'⟩ cur (decide (0 < kind)) _ g3 g7 g8 (by omega) HES.out).mono ?_
              rintro e w6 ⟨A6, n6, c6, rfl, hG6, k6⟩
              clear x0 x1 x2 x3 x4 y0 y1 y2
              go_wp2_with fail
              go_meet
              exact ⟨_, A5, n5, c5, A6, n6, c6, rfl, ⟨g1.kp k6, g2.kp k6, hG6, g4.trans k6⟩, hsm.out.add _ _ _ ⟨hxo, hxn, hdat⟩⟩
        case rest =>
          clear x0 x1 x2 x3 x4 bx st1 hrB1 hrC1 hsm
          obtain ⟨gs, A1, n1, c1, A2, n2, c2, rfl, st, hsm⟩ := hcut
          have hn12 : n2 = n1 := by rw [← st.2.1.len, ← st.2.2.1.len]
          subst hn12
          have HL := Lib.hid st.2.1.len
          have hle2 := st.2.2.1.le
          have hcap2 := st.2.2.1.cap
          unfold maxLen at hcap2
          have hn2 : n2 ≤ 100 := by have h1 := HL.out; have h2 := hsm.out.1; omega
          obtain ⟨p0, p1⟩ := st.1.one
          go_wp2_with fail
          refine (undo_last A1 n2 c1 gs _ _ st.2.1 (Kp.refl _) (fun g hg => by have := hsm.out.2.2.1 g hg; omega)).mono ?_
          intro e w2 hlast
          obtain ⟨E, m2, d2, gc, rfl, k2, hinfo⟩ := retLast_info hlast HL.out
          have HI := Lib.hid hinfo
          have st2 := st.kp k2
          clear hlast hinfo st p0 p1
          go_upto_region 15 with fail
          have ka := (Kp.refl w2).alloc (.cells #[.slice E m2 d2, .int .i64 gc] 62)
          have bg := Bx.new w2 #[.slice E m2 d2, .int .i64 gc] 62
          have st3 := st2.kp ka
          have HI3 : Hid (∀ g, 0 < n2 → gs[n2 - 1]? = some g → gc = g.cur ∧ Eds (w2.alloc (.cells #[.slice E m2 d2, .int .i64 gc] 62)) E m2 d2 g.es) := fun g h0 hg => ⟨(HI.out g h0 hg).1, ((HI.out g h0 hg).2.eds k2).kp ka⟩
          clear HI ka st2
          generalize (w2.alloc (.cells #[.slice E m2 d2, .int .i64 gc] 62)) = w3 at *
          generalize w2.heap.size = sg at *
          clear k2
          obtain ⟨p0, p1⟩ := st3.1.one
          obtain ⟨y0, y1, _, _⟩ := bg.two
          have r0 := cell_regrown p0
          have r1 := cell_regrown y0
          have r2 := cell_regrown y1
          rcases Nat.eq_zero_or_pos n2 with h0 | h0
          · rw [show decide (0 < n2) = false from decide_eq_false (by omega)]
            subst h0
            refine wp_region_quiet_below (by kernel_rfl) (by kernel_rfl) ?_
            repeat (first | go_big_quiet_step (exact Calls.regrown_of (undo_len A1 0 c1 _)) | quiet_step (exact Calls.regrown_of (undo_len A1 0 c1 _)))
            refine wpQuiet_nil ?_
            intro _ hw'
            obtain ⟨⟨dq, osq⟩, hw''⟩ := hw'
            subst hw''
            have st4 := st3.kp (below_regrown w3 dq osq)
            clear r0 r1 r2 p0 p1 y0 y1 st3 HI3 bg
            generalize Go.Sort.grow (redrawn w3 dq) osq = w4 at *
            go_wp2_with fail
            go_roundg (100 - (j + 1))
            case measure => omega
            case rel => exact ⟨j + 1, gs, A1, 0, c1, A2, 0, c2, by omega, by go_num, rfl, st4, hsm⟩
          · rw [decide_eq_true h0]
            have hb2 : decide ((0 : Int) < (n2 : Int)) = true := by simpa using h0
            obtain ⟨g, hg⟩ : ∃ g, gs[n2 - 1]? = some g := ⟨gs[n2 - 1]'(by rw [HL.out]; omega), List.getElem?_eq_getElem _⟩
            obtain ⟨hgc, hE1⟩ := HI3.out g h0 hg
            subst hgc
            obtain ⟨ad2, E2, m3, d3, rfl, z0', z1', hE2⟩ := st3.2.2.1.get hg
            have z0 := cell_regrown z0'
            have z1 := cell_regrown z1'
            clear z0' z1' hg HI3
            have e1 : (n2 : Int) - 1 = ((n2 - 1 : Nat) : Int) := by omega
            have e2 : (0 : Int) ≤ ((n2 - 1 : Nat) : Int) := by omega
            have e3 : ((n2 - 1 : Nat) : Int) < (n2 : Int) := by omega
            refine wp_region_quiet_below (by kernel_rfl) (by kernel_rfl) ?_
            repeat (first | go_big_quiet_step (first | (go_at_call 31; exact Calls.regrown_of (undo_len A1 n2 c1 _)) | (go_at_call 32; exact Calls.regrown_of (sameGroup_true E E2 m2 d2 m3 d3 g _ (hE1.kp (below_regrown w3 _ _)) (hE2.kp (below_regrown w3 _ _))))))
            refine wpQuiet_nil ?_
            intro _ hw'
            obtain ⟨⟨dq, osq⟩, hw''⟩ := hw'
            subst hw''
            have st4 := st3.kp (below_regrown w3 dq osq)
            clear r0 r1 r2 p0 p1 y0 y1 st3 bg z0 z1
            generalize Go.Sort.grow (redrawn w3 dq) osq = w4 at *
            go_wp2_with fail
            go_roundg (100 - (j + 1))
            case measure => omega
            case rel => exact ⟨j + 1, gs, A1, n2, c1, some ad2, n2, c2, by omega, by go_num, rfl, st4, hsm⟩
    · have hst4 := hst.2.2.2
      by_cases h1 : j < n
      · have h2b : decide ((j : Int) < 100) = false := by simp; omega
        go_wp2_with fail
        refine (awake19 _).mono ?_
        rintro e w2 ⟨rfl, k2⟩
        go_wp2_with fail
        go_ret
        exact ⟨rfl, hst4.trans k2⟩
      · go_wp2_with fail
        refine (awake19 _).mono ?_
        rintro e w2 ⟨rfl, k2⟩
        go_wp2_with fail
        go_ret
        exact ⟨rfl, hst4.trans k2⟩
end Go.Proofs.Ytakbfppmgngdiaa
