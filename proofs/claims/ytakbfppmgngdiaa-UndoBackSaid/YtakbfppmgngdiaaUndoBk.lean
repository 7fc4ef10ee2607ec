/-
  typebarlaw19.UndoBack: the walk: it returns true, and what was in memory stays. Conditions: the deeds and the line can be read.
-/
import Derived.Test.YtakbfppmgngdiaaUndoBm
import Derived.Test.YtakbfppmgngdiaaUndoX
import Derived.IntWalk
import Derived.BigQuiet
namespace Go.Proofs.Ytakbfppmgngdiaa
open Go.RowKit

attribute [local go_sem ↓] Go.wp_at_zero Go.wp_at_succ

/-- The stack in its box, and the line. -/
def St13 (w wx : World) (s : Nat) (gs : List Grp) (A1 : Option Addr) (n1 c1 : Nat) (A2 : Option Addr) (n2 c2 : Nat) (now : List Int) : Prop :=
  Bx wx s #[.slice A1 n1 c1] 47 ∧ Grps wx A1 n1 c1 gs ∧ Ru wx Any A2 n2 c2 now ∧ Kp w wx
theorem St13.kp {w wx wy : World} {s : Nat} {gs : List Grp} {A1 A2 : Option Addr} {n1 c1 n2 c2 : Nat} {now : List Int} (h : St13 w wx s gs A1 n1 c1 A2 n2 c2 now) (k : Kp wx wy) : St13 w wy s gs A1 n1 c1 A2 n2 c2 now :=
  ⟨h.1.kp k, h.2.1.kp k, h.2.2.1.kp k, h.2.2.2.trans k⟩
theorem mid13_mk {w w5 : World} {s : Nat} {gs gs' : List Grp} {A1 : Option Addr} {n1 c1 : Nat} {A5 : Option Addr} {n5 c5 : Nat} {A2 : Option Addr} {n2 c2 : Nat} {now : List Int}
    (hs : w.heap.size ≤ s) (st : St13 w w5 s gs A1 n1 c1 A2 n2 c2 now) (hG : Grps w5 A5 n5 c5 gs') : St13 w (w5.setCell ⟨s, 0, none⟩ (.slice A5 n5 c5)) s gs' A5 n5 c5 A2 n2 c2 now :=
  ⟨st.1.set 0 _, hG.set1 st.1 _, st.2.2.1.set1 st.1 _, st.2.2.2.setCell (p := ⟨s, 0, none⟩) hs _⟩
theorem small_ok' {j : Nat} {gs : List Grp} (h : Small j gs) : ∀ g ∈ gs, okG g := fun g hg e he => by
  obtain ⟨h1, h2, h3⟩ := h.2.2.2 g hg e he
  exact ⟨by omega, by omega, h3⟩

set_option maxRecDepth 100000 in
set_option maxHeartbeats 8000000 in
theorem undoBack_walk' (A LA : Option Addr) (n c ln lc : Nat) (ds : List DuM) (line : List Int) (w : World) (hD : Dus w A n c ds) (hat : ∀ d ∈ ds, d.e.at_ ≤ 9223372036854775807) (hL : Ru w Any LA ln lc line) :
    Calls Try.prog 8 #[.slice LA ln lc, .slice A n c] w fun e w' => e = .returned (.bool true) ∧ Kp w w' := by
  have hcap := hD.cap
  have hle := hD.le
  unfold maxLen at hcap
  have HLEN := Lib.hid hD.len
  have HAT := Lib.hid hat
  clear hat
  have hle2 := hL.le
  have hcap2 := hL.cap
  go_enter Try.func8, Try.ntmps8
  go_wp2_with fail
  refine (few_any LA ln lc 60 hle2 hcap2 (by omega) _).mono ?_
  rintro e w' ⟨rfl, rfl⟩
  have hL1 := hL.take (k := min ln 60) (by omega)
  have hl60 : min ln 60 ≤ 60 := by omega
  clear hL hle2 hcap2
  generalize line.take (min ln 60) = line' at *
  generalize min ln 60 = ln' at *
  have HLL := Lib.hid hL1.len
  go_wp2_with fail
  go_loopg [6, 7, 8, 9, 10, 11] 40 (fun g v6 v7 i v9 v10 v11 wr => ∃ (j : Nat) (gs : List Grp) (A1 : Option Addr) (n1 c1 : Nat) (A2 : Option Addr) (n2 c2 : Nat) (now : List Int) (first : Int), j + g = 40 ∧ i = .int .i64 j ∧ v6 = .slice A2 n2 c2 ∧ v7 = .int .i64 first ∧ St13 w wr w.heap.size gs A1 n1 c1 A2 n2 c2 now ∧ Hid (Small j gs ∧ BackTo gs now line' first ∧ now.length ≤ 60 + 20 * j))
  case atStart =>
    have ka := (Kp.refl w).alloc (.cells #[.slice none 0 0] 47)
    exact ⟨0, [], none, 0, 0, LA, ln', lc, line', 0, rfl, rfl, rfl, rfl, ⟨Bx.new w _ _, Lst.nil, hL1.kp ka, ka⟩, Small.nil 0, .inl ⟨rfl, rfl, rfl⟩, by have := HLL.out; omega⟩
  case round =>
    obtain ⟨j, gs, A1, n1, c1, A2, n2, c2, now, first, hj, rfl, rfl, rfl, hst, hsm⟩ := hrel
    by_cases hlt : j < n ∧ j < 40
    · obtain ⟨h1, h2⟩ := hlt
      have h2b : decide ((j : Int) < 40) = true := by simp; omega
      obtain ⟨dd, hdd⟩ : ∃ dd, ds[j]? = some dd := ⟨ds[j]'(by rw [HLEN.out]; exact h1), List.getElem?_eq_getElem _⟩
      have hdat := HAT.out dd (List.mem_of_getElem? hdd)
      obtain ⟨ad, B, m, d, C, p, q, rfl, q0, q1, q2, q3, q4, hrB, hrC⟩ := (hD.kp hst.2.2.2).get hdd
      have hd0 := hD.get hdd
      clear hdd
      obtain ⟨kind, cur, ⟨at_, xo, xn⟩⟩ := dd
      dsimp only at q0 q1 q2 q3 q4 hrB hrC hdat
      obtain ⟨Z0, Z1⟩ : Hid (w.cell? (ad.add (j * 5)) = some (.int .i64 kind)) ∧ Hid (w.cell? ⟨(ad.add (j * 5)).block, (ad.add (j * 5)).off + 1, none⟩ = some (.int .i64 cur)) := by
        obtain ⟨ad', _, _, _, _, _, _, h0, h1, h2, _⟩ := hd0
        cases h0
        exact ⟨h1, h2⟩
      clear hd0
      have hB1 := hrB.le
      have hB2 := hrB.cap
      have hC1 := hrC.le
      have hC2 := hrC.cap
      have hlen1 := Lib.hid hst.2.1.len
      have hn1 : n1 ≤ 100 := by have h1 := hlen1.out; have h2 := hsm.out.1.1; omega
      have hn2 : n2 ≤ 1000 := by have h1 := hst.2.2.1.len; have h2 := hsm.out.2.2; omega
      have HES : Hid (∀ g ∈ gs, g.es.length ≤ 1000000) := fun g hg => by have := hsm.out.1.2.2.1 g hg; omega
      go_wp2_with fail
      refine (light_any at_ B C m d p q wr hB1 hC1 hB2 hC2).mono ?_
      rintro e w2 ⟨rfl, k2⟩
      have st2 := hst.kp k2
      have q0' := cell_kp k2 q0
      have q1' := cell_kp k2 q1
      have hrB2 := (hrB.kp k2).take (k := min m 20) (by omega)
      have hrC2 := (hrC.kp k2).take (k := min p 20) (by omega)
      have hxo : (xo.take (min m 20)).length ≤ 20 := by rw [List.length_take]; omega
      have hxn : (xn.take (min p 20)).length ≤ 20 := by rw [List.length_take]; omega
      clear hst k2 q0 q1 q2 q3 q4 hB1 hB2 hC1 hC2 hrB hrC
      generalize min m 20 = m' at *
      generalize min p 20 = p' at *
      generalize xo.take m' = xo' at *
      generalize xn.take p' = xn' at *
      go_upto_region 9 with fail
      have ka := (Kp.refl w2).alloc (.cells #[.int .i64 at_, .slice B m' d, .slice C p' q] 51)
      have be := Bx.new w2 #[.int .i64 at_, .slice B m' d, .slice C p' q] 51
      have st3 := st2.kp ka
      have hrB3 := hrB2.kp ka
      have hrC3 := hrC2.kp ka
      have hse : w.heap.size < w2.heap.size := st2.1.lt
      clear st2 hrB2 hrC2 ka q0' q1'
      generalize (w2.alloc (.cells #[.int .i64 at_, .slice B m' d, .slice C p' q] 51)) = w3 at *
      generalize w2.heap.size = se at *
      obtain ⟨y0, y1, y2, _, _, _⟩ := be.three
      have hm' := hrB3.len
      have hp' := hrC3.len
      have hm20 : m' ≤ 20 := by omega
      have hp20 : p' ≤ 20 := by omega
      clear hm' hp'
      go_wp2_with fail
      refine (edit_any at_ B C m' d p' q w3).mono ?_
      rintro e w4 ⟨rfl, k4⟩
      have st4 := st3.kp k4
      have hrB4 := hrB3.kp k4
      have hrC4 := hrC3.kp k4
      have be4 := be.kp k4
      clear st3 hrB3 hrC3 be y0 y1 y2 k4
      go_wp2_with fail
      refine (do_any ⟨at_, xo', xn'⟩ B C A2 m' d p' q n2 c2 now w4 hrB4 hrC4 st4.2.2.1 (by omega) (by omega) (by omega) hdat).mono ?_
      intro e w5 hret
      cases hdo : doM ⟨at_, xo', xn'⟩ now with
      | none =>
        rw [hdo] at hret
        obtain ⟨rfl, k5⟩ := hret
        have st5 := st4.kp k5
        clear hdo
        go_wp2_with fail
        go_roundg (40 - (j + 1))
        case measure => omega
        case rel => exact ⟨j + 1, gs, A1, n1, c1, A2, n2, c2, now, first, by omega, by go_num, rfl, rfl, st5, hsm.out.1.mono (by omega), hsm.out.2.1, by have := hsm.out.2.2; omega⟩
      | some next =>
        rw [hdo] at hret
        obtain ⟨A6, n6, c6, rfl, hr6, k5⟩ := hret
        have HDO := Lib.hid hdo
        have st5 := st4.kp k5
        have st6 : St13 w w5 w.heap.size gs A1 n1 c1 A6 n6 c6 next := ⟨st5.1, st5.2.1, hr6.any, st5.2.2.2⟩
        have hrB5 := hrB4.kp k5
        have hrC5 := hrC4.kp k5
        have be5 := be4.kp k5
        clear hdo st4 st5 hr6 hrB4 hrC4 be4 k5
        obtain ⟨p0, p1⟩ := st6.1.one
        go_wp2_with fail
        refine (undo_len A1 n1 c1 w5).mono ?_
        rintro e w6 ⟨rfl, k6⟩
        have st7 := st6.kp k6
        have hrB6 := hrB5.kp k6
        have hrC6 := hrC5.kp k6
        have be6 := be5.kp k6
        have z0 := cell_kp st7.2.2.2 Z0.out
        have z1 := cell_kp st7.2.2.2 Z1.out
        clear st6 p0 p1 hrB5 hrC5 be5 k6
        go_upto_if 45 with fail
        obtain ⟨fi, hfi⟩ : ∃ fi, fi = if gs = [] then cur else first := ⟨_, rfl⟩
        have HFI := Lib.hid hfi
        clear hfi
        have hjn : (j : Int) < (n : Int) := by omega
        go_cut [7] (fun v wx => v = .int .i64 fi ∧ wx = w6)
        case first =>
          by_cases h0 : n1 = 0
          · have h0b : ((n1 : Int) == 0) = true := by simpa using h0
            have hge : gs = [] := List.eq_nil_of_length_eq_zero (by rw [hlen1.out, h0])
            have HGE := Lib.hid hge
            clear hge h0
            go_wp2_with fail
            go_meet
            exact ⟨by rw [HFI.out, if_pos HGE.out], rfl⟩
          · have h0b : ((n1 : Int) == 0) = false := by simpa using h0
            go_wp2_with fail
            go_meet
            exact ⟨by rw [HFI.out, if_neg (fun h => h0 (by rw [← hlen1.out, h]; rfl))], rfl⟩
        case rest =>
          obtain ⟨hv, hwc⟩ := hcut
          subst hv
          subst hwc
          have hd2 : w.heap.size ≠ se := by omega
          have i1 : (0 : Int) ≤ (j : Int) := by omega
          obtain ⟨y0, y1, y2, _, _, _⟩ := be6.three
          obtain ⟨p0, p1⟩ := st7.1.one
          go_upto_region 13 with fail
          go_cut [] (fun wx => ∃ (A5 : Option Addr) (n5 c5 : Nat), St13 w wx w.heap.size (addM gs ⟨at_, xo', xn'⟩ cur (kind != 0)) A5 n5 c5 A6 n6 c6 next)
          case first =>
            go_region_with (first | (go_at_call 27; (with_reducible refine (edit_any at_ B C m' d p' q _).mono ?_); rintro e w4 ⟨rfl, k4'⟩; have k4 : Kp wc w4 := (by first | exact k4' | exact ((Kp.refl wc).drew).trans k4'); have r0 := cell_kp k4 p0; have r1 := cell_kp k4 z0; have r2 := cell_kp k4 z1) | (go_at_call 26; refine (undo_add A1 B C n1 c1 m' d p' q gs ⟨at_, xo', xn'⟩ cur (kind != 0) _ (st7.2.1.kp k4) (hrB6.kp k4) (hrC6.kp k4) (by omega) HES.out).mono ?_; rintro e w5 ⟨A5, n5, c5, rfl, hG5, k5⟩; have k35 := k4.trans k5; clear r0 r1 r2; have st9 := st7.kp k35; obtain ⟨r0, s1⟩ := st9.1.one))
            all_goals (go_wp2_with fail; go_meet; exact ⟨A5, n5, c5, mid13_mk (Nat.le_refl _) st9 hG5⟩)
          case rest =>
            obtain ⟨A5, n5, c5, st8⟩ := hcut
            clear z0 z1 y0 y1 y2 p0 p1 st7 hrB6 hrC6 be6
            go_wp2_with fail
            go_roundg (40 - (j + 1))
            case measure => omega
            case rel => exact ⟨j + 1, _, A5, n5, c5, A6, n6, c6, next, fi, by omega, by go_num, rfl, rfl, st8, hsm.out.1.add _ _ _ ⟨hxo, hxn, hdat⟩, by rw [HFI.out]; exact hsm.out.2.1.add (by have := hsm.out.1.1; omega) HDO.out, by have h1 := doM_len HDO.out; have h2 := hsm.out.2.2; have h3 : xn'.length ≤ 20 := hxn; have h4 : (Ed.mk at_ xo' xn').new.length ≤ 20 := hxn; omega⟩
    · have hex : j < n ∧ decide ((j : Int) < 40) = false ∨ ¬ j < n := by
        by_cases h1 : j < n
        · exact .inl ⟨h1, by simp; omega⟩
        · exact .inr h1
      have hj40 : j ≤ 40 := by omega
      have htot : tot gs ≤ 2000 := by have := hsm.out.1.2.1; omega
      have hn2 : n2 ≤ 1000 := by have h1 := hst.2.2.1.len; have h2 := hsm.out.2.2; omega
      have HOK : Hid (∀ g ∈ gs, okG g) := small_ok' hsm.out.1
      have HALL := Lib.hid hsm.out.2.1.all
      obtain ⟨p0, p1⟩ := hst.1.one
      have hL2 := hL1.kp hst.2.2.2
      clear hL1 hD
      rcases hex with ⟨h1, h2⟩ | h1
      all_goals
        go_wp2_with fail
        have hcall := undo_all A1 A2 n1 c1 n2 c2 gs now 0 wr hst.2.1 hst.2.2.1 (by omega) htot HOK.out
        rw [HALL.out] at hcall
        refine hcall.mono ?_
        clear hcall
        rintro e w2 ⟨A3, n3, c3, rfl, hr3, k2⟩
        have kw := hst.2.2.2.trans k2
        have hL3 := hL2.kp k2
        clear hst hL2 p0 p1 k2
        have hcb : (first == first) = true := by simp
        go_wp2_with fail
        refine (same_eq Any Any A3 LA n3 c3 ln' lc line' w2 hr3 hL3).mono ?_
        rintro e w5 ⟨rfl, k5⟩
        go_wp2_with fail
        refine (awake19 _).mono ?_
        rintro e w6 ⟨rfl, k6⟩
        go_wp2_with fail
        go_ret
        exact ⟨rfl, (kw.trans k5).trans k6⟩
end Go.Proofs.Ytakbfppmgngdiaa
