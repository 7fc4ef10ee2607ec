/-
  typebarlaw19.UndoAll: the walk: it returns true, and what was in memory stays. Conditions: the deeds and the line can be read.
-/
import Derived.Test.YtakbfppmgngdiaaUndoN
import Derived.Test.YtakbfppmgngdiaaUndoK
import Derived.Lib.QuietBelow
import Derived.IntWalk
import Derived.BigQuiet
namespace Go.Proofs.Ytakbfppmgngdiaa
open Go.RowKit

attribute [local go_sem ↓] Go.wp_at_zero Go.wp_at_succ

/-- Behind the program's Add, ahead of the document's. -/
def Mid8 (w wx : World) (s se : Nat) (gs gs' : List Grp) (A5 : Option Addr) (n5 c5 : Nat) (A2 : Option Addr) (n2 c2 : Nat) (at_ : Int) (B' : Option Addr) (m' d' : Nat) (C' : Option Addr) (p' q' : Nat) (xo xn : List Int) : Prop :=
  Bx wx s #[.slice A5 n5 c5] 47 ∧ Grps wx A5 n5 c5 gs' ∧ Grps wx A2 n2 c2 gs ∧ Kp w wx ∧
    Bx wx se #[.int .i64 at_, .slice B' m' d', .slice C' p' q'] 51 ∧ Ru wx Any B' m' d' xo ∧ Ru wx Any C' p' q' xn
theorem mid8_mk {w w3 w5 : World} {s se : Nat} {gs gs' : List Grp} {A1 : Option Addr} {n1 c1 : Nat} {A5 : Option Addr} {n5 c5 : Nat} {A2 : Option Addr} {n2 c2 : Nat} {at_ : Int} {B' : Option Addr} {m' d' : Nat} {C' : Option Addr} {p' q' : Nat} {xo xn : List Int}
    (hs : w.heap.size ≤ s) (h2 : s ≠ se) (st : USt w w5 s gs A1 n1 c1 A2 n2 c2) (hG : Grps w5 A5 n5 c5 gs') (k : Kp w3 w5)
    (be : Bx w3 se #[.int .i64 at_, .slice B' m' d', .slice C' p' q'] 51) (hB : Ru w3 Any B' m' d' xo) (hC : Ru w3 Any C' p' q' xn) :
    Mid8 w (w5.setCell ⟨s, 0, none⟩ (.slice A5 n5 c5)) s se gs gs' A5 n5 c5 A2 n2 c2 at_ B' m' d' C' p' q' xo xn :=
  ⟨st.1.set 0 _, hG.set1 st.1 _, st.2.2.1.set1 st.1 _, st.2.2.2.setCell (p := ⟨s, 0, none⟩) hs _, (be.kp k).far (p := ⟨s, 0, none⟩) (Ne.symm h2) _, (hB.kp k).set1 st.1 _, (hC.kp k).set1 st.1 _⟩

theorem small_ok {j : Nat} {gs : List Grp} (h : Small j gs) : ∀ g ∈ gs, okG g := fun g hg e he => by
  obtain ⟨h1, h2, h3⟩ := h.2.2.2 g hg e he
  exact ⟨by omega, by omega, h3⟩

set_option maxRecDepth 100000 in
set_option maxHeartbeats 8000000 in
theorem undoAll_walk' (A LA : Option Addr) (n c ln lc : Nat) (ds : List DuM) (line : List Int) (cursor : Int) (w : World) (hD : Dus w A n c ds) (hat : ∀ d ∈ ds, d.e.at_ ≤ 9223372036854775807) (hL : Ru w Any LA ln lc line) :
    Calls Try.prog 7 #[.slice A n c, .slice LA ln lc, .int .i64 cursor] w fun e w' => e = .returned (.bool true) ∧ Kp w w' := by
  have hcap := hD.cap
  have hle := hD.le
  unfold maxLen at hcap
  have HLEN := Lib.hid hD.len
  have HAT := Lib.hid hat
  clear hat
  have hle2 := hL.le
  have hcap2 := hL.cap
  go_enter Try.func7, Try.ntmps7
  go_wp2_with fail
  refine (few_any LA ln lc 60 hle2 hcap2 (by omega) _).mono ?_
  rintro e w' ⟨rfl, rfl⟩
  have hL1 := hL.take (k := min ln 60) (by omega)
  have hl60 : min ln 60 ≤ 60 := by omega
  clear hL hle2 hcap2
  generalize line.take (min ln 60) = line' at *
  generalize min ln 60 = ln' at *
  go_wp2_with fail
  go_loopg [8, 9, 10] 40 (fun g v8 i v10 wr => ∃ (j : Nat) (gs : List Grp) (A1 : Option Addr) (n1 c1 : Nat) (A2 : Option Addr) (n2 c2 : Nat), j + g = 40 ∧ i = .int .i64 j ∧ v8 = .slice A2 n2 c2 ∧ USt w wr w.heap.size gs A1 n1 c1 A2 n2 c2 ∧ Hid (Small j gs))
  case atStart =>
    exact ⟨0, [], none, 0, 0, none, 0, 0, rfl, rfl, rfl, ⟨Bx.new w _ _, Lst.nil, Lst.nil, (Kp.refl _).alloc _⟩, Small.nil 0⟩
  case round =>
    obtain ⟨j, gs, A1, n1, c1, A2, n2, c2, hj, rfl, rfl, hst, hsm⟩ := hrel
    by_cases hlt : j < n ∧ j < 40
    · obtain ⟨h1, h2⟩ := hlt
      have h2b : decide ((j : Int) < 40) = true := by simp; omega
      obtain ⟨dd, hdd⟩ : ∃ dd, ds[j]? = some dd := ⟨ds[j]'(by rw [HLEN.out]; exact h1), List.getElem?_eq_getElem _⟩
      have hdat := HAT.out dd (List.mem_of_getElem? hdd)
      obtain ⟨ad, B, m, d, C, p, q, rfl, q0, q1, q2, q3, q4, hrB, hrC⟩ := (hD.kp hst.2.2.2).get hdd
      have hd0 := hD.get hdd
      clear hdd
      obtain ⟨kind, cur, ⟨at_, xo, xn⟩⟩ := dd
      dsimp only at q0 q1 q2 q3 q4 hrB hrC hdat
      obtain ⟨Z0, Z1⟩ : Hid (w.cell? (ad.add (j * 5)) = some (.int .i64 kind)) ∧ Hid (w.cell? ⟨(ad.add (j * 5)).block, (ad.add (j * 5)).off + 1, none⟩ = some (.int .i64 cur)) := by
        obtain ⟨ad', _, _, _, _, _, _, h0, h1, h2, _⟩ := hd0
        cases h0
        exact ⟨h1, h2⟩
      clear hd0
      have hB1 := hrB.le
      have hB2 := hrB.cap
      have hC1 := hrC.le
      have hC2 := hrC.cap
      have hlen2 := Lib.hid hst.2.2.1.len
      have hlen1 := Lib.hid hst.2.1.len
      have hn1 : n1 ≤ 100 := by have h1 := hlen1.out; have h2 := hsm.out.1; omega
      have hn2 : n2 ≤ 100 := by have h1 := hlen2.out; have h2 := hsm.out.1; omega
      have HES : Hid (∀ g ∈ gs, g.es.length ≤ 1000000) := fun g hg => by have := hsm.out.2.2.1 g hg; omega
      go_wp2_with fail
      refine (light_any at_ B C m d p q wr hB1 hC1 hB2 hC2).mono ?_
      rintro e w2 ⟨rfl, k2⟩
      have st2 := hst.kp k2
      have q0' := cell_kp k2 q0
      have q1' := cell_kp k2 q1
      have hrB2 := (hrB.kp k2).take (k := min m 20) (by omega)
      have hrC2 := (hrC.kp k2).take (k := min p 20) (by omega)
      have hxo : (xo.take (min m 20)).length ≤ 20 := by rw [List.length_take]; omega
      have hxn : (xn.take (min p 20)).length ≤ 20 := by rw [List.length_take]; omega
      clear hst k2 q0 q1 q2 q3 q4 hB1 hB2 hC1 hC2 hrB hrC
      generalize min m 20 = m' at *
      generalize min p 20 = p' at *
      generalize xo.take m' = xo' at *
      generalize xn.take p' = xn' at *
      go_upto_region 8 with fail
      have ka := (Kp.refl w2).alloc (.cells #[.int .i64 at_, .slice B m' d, .slice C p' q] 51)
      have be := Bx.new w2 #[.int .i64 at_, .slice B m' d, .slice C p' q] 51
      have st3 := st2.kp ka
      have hrB3 := hrB2.kp ka
      have hrC3 := hrC2.kp ka
      have z0 := cell_kp ka q0'
      have z1 := cell_kp ka q1'
      have hse : w.heap.size < w2.heap.size := st2.1.lt
      clear st2 hrB2 hrC2 ka q0' q1'
      generalize (w2.alloc (.cells #[.int .i64 at_, .slice B m' d, .slice C p' q] 51)) = w3 at *
      generalize w2.heap.size = se at *
      obtain ⟨y0, y1, y2, _, _, _⟩ := be.three
      obtain ⟨p0, p1⟩ := st3.1.one
      have hd2 : w.heap.size ≠ se := by omega
      have i1 : (0 : Int) ≤ (j : Int) := by omega
      have i2 : (j : Int) < (n : Int) := by omega
      go_cut [] (fun wx => ∃ (A5 : Option Addr) (n5 c5 : Nat), Mid8 w wx w.heap.size se gs (addM gs ⟨at_, xo', xn'⟩ cur (kind != 0)) A5 n5 c5 A2 n2 c2 at_ B m' d C p' q xo' xn')
      case first =>
        go_region_with (first | (go_at_call 27; (with_reducible refine (edit_any at_ B C m' d p' q _).mono ?_); rintro e w4 ⟨rfl, k4'⟩; have k4 : Kp w3 w4 := (by first | exact k4' | exact ((Kp.refl w3).drew).trans k4'); have r0 := cell_kp k4 p0; have r1 := cell_kp k4 z0; have r2 := cell_kp k4 z1) | (go_at_call 26; refine (undo_add A1 B C n1 c1 m' d p' q gs ⟨at_, xo', xn'⟩ cur (kind != 0) _ (st3.2.1.kp k4) (hrB3.kp k4) (hrC3.kp k4) (by omega) HES.out).mono ?_; rintro e w5 ⟨A5, n5, c5, rfl, hG5, k5⟩; have k35 := k4.trans k5; clear r0 r1 r2; have st5 := st3.kp k35; obtain ⟨r0, s1⟩ := st5.1.one))
        all_goals (go_wp2_with fail; go_meet; exact ⟨A5, n5, c5, mid8_mk (Nat.le_refl _) hd2 st5 hG5 k35 be hrB3 hrC3⟩)
      case rest =>
        obtain ⟨A5, n5, c5, g1, g2, g3, g4, g6, g7, g8⟩ := hcut
        clear p0 p1 y0 y1 y2 st3 hrB3 hrC3 be z0 z1
        have z0 := cell_kp g4 Z0.out
        have z1 := cell_kp g4 Z1.out
        obtain ⟨y0, y1, y2, _, _, _⟩ := g6.three
        go_upto_region 9 with fail
        go_region_held3 (fun w' => w'.cell? (ad.add (j * 5)) = some (.int .i64 kind) ∧ w'.cell? ⟨(ad.add (j * 5)).block, (ad.add (j * 5)).off + 1, none⟩ = some (.int .i64 cur) ∧ w'.cell? ⟨se, 0, none⟩ = some (.int .i64 at_) ∧ w'.cell? ⟨se, 1, none⟩ = some (.slice B m' d) ∧ w'.cell? ⟨se, 2, none⟩ = some (.slice C p' q))
          (first | (with_reducible exact ⟨z0, z1, y0, y1, y2⟩) | (with_reducible exact ⟨r0, r1, r2, r3, r4⟩) | go_keep)
          ((go_at_call 28; go_loud (refine (ref_add A2 B C n2 c2 m' d p' q gs ⟨at_, xo', xn'⟩ cur (kind != 0) _ (g3.kp (Kp.refl _).drew) (g7.kp (Kp.refl _).drew) (g8.kp (Kp.refl _).drew) (by omega) HES.out).mono ?_); rintro e w6 ⟨A6, n6, c6, rfl, hG6, k6'⟩; have k6 := (Kp.refl _).drew.trans k6'; have r0 := cell_kp k6 z0; have r1 := cell_kp k6 z1; have r2 := cell_kp k6 y0; have r3 := cell_kp k6 y1; have r4 := cell_kp k6 y2))
        go_wp2_with fail
        go_roundg (40 - (j + 1))
        case measure => omega
        case rel => exact ⟨j + 1, _, A5, n5, c5, A6, n6, c6, by omega, by go_num, rfl, ⟨g1.kp k6, g2.kp k6, hG6, g4.trans k6⟩, hsm.out.add _ _ _ ⟨hxo, hxn, hdat⟩⟩
    · have hj40 : j ≤ 40 := by omega
      have hex : j < n ∧ decide ((j : Int) < 40) = false ∨ ¬ j < n := by
        by_cases h1 : j < n
        · exact .inl ⟨h1, by simp; omega⟩
        · exact .inr h1
      have htot : tot gs ≤ 2000 := by have := hsm.out.2.1; omega
      have HOK : Hid (∀ g ∈ gs, okG g) := small_ok hsm.out
      obtain ⟨p0, p1⟩ := hst.1.one
      have hL2 := hL1.kp hst.2.2.2
      have hle3 := hst.2.2.1.le
      clear hL1 hD
      rcases hex with ⟨h1, h2⟩ | h1
      all_goals
        go_wp2_with fail
        refine (undo_all A1 LA n1 c1 ln' lc gs line' cursor wr hst.2.1 hL2 (by omega) htot HOK.out).mono ?_
        intro e w2 hret
        have hcls : ∃ (A3 : Option Addr) (n3 c3 : Nat) (l3 : List Int) (cu : Int) (ok : Bool), e = .returned (.tuple #[.slice A3 n3 c3, .int .i64 cu, .bool ok]) ∧ Ru w2 Any A3 n3 c3 l3 ∧ Kp wr w2 ∧ ∀ e' w3 w4, Kp w2 w3 → RetAll (allM gs line' cursor) w3 e' w4 → ∃ (A4 : Option Addr) (n4 c4 : Nat), e' = .returned (.tuple #[.slice A4 n4 c4, .int .i64 cu, .bool ok]) ∧ Ru w4 Any A4 n4 c4 l3 ∧ Kp w3 w4 := by
          unfold RetAll at hret
          cases ho : allM gs line' cursor with
          | none =>
            rw [ho] at hret
            obtain ⟨rfl, k⟩ := hret
            exact ⟨none, 0, 0, [], 0, false, rfl, Ru.nil _ _, k, fun e' w3 w4 _ h => ⟨none, 0, 0, h.1, Ru.nil _ _, h.2⟩⟩
          | some x =>
            obtain ⟨l3, cu⟩ := x
            rw [ho] at hret
            obtain ⟨A3, n3, c3, rfl, hr, k⟩ := hret
            exact ⟨A3, n3, c3, l3, cu, true, rfl, hr, k, fun e' w3 w4 _ h => h⟩
        obtain ⟨A3, n3, c3, l3, cu, ok, rfl, hr3, k2, hnext⟩ := hcls
        have HN := Lib.hid hnext
        have st2 := hst.kp k2
        have hL3 := hL2.kp k2
        clear hret hnext hst hL2 p0 p1 k2
        go_wp2_with fail
        refine (refAll_any A2 LA n2 c2 ln' lc gs line' cursor w2 st2.2.2.1 hL3 (by omega) htot HOK.out).mono ?_
        intro e w4 hret
        obtain ⟨A4, n4, c4, rfl, hr4, k4⟩ := HN.out e w2 w4 (Kp.refl _) hret
        have kw4 := st2.2.2.2.trans k4
        have hr34 := hr3.kp k4
        clear hret st2 hL3 hr3 k4
        have hcb : (cu == cu) = true := by simp
        have hob : (ok == ok) = true := by simp
        go_wp2_with fail
        refine (same_eq Any Any A3 A4 n3 c3 n4 c4 l3 w4 hr34 hr4).mono ?_
        rintro e w5 ⟨rfl, k5⟩
        go_wp2_with fail
        refine (awake19 _).mono ?_
        rintro e w6 ⟨rfl, k6⟩
        go_wp2_with fail
        go_ret
        exact ⟨rfl, (kw4.trans k5).trans k6⟩
end Go.Proofs.Ytakbfppmgngdiaa
