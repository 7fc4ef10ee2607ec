/-
  typebarlaw20.PastBack: the walk: it returns true, and what was in memory stays. Conditions: the arguments can be read.
-/
import Derived.Test.YtcbachblhfkcoaaPastAwake
import Derived.Deep.LoopGhost
import Derived.Deep.RegionHeld3
import Derived.Deep.DrawnRows
import Derived.StillTailTactics
import Derived.Lib.QuietBelow
import Derived.Deep.CutBlock
import Derived.Deep.DeepCutAuto
namespace Go.Proofs.Ytcbachblhfkcoaa
open Go.RowKit

/-- int's as cells. -/
def I64 (xs : List Int) : List Value := xs.map (Value.int .i64)

/-- What the law's box p holds, and the past that it reads as. -/
def PBox (w : World) (F : Nat → Prop) (b : Nat) (L : List (List Int)) (at_ : Int) (st : List Int) : Prop :=
  ∃ A n c B m d, Bx w b #[.slice A n c, .int .i64 at_, .slice B m d] 27 ∧ Txs w F F A n c L ∧ Ru w F B m d st

theorem few_len (xs : List Int) (n k : Nat) (hl : xs.length = n) : (xs.take (min n k)).length ≤ k := by simp; omega

/-- A past stored into the law's box. -/
theorem pbox_store {w : World} {F : Nat → Prop} {b n c m d : Nat} {A B : Option Addr} {L : List (List Int)} {at_ : Int} {st : List Int} {x y z : Value} (hFO : ∀ k, F k → k ≠ b)
    (h : Bx w b #[x, y, z] 27) (hT : Txs w F F A n c L) (hS : Ru w F B m d st) :
    PBox (((w.setCell ⟨b, 0, none⟩ (.slice A n c)).setCell ⟨b, 1, none⟩ (.int .i64 at_)).setCell ⟨b, 2, none⟩ (.slice B m d)) F b L at_ st := by
  have fr := set3_frame (w := w) (b := b) (u := .slice A n c) (v := .int .i64 at_) (s := .slice B m d)
  exact ⟨A, n, c, B, m, d, h.set3 _ _ _, hT.frame fr.1 (fun k hF => fr.2 k (hFO k hF)) (fun k hF => fr.2 k (hFO k hF)), Sl.frame hS fr.1 (fun k hF => fr.2 k (hFO k hF))⟩
theorem PBox.kp {w w' : World} {F : Nat → Prop} {b : Nat} {L : List (List Int)} {at_ : Int} {st : List Int} (h : PBox w F b L at_ st) (k : Kp w w') : PBox w' F b L at_ st := by
  obtain ⟨A, n, c, B, m, d, h1, h2, h3⟩ := h
  exact ⟨A, n, c, B, m, d, h1.kp k, h2.kp k, h3.kp k⟩
theorem Kp.set3 {w w' : World} (h : Kp w w') {b : Nat} (hb : w.heap.size ≤ b) (u v s : Value) : Kp w (((w'.setCell ⟨b, 0, none⟩ u).setCell ⟨b, 1, none⟩ v).setCell ⟨b, 2, none⟩ s) :=
  ((h.setCell hb u).setCell hb v).setCell hb s

/-- The place to which a step leads. -/
theorem back_place (x : Int) (n : Nat) (h0 : n ≠ 0) (hn : n ≤ 500) : ∃ q : Nat, 1 ≤ q ∧ q ≤ n ∧ wrap64 (1 + (wrap64 (x.tmod n + n)).tmod n) = (q : Int) := by
  have a1 := Int.tmod_lt_of_pos x (show (0 : Int) < n by omega)
  have a2 := Int.lt_tmod_of_pos x (show (0 : Int) < n by omega)
  have e1 : wrap64 (x.tmod n + n) = x.tmod n + n := IntWalk.wrap64_in _ ⟨by omega, by omega⟩
  rw [e1]
  have b1 := Int.tmod_lt_of_pos (x.tmod n + n) (show (0 : Int) < n by omega)
  have b2 := Int.tmod_nonneg (n : Int) (show 0 ≤ x.tmod n + n by omega)
  obtain ⟨q, hq⟩ := Int.eq_ofNat_of_zero_le b2
  refine ⟨1 + q, by omega, by omega, ?_⟩
  rw [hq]
  exact (IntWalk.wrap64_in _ ⟨by omega, by omega⟩).trans (by omega)

/-- What stands between two steps: the past in the law's box, the line where one is; who is at 0 has the line as it was, who is not has left it. -/
def BackInv (w wx : World) (F : Nat → Prop) (now : List Int) (s9 : Value) : Prop :=
  ∃ (L : List (List Int)) (at_ : Int) (st cur : List Int) (C : Option Addr) (k f : Nat), Kp w wx ∧ PBox wx F w.heap.size L at_ st ∧ s9 = .slice C k f ∧ Ru wx F C k f cur ∧
    Hid (L.length ≤ 30 ∧ (∀ x ∈ L, x.length ≤ 30) ∧ st.length ≤ 30 ∧ cur.length ≤ 30 ∧ ((at_ = 0 ∧ cur = now) ∨ (at_ ≠ 0 ∧ st = now)))

set_option maxRecDepth 100000 in
set_option maxHeartbeats 3200000 in
theorem pastBack_walk' (A B C : Option Addr) (n c m d k e : Nat) (L : List (List Int)) (now steps : List Int) (w : World)
    (hT : Txs w Any Any A n c L) (hN : Ru w Any B m d now) (hS : Sl w Any 1 C k e (I64 steps)) (hb : ∀ x ∈ steps, (Lit.int .i64 x).wf = true) :
    Calls Try.prog 3 #[.slice A n c, .slice B m d, .slice C k e] w fun e w' => e = .returned (.bool true) ∧ Kp w w' := by
  have hml := hN.le
  have hmc := hN.cap
  have hnl := hT.le
  have hnc := hT.cap
  have hkl := hS.le
  have hkc := hS.cap
  unfold maxLen at hmc hnc hkc
  obtain ⟨F, hFd⟩ : ∃ F : Nat → Prop, F = fun k => k ≠ w.heap.size := ⟨_, rfl⟩
  have hFn : ∀ s, w.heap.size < s → ∀ k, s ≤ k → F k := fun s hs k hk => by rw [hFd]; show k ≠ _; omega
  have hFo : ∀ k, F k → k ≠ w.heap.size := fun k hk => by rw [hFd] at hk; exact hk
  have hFl : ∀ k, k < w.heap.size → F k := fun k hk => by rw [hFd]; show k ≠ _; omega
  have HFN := Lib.hid hFn
  have HFO := Lib.hid hFo
  have HFL := Lib.hid hFl
  have HB := Lib.hid hb
  clear hFd hFn hFo hFl hb
  have hNF : Ru w F (B) (min m 30) d (now.take (min m 30)) := Sl.weak (hN.take (by omega)) (fun k hk _ => HFL.out k hk)
  have hlen := few_len now m 30 hN.len
  have HN0 := Lib.hid hN
  generalize now.take (min m 30) = now' at *
  go_enter Try.func3, Try.ntmps3
  go_upto_block 0 with (go_at_call 14; refine (few_any B m d 30 hml (by unfold maxLen; omega) (by omega) _).mono ?_; rintro e w' ⟨rfl, rfl⟩)
  go_cut [8] (fun _ wx => ∃ L' : List (List Int), Kp w wx ∧ PBox wx F w.heap.size L' 0 [] ∧ Hid (L'.length ≤ 30 ∧ ∀ x ∈ L', x.length ≤ 20))
  case first =>
    go_wp2_with fail
    go_loopg [8] 30 (fun g i wr => ∃ j : Nat, j + g = 30 ∧ i = .int .i64 j ∧ Kp w wr ∧ ∃ L' : List (List Int), PBox wr F w.heap.size L' 0 [] ∧ Hid (L'.length ≤ j ∧ ∀ x ∈ L', x.length ≤ 20))
    case atStart => exact ⟨0, rfl, rfl, (Kp.refl _).alloc _, [], ⟨none, 0, 0, none, 0, 0, Bx.new _ _ _, Txs.nil _ _ _, Ru.nil _ _⟩, ⟨by simp, by simp⟩⟩
    case round =>
      obtain ⟨j, hj, rfl, hkp, L', ⟨A1, n1, c1, B1, m1, d1, hbx, hT1, hS1⟩, hL'⟩ := hrel
      by_cases hlt : j < n ∧ j < 30
      · obtain ⟨h1, h2⟩ := hlt
        obtain ⟨ad, A2, n2, c2, rfl, hc, hr⟩ := (hT.kp hkp).get h1
        obtain ⟨p0, p1, p2, q0, q1, q2⟩ := hbx.three
        have h2b : decide ((j : Int) < 30) = true := by simp; omega
        have hn1 : n1 ≤ 500 := by have := hT1.len; have := hL'.out.1; omega
        have hr2 := Sl.take hr (k := min n2 20) (by omega)
        rw [Nat.mul_one, R32_take] at hr2
        have hlx := few_len (L[j]?.getD []) n2 20 hr.len
        have hle2 := hr.le
        have hcc2 := hr.cap
        generalize (L[j]?.getD []).take (min n2 20) = x at *
        clear hr
        go_wp2
        refine wp_region_still_tail 6 (by kernel_rfl) (by kernel_rfl) ?_
        simp only [List.take_succ_cons, List.take_zero, List.drop_succ_cons, List.drop_zero]
        repeat still_step
        still_call ((few_any A2 n2 c2 20 hle2 hcc2 (by omega) _).mono fun e w' ⟨he, hw⟩ => ⟨he, hw.symm⟩)
        repeat still_step
        refine wpStill_nil ?_
        change wpList _ _ _ _ _ wr.drew
        go_wp2_with fail
        refine (past_add F Any A1 B1 A2 n1 c1 m1 d1 (min n2 20) c2 0 L' x _ (HFN.out _ (by have := hbx.lt; simp; omega)) (hT1.kp (Kp.refl _).drew) (Sl.any (Sl.drew hr2)) (by omega) (by omega)).mono ?_
        rintro e w1 ⟨A3, n3, c3, B3, m3, d3, rfl, hT3, hS3, hk3⟩
        have b3 := (Bx.drew hbx).kp hk3
        obtain ⟨p30, p31, p32, q30, q31, q32⟩ := b3.three
        have hkp3 := hkp.drew.trans hk3
        clear hk3 p0 p1 p2 q0 q1 q2 hc hT1 hS1 hr2
        go_wp2_with fail
        go_roundg (30 - (j + 1))
        case measure => omega
        case rel =>
          refine ⟨j + 1, by omega, by go_num, hkp3.set3 (Nat.le_refl _) _ _ _, addM L' x, pbox_store HFO.out b3 hT3 hS3, ?_, fun y hy => ?_⟩
          · have := addM_length L' x; have := hL'.out.1; omega
          · rcases addM_mem hy with h | rfl
            · exact hL'.out.2 y h
            · exact hlx
      · by_cases h1 : j < n
        · have h2b : decide ((j : Int) < 30) = false := by simp; omega
          clear hlt
          go_wp2
          go_meet
          exact ⟨L', hkp, ⟨A1, n1, c1, B1, m1, d1, hbx, hT1, hS1⟩, ⟨by have := hL'.out.1; omega, hL'.out.2⟩⟩
        · clear hlt
          go_wp2
          go_meet
          exact ⟨L', hkp, ⟨A1, n1, c1, B1, m1, d1, hbx, hT1, hS1⟩, ⟨by have := hL'.out.1; omega, hL'.out.2⟩⟩
  case rest =>
    obtain ⟨L', hkp, hpb, hL'⟩ := hcut
    obtain ⟨w1, hw1⟩ : ∃ w1 : World, w1 = wc := ⟨_, rfl⟩
    subst hw1
    go_upto_block 2 with fail
    go_cut [9] (fun s9 wx => BackInv w wx F now' s9)
    case first =>
      go_wp2_with fail
      go_loopg [9, 10] 30 (fun g s9 i wr => ∃ j : Nat, j + g = 30 ∧ i = .int .i64 j ∧ BackInv w wr F now' s9)
      case atStart =>
        exact ⟨0, rfl, rfl, L', 0, [], now', B, min m 30, d, hkp, hpb, rfl, hNF.kp hkp, ⟨hL'.out.1, fun x hx => by have := hL'.out.2 x hx; omega, by simp, hlen, .inl ⟨rfl, rfl⟩⟩⟩
      case round =>
        clear hkp hpb hL'
        obtain ⟨j, hj, rfl, L', at_, st, cur, C', k', f', hkp, ⟨A1, n1, c1, B1, m1, d1, hbx, hT1, hS1⟩, rfl, hcur, hL'⟩ := hrel
        by_cases hlt : j < k ∧ j < 30
        · obtain ⟨h1, h2⟩ := hlt
          have h2b : decide ((j : Int) < 30) = true := by simp; omega
          obtain ⟨ad, u, rfl, hu, hc⟩ := (hS.kp hkp).get h1
          obtain ⟨x, hx, hux⟩ : ∃ x, x ∈ steps ∧ u = .int .i64 x := by
            simp only [I64, List.getElem?_map, Option.map_eq_some_iff] at hu
            obtain ⟨x, hx, rfl⟩ := hu
            exact ⟨x, List.mem_of_getElem? hx, rfl⟩
          subst hux
          have hwf := HB.out x hx
          have hn1 : n1 ≤ 30 := by have := hT1.len; have := hL'.out.1; omega
          obtain ⟨p0, p1, p2, q0, q1, q2⟩ := hbx.three
          go_wp2_with fail
          refine (past_len A1 B1 n1 c1 m1 d1 at_ wr).mono ?_
          rintro e w2 ⟨rfl, hk2⟩
          have hbx2 := hbx.kp hk2
          have hT2 := hT1.kp hk2
          have hS2 := hS1.kp hk2
          have hc2 : w2.cell? (ad.add j) = some (.int .i64 x) := (hk2.cell (World.block_lt_of_cell? wr _ hc)).trans hc
          have hcur2 := hcur.kp hk2
          have hkp2 := hkp.trans hk2
          clear p0 p1 p2 q0 q1 q2 hbx hT1 hS1 hc hcur hkp hk2
          by_cases hn0 : n1 = 0
          · subst hn0
            go_wp2_with fail
            go_meet
            exact ⟨L', at_, st, cur, C', k', f', hkp2, ⟨A1, 0, c1, B1, m1, d1, hbx2, hT2, hS2⟩, rfl, hcur2, hL'⟩
          · have hnb : ((n1 : Int) == 0) = false := by simpa using hn0
            obtain ⟨p0, p1, p2, q0, q1, q2⟩ := hbx2.three
            have r0 := cell_regrown p0
            have r1 := cell_regrown p1
            have r2 := cell_regrown p2
            have r3 := cell_regrown hc2
            go_wp2_with fail
            refine wp_region_quiet_below (by kernel_rfl) (by kernel_rfl) ?_
            repeat (quiet_step (exact Calls.regrown_of (past_len A1 B1 n1 c1 m1 d1 at_ _)))
            refine wpQuiet_nil ?_
            intro _ hw'
            obtain ⟨⟨dq, osq⟩, hw''⟩ := hw'
            subst hw''
            go_wp2_with fail
            obtain ⟨q, hq1, hq2, hq⟩ := back_place x n1 hn0 (by omega)
            rw [hq]
            have hkg : Kp w2 (Go.Sort.grow (redrawn w2 dq) osq) := below_regrown w2 dq osq
            have hbx3 := hbx2.kp hkg
            have hkp3 := hkp2.trans hkg
            have hT3 := hT2.kp hkg
            have hS3 := hS2.kp hkg
            have hcur3 := hcur2.kp hkg
            clear r0 r1 r2 r3 hkg hbx2 hT2 hS2 hcur2 hc2 p0 p1 p2 q0 q1 q2 hkp2 hq hwf
            generalize Go.Sort.grow (redrawn w2 dq) osq = w3 at *
            have ho : lineM L' at_ st q cur = some (L'[n1 - q]?.getD []) := by
              have := hT3.len
              rw [lineM, if_neg (by omega), if_pos (by omega), this]
              simp
            have hol : (L'[n1 - q]?.getD []).length ≤ 30 := by
              have hl : n1 - q < L'.length := by rw [hT3.len]; omega
              rw [List.getElem?_eq_getElem hl]
              exact hL'.out.2.1 _ (List.getElem_mem _)
            generalize L'[n1 - q]?.getD [] = s at *
            refine (past_go_some F F A1 B1 C' n1 c1 m1 d1 k' f' at_ q L' st cur w3 (HFN.out _ hbx3.lt) hT3 hS3 hcur3 (by omega) (by have := hS3.len; have := hL'.out.2.2.1; omega) (by have := hcur3.len; have := hL'.out.2.2.2.1; omega) (fun x hx => by have := hL'.out.2.1 x hx; omega) s ho).mono ?_
            rintro e w4 ⟨A4, n4, c4, B4, m4, d4, C4, k4, f4, rfl, hT4, hS4, hs4, hk4⟩
            have hbx4 := hbx3.kp hk4
            have hkp4 := hkp3.trans hk4
            clear hk4 hbx3 hkp3 hT3 hS3 hcur3 ho
            have z4 := hbx4.lt
            obtain ⟨p0, p1, p2, q0, q1, q2⟩ := hbx4.three
            go_wp2_with fail
            go_roundg (30 - (j + 1))
            case measure => omega
            case rel =>
              have hpb := pbox_store (at_ := (q : Int)) HFO.out hbx4 hT4 hS4
              have fr := set3_frame (w := w4) (b := w.heap.size) (u := .slice A4 n4 c4) (v := .int .i64 q) (s := .slice B4 m4 d4)
              have hss : Ru _ F C4 k4 f4 s := Sl.frame hs4 fr.1 (fun k hF => fr.2 k (HFO.out k hF))
              have ka := (Kp.refl (((w4.setCell ⟨w.heap.size, 0, none⟩ (.slice A4 n4 c4)).setCell ⟨w.heap.size, 1, none⟩ (.int .i64 q)).setCell ⟨w.heap.size, 2, none⟩ (.slice B4 m4 d4))).alloc (.cells #[.slice A4 n4 c4, .int .i64 q, .slice B4 m4 d4] 27)
              have hst : (stashM at_ st q cur).length ≤ 30 ∧ stashM at_ st q cur = now' := by
                have h4 := hL'.out.2.2.2.2
                have hq0 : (q : Int) ≠ 0 := by omega
                rcases h4 with ⟨ha, hc⟩ | ⟨ha, hc⟩
                · rw [stashM, if_neg hq0, if_pos ha]; exact ⟨hL'.out.2.2.2.1, hc⟩
                · rw [stashM, if_neg hq0, if_neg ha]; exact ⟨hL'.out.2.2.1, hc⟩
              refine ⟨j + 1, by omega, by go_num, L', q, stashM at_ st q cur, s, C4, k4, f4, (hkp4.set3 (Nat.le_refl _) _ _ _).trans ka, hpb.kp ka, rfl, hss.kp ka, hL'.out.1, hL'.out.2.1, hst.1, hol, .inr ⟨by omega, hst.2⟩⟩
        · by_cases h1 : j < k
          · have h2b : decide ((j : Int) < 30) = false := by simp; omega
            clear hlt
            go_wp2_with fail
            go_meet
            exact ⟨L', at_, st, cur, C', k', f', hkp, ⟨A1, n1, c1, B1, m1, d1, hbx, hT1, hS1⟩, rfl, hcur, hL'⟩
          · clear hlt
            go_wp2_with fail
            go_meet
            exact ⟨L', at_, st, cur, C', k', f', hkp, ⟨A1, n1, c1, B1, m1, d1, hbx, hT1, hS1⟩, rfl, hcur, hL'⟩
    case rest =>
      clear hkp hpb hL'
      obtain ⟨L', at_, st, cur, C', k', f', hkp, ⟨A1, n1, c1, B1, m1, d1, hbx, hT1, hS1⟩, rfl, hcur, hL'⟩ := hcut
      obtain ⟨w1, hw1⟩ : ∃ w1 : World, w1 = wc := ⟨_, rfl⟩
      subst hw1
      obtain ⟨p0, p1, p2, q0, q1, q2⟩ := hbx.three
      have hn1 : n1 ≤ 30 := by have := hT1.len; have := hL'.out.1; omega
      have ho : lineM L' at_ st 0 cur = some now' := by
        rcases hL'.out.2.2.2.2 with ⟨ha, hc⟩ | ⟨ha, hc⟩
        · rw [lineM, if_neg (by omega), if_neg (by omega), if_pos ha, hc]
        · rw [lineM, if_neg (by omega), if_neg (by omega), if_neg ha, hc]
      have HO := Lib.hid ho
      clear ho
      go_wp2_with fail
      refine (past_go_some F F A1 B1 C' n1 c1 m1 d1 k' f' at_ 0 L' st cur w1 (HFN.out _ hbx.lt) hT1 hS1 hcur (by omega) (by have := hS1.len; have := hL'.out.2.2.1; omega) (by have := hcur.len; have := hL'.out.2.2.2.1; omega) (fun x hx => by have := hL'.out.2.1 x hx; omega) now' HO.out).mono ?_
      rintro e w4 ⟨A4, n4, c4, B4, m4, d4, C4, k4, f4, rfl, hT4, hS4, hs4, hk4⟩
      have hkp4 := hkp.trans hk4
      have hN4 := hNF.kp hkp4
      have bq := Bx.new w4 #[.slice A4 n4 c4, .int .i64 0, .slice B4 m4 d4] 27
      have ka := (Kp.refl w4).alloc (.cells #[.slice A4 n4 c4, .int .i64 0, .slice B4 m4 d4] 27)
      clear hk4 hT1 hS1 hcur HO hL' p0 p1 p2 q0 q1 q2 hT4 hS4
      go_wp2_with fail
      refine (same_any F F C4 B k4 f4 (min m 30) d now' now' _ (hs4.kp ka) (hN4.kp ka)).mono ?_
      rintro e w5 ⟨rfl, hd⟩
      rw [show sameB now' now' = true from (sameB_iff _ _).2 rfl]
      have bq5 := bq.kp hd.kp
      have hkp5 := (hkp4.trans ka).trans hd.kp
      clear hd bq ka
      obtain ⟨p0, p1, p2, q0, q1, q2⟩ := bq5.three
      go_wp2_with fail
      refine (past_at A4 B4 n4 c4 m4 d4 0 w5).mono ?_
      rintro e w6 ⟨rfl, hk⟩
      have hkp6 := hkp5.trans hk
      clear hk p0 p1 p2 q0 q1 q2
      go_wp2_with fail
      refine (awake20 w6).mono ?_
      rintro e w7 ⟨rfl, hk⟩
      go_wp2_with fail
      go_ret
      exact ⟨rfl, hkp6.trans hk⟩
/-- As the frame asks it. -/
theorem pastBack_walk {w0 : World} (A : Option Addr) (n c : Nat) (L : List (List Int)) (hT : Txs w0 Any Any A n c L) (_ : ∀ l ∈ L, ∀ y ∈ l, (Lit.int .i32 y).wf = true)
    (B : Option Addr) (m d : Nat) (now : List Int) (hN : Ru w0 Any B m d now) (_ : ∀ y ∈ now, (Lit.int .i32 y).wf = true)
    (C : Option Addr) (k e : Nat) (steps : List Int) (hS : Sl w0 Any 1 C k e (I64 steps)) (hb : ∀ x ∈ steps, (Lit.int .i64 x).wf = true) (w : World) (hw : w = w0 := by rfl) :
    Calls Try.prog 3 #[.slice A n c, .slice B m d, .slice C k e] w fun e w' => e = .returned (.bool true) ∧ Kp w w' := by
  subst hw
  exact pastBack_walk' A B C n c m d k e L now steps w hT hN hS hb
end Go.Proofs.Ytcbachblhfkcoaa
