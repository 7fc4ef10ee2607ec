/-
  typebarlaw38: All of package loop; typebarref37.Same on the same events; awake. Conditions: the box is in memory.
-/
import Derived.Test.YtakbfppmgngdiaaRefBox3
import Derived.WalkMore
namespace Go.Proofs.Ytakbfppmgngdiaa
open Go.RowKit

/-- What is told, when so many are asked for. -/
def drainM : Nat → List Ev → List Ev × List Ev
  | 0, q => ([], q)
  | n + 1, q => match nextM q with
    | some (x, r) => ((x :: (drainM n r).1), (drainM n r).2)
    | none => ([], q)

/-- The same events. -/
theorem sameEv_true (A B : Option Addr) (n c m d : Nat) (q : List Ev) (w : World) (ha : Evs w A n c q) (hb : Evs w B m d q) :
    Calls Try.prog 23 #[.slice A n c, .slice B m d] w fun e w' => e = .returned (.bool true) ∧ Dr w w' := by
  have hnm : n = m := by rw [← ha.len, ← hb.len]
  subst hnm
  have hlx := Sl.le ha
  have hcx := Sl.cap ha
  have hly := Sl.le hb
  have hcy := Sl.cap hb
  unfold maxLen at hcx hcy
  have HL := Lib.hid ha.len
  have G := guard_ev
  have NE := neq_ev
  go_enter Try.func23, Try.ntmps23
  go_wp2
  go_loopw [5] (fun i wr => ∃ k : Nat, k ≤ n ∧ i = .int .i64 k ∧ Dr w wr) (fun i _ => n - (intOf i).toNat)
  case atStart => exact ⟨0, Nat.zero_le _, rfl, Dr.refl _⟩
  case round =>
    obtain ⟨k, hk, rfl, hdr⟩ := hrel
    by_cases hlt : k < n
    · obtain ⟨e, he⟩ : ∃ e, q[k]? = some e := ⟨q[k]'(by rw [HL.out]; exact hlt), List.getElem?_eq_getElem _⟩
      obtain ⟨ad, rfl, c0, c1, c2, c3⟩ := Evs.get (Sl.kp ha hdr.kp) he
      obtain ⟨bd, rfl, d0, d1, d2, d3⟩ := Evs.get (Sl.kp hb hdr.kp) he
      clear he
      go_wp2
      go_quiet (fail)
      go_wp2
      go_roundw
      case rel => exact ⟨k + 1, by omega, by go_num, hdr.drewN _⟩
      case measure => simp [intOf]; omega
    · go_wp2
      go_ret
      exact ⟨rfl, hdr⟩

theorem nextM_len {q : List Ev} {x : Ev} {r : List Ev} (h : nextM q = some (x, r)) : r.length + 1 = q.length := by
  have key : ∀ k, takeK k q = some (x, r) → r.length + 1 = q.length := by
    intro k hk
    rcases takeK_split k q with ⟨h1, _⟩ | ⟨l, y, r', h1, h2, _, _⟩
    · rw [h1] at hk; cases hk
    · rw [h1] at hk; cases hk; rw [h2]; simp; omega
  unfold nextM at h
  rcases h3 : takeK 3 q with _ | p3
  · rw [h3] at h
    rcases h1 : takeK 1 q with _ | p1
    · rw [h1] at h; exact key 2 h
    · rw [h1] at h; exact key 1 (by rw [h1]; exact h)
  · rw [h3] at h; exact key 3 (by rw [h3]; exact h)

set_option maxRecDepth 100000 in
set_option maxHeartbeats 3200000 in
theorem all_any (p cb ct cs room : Nat) (most : Int) (q : List Ev) (w : World) (h : LB w p cb ct cs room q) (hq : okQ q) (hlen : q.length ≤ 1000) :
    Calls Try.prog 24 #[.pointer (some ⟨p, 0, none⟩), .int .i64 most] w fun e w' => ∃ A n c, e = .returned (.slice A n c) ∧ Sl w' (From w.heap.size) 4 A n c (evCells (drainM most.toNat q).1) ∧ LB w' p cb ct cs room (drainM most.toNat q).2 ∧ Fr (Chs cb ct cs) w w' ∧ n ≤ 1000 := by
  have lp := h.bx.lt
  have lb := h.b.lt
  have lt := h.t.lt
  have ls := h.s.lt
  go_enter Try.func24, Try.ntmps24
  go_wp2
  go_step3
  go_wp2
  go_step3
  go_wp2
  go_loopg [5] (q.length + 1) (fun g v wr => ∃ (A : Option Addr) (m c : Nat) (out rest : List Ev), g = rest.length + 1 ∧ v = .slice A m c ∧ Own wr w.heap.size 30 4 A m c (evCells out) ∧ LB wr p cb ct cs room rest ∧ okQ rest ∧ Fr (Chs cb ct cs) w wr ∧
    Hid (m + rest.length ≤ q.length ∧ drainM most.toNat q = (out ++ (drainM (most.toNat - m) rest).1, (drainM (most.toNat - m) rest).2)))
  case atStart => exact ⟨none, 0, 0, [], q, rfl, rfl, Own.nil _ _ _ _, h, hq, Fr.refl _, ⟨by omega, rfl⟩⟩
  case round =>
    obtain ⟨A, m, c, out, rest, hg, rfl, ho, hl, hok, hf, hh⟩ := hrel
    have hm1 : m ≤ 1000 := by have := hh.out.1; omega
    by_cases hlt : (m : Int) < most
    · go_wp2_with fail
      refine (next_any p cb ct cs room rest wr hl hok).mono ?_
      rintro e w1 ⟨rfl, hl1, hf1⟩
      have ho1 := ho.fr hf1 (fun i hi hX => by have := (ho.lt i hi).1; rcases hX with rfl | rfl | rfl <;> omega)
      have hf2 := hf.trans hf1
      have hz1 : w.heap.size ≤ w1.heap.size := hf2.size
      obtain ⟨k, hk⟩ : ∃ k, most.toNat - m = k + 1 := ⟨most.toNat - m - 1, by omega⟩
      have hk2 : most.toNat - (m + 1) = k := by omega
      clear hf hf1 hl ho
      cases hn : nextM rest with
      | none =>
        have hh2 : Hid (drainM most.toNat q = (out, rest)) := by
          show _ = _
          rw [hh.out.2, hk]
          simp [drainM, hn]
        rw [hn] at hl1
        clear hh hk hk2 hn
        unfold ansM Ev.zero Ev.v
        go_wp2_with fail
        unfold Exit.noGoto
        go_ret
        rw [hh2.out]
        exact ⟨A, m, c, rfl, (ho1.sl).kp ((Kp.refl _).alloc _), hl1.kp ((Kp.refl _).alloc _), hf2.alloc _, hm1⟩
      | some pr =>
        obtain ⟨x, r⟩ := pr
        have hln := nextM_len hn
        have hh2 : Hid (drainM most.toNat q = (out ++ [x] ++ (drainM (most.toNat - (m + 1)) r).1, (drainM (most.toNat - (m + 1)) r).2)) := by
          show _ = _
          rw [hh.out.2, hk, hk2]
          simp [drainM, hn]
        have hok2 := nextM_ok hok
        rw [hn] at hl1 hok2
        have hml := hh.out.1
        clear hh hk hk2 hn
        unfold ansM Ev.v
        have ka := (Kp.refl w1).alloc (.cells #[.int .i64 x.kind, .int .u8 x.byte, .int .i64 x.rows, .int .i64 x.cols] 30)
        go_wp2_with (at_builtin; refine wpList_append_sl _ rfl _ _ _ rfl w.heap.size 30 _ 4 32 Try.underlying26 infoEv rfl (by omega) A m c (evCells out) rfl ((ho1.kp ka).alloc _) Any _ 1 1 (evC x) rfl (Sl.new_ (w1.alloc (.cells #[.int .i64 x.kind, .int .u8 x.byte, .int .i64 x.rows, .int .i64 x.cols] 30)) #[.int .i64 x.kind, .int .u8 x.byte, .int .i64 x.rows, .int .i64 x.cols] _ 4 1 _ (by simp) trivial (by simp) (by omega)) (by simp [evC, Value.oneCell']) (by simp only [maxLen]; omega) (by omega) (by simp; omega) ?_; intro A4 c4 w4 hown4 hg4 hat4)
        have hrow : ∀ g, rowOf A = some g → w.heap.size ≤ g := fun g h => (ho1.lt g h).1
        have hf4 : Fr (Chs cb ct cs) w w4 := Fr.grown ((hf2.alloc _).alloc _) hg4 (fun g h => .inr (hrow g h))
        have hl4 : LB w4 p cb ct cs room r := hl1.fr (X := fun k => w.heap.size ≤ k) (Fr.grown (((Fr.refl w1).alloc _).alloc _) hg4 (fun g h => .inl (hrow g h))) (fun h => by omega) (fun h => by omega) (fun h => by omega) (fun h => by omega)
        go_roundg (r.length + 1)
        case measure => omega
        case rel =>
          refine ⟨A4, m + 1, c4, out ++ [x], r, rfl, rfl, ?_, hl4, hok2, hf4, ⟨by omega, hh2.out⟩⟩
          rw [evCells_append]
          have e1 : evCells [x] = evC x := by simp [evCells]
          rw [e1]
          exact hown4
    · have hh2 : Hid (drainM most.toNat q = (out, rest)) := by
        show _ = _
        have e0 : most.toNat - m = 0 := by omega
        rw [hh.out.2, e0]
        simp [drainM]
      clear hh
      go_wp2_with fail
      go_ret
      rw [hh2.out]
      exact ⟨A, m, c, rfl, ho.sl, hl, hf, hm1⟩

def exQ : List Ev := [⟨1, 97, 0, 0⟩, ⟨2, 0, 0, 0⟩, ⟨3, 0, 4, 5⟩, ⟨1, 98, 0, 0⟩]
def exA : List Ev := [⟨3, 0, 4, 5⟩, ⟨1, 97, 0, 0⟩, ⟨1, 98, 0, 0⟩, ⟨2, 0, 0, 0⟩]
theorem ex_put1 : putM 5 [] ⟨1, 97, 0, 0⟩ = [⟨1, 97, 0, 0⟩] := by simp [putM, putB, ofK, Ev.norm]
theorem ex_put2 : putM 5 [⟨1, 97, 0, 0⟩] ⟨2, 0, 0, 0⟩ = [⟨1, 97, 0, 0⟩, ⟨2, 0, 0, 0⟩] := by simp [putM, putB, ofK, Ev.norm]
theorem ex_put3 : putM 5 [⟨1, 97, 0, 0⟩, ⟨2, 0, 0, 0⟩] ⟨3, 0, 4, 5⟩ = [⟨1, 97, 0, 0⟩, ⟨2, 0, 0, 0⟩, ⟨3, 0, 4, 5⟩] := by simp [putM, putB, ofK, Ev.norm]
theorem ex_put4 : putM 5 [⟨1, 97, 0, 0⟩, ⟨2, 0, 0, 0⟩, ⟨3, 0, 4, 5⟩] ⟨1, 98, 0, 0⟩ = exQ ∧ putB 5 [⟨1, 97, 0, 0⟩, ⟨2, 0, 0, 0⟩, ⟨3, 0, 4, 5⟩] ⟨1, 98, 0, 0⟩ = true := by simp [putM, putB, ofK, Ev.norm, exQ]
theorem ex_ok : okQ exQ := by
  intro e he
  simp [exQ] at he
  rcases he with rfl | rfl | rfl | rfl <;> exact ⟨by simp [Ev.norm], by simp⟩
theorem ex_all : (drainM 9 exQ).1 = exA := by simp [drainM, nextM, takeK, exQ, exA]

set_option maxHeartbeats 1600000 in
theorem awake38 (w : World) : Calls Try.prog 22 #[] w fun e w' => e = .returned (.bool true) ∧ Kp w w' := by
  go_enter Try.func22, Try.ntmps22
  go_wp2_with fail
  refine (new_some 5 (by omega) (by omega) w).mono ?_
  rintro e w1 ⟨p, cb, ct, cs, rfl, h1, k1, hp0, hp1, hp2, hp3⟩
  have hX : ∀ i, Chs cb ct cs i → w.heap.size ≤ i := fun i h => by rcases h with rfl | rfl | rfl <;> assumption
  have HX := Lib.hid hX
  clear hX
  go_wp2_with fail
  refine (put_any p cb ct cs 5 [] ⟨1, 97, 0, 0⟩ w1 h1).mono ?_
  rintro e w2 ⟨rfl, h2, f2⟩
  rw [ex_put1] at h2
  have k2 := Fr.kp k1 f2 HX.out
  clear f2 h1 k1
  go_wp2_with fail
  refine (put_any p cb ct cs 5 _ ⟨2, 0, 0, 0⟩ w2 h2).mono ?_
  rintro e w3 ⟨rfl, h3, f3⟩
  rw [ex_put2] at h3
  have k3 := Fr.kp k2 f3 HX.out
  clear f3 h2 k2
  go_wp2_with fail
  refine (put_any p cb ct cs 5 _ ⟨3, 0, 4, 5⟩ w3 h3).mono ?_
  rintro e w4 ⟨rfl, h4, f4⟩
  rw [ex_put3] at h4
  have k4 := Fr.kp k3 f4 HX.out
  clear f4 h3 k3
  go_wp2_with fail
  refine (put_any p cb ct cs 5 _ ⟨1, 98, 0, 0⟩ w4 h4).mono ?_
  rintro e w5 ⟨rfl, h5, f5⟩
  rw [ex_put4.1] at h5
  rw [ex_put4.2]
  have k5 := Fr.kp k4 f5 HX.out
  clear f5 h4 k4
  go_wp2_with fail
  refine (all_any p cb ct cs 5 9 exQ w5 h5 ex_ok (by simp [exQ])).mono ?_
  rintro e w6 ⟨A, n, c, rfl, hv, _, f6, _⟩
  have e9 : (drainM (9 : Int).toNat exQ).1 = exA := ex_all
  rw [e9] at hv
  have k6 := Fr.kp k5 f6 HX.out
  clear f6 h5 k5 e9
  go_wp2_with fail
  have kb := (Kp.refl w6).alloc (.cells #[.int .i64 3, .int .u8 0, .int .i64 4, .int .i64 5, .int .i64 1, .int .u8 97, .int .i64 0, .int .i64 0, .int .i64 1, .int .u8 98, .int .i64 0, .int .i64 0, .int .i64 2, .int .u8 0, .int .i64 0, .int .i64 0] 30)
  refine (sameEv_true A _ n c 4 4 exA _ (Sl.kp hv.any kb) (Sl.new_ w6 #[.int .i64 3, .int .u8 0, .int .i64 4, .int .i64 5, .int .i64 1, .int .u8 97, .int .i64 0, .int .i64 0, .int .i64 1, .int .u8 98, .int .i64 0, .int .i64 0, .int .i64 2, .int .u8 0, .int .i64 0, .int .i64 0] _ 4 4 _ rfl trivial (by simp) (by omega))).mono ?_
  rintro e w7 ⟨rfl, d7⟩
  go_wp2_with fail
  go_ret
  exact ⟨rfl, (k6.trans kb).trans d7.kp⟩
end Go.Proofs.Ytakbfppmgngdiaa
