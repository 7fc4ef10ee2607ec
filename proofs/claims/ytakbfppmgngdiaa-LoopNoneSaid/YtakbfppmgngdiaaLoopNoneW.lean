/-
  typebarlaw38.LoopNone: the walk: it returns true, and what was in memory stays. Conditions: none.
-/
import Derived.Test.YtakbfppmgngdiaaLoopAllW
import Derived.Lib.SmallJoins
namespace Go.Proofs.Ytakbfppmgngdiaa
open Go.RowKit

set_option maxHeartbeats 1600000 in
theorem next_nil (w : World) : Calls Try.prog 16 #[.pointer none] w fun e w' => e = .returned (.tuple #[.agg #[.int .i64 0, .int .u8 0, .int .i64 0, .int .i64 0], .bool false]) ∧ Kp w w' := by
  go_enter Try.func16, Try.ntmps16
  have ka := (Kp.refl w).alloc (.cells #[.int .i64 0, .int .u8 0, .int .i64 0, .int .i64 0] 30)
  have hb := Bx.new w #[.int .i64 0, .int .u8 0, .int .i64 0, .int .i64 0] 30
  go_wp2
  refine bodyPost_ret (v := .tuple #[.agg #[.int .i64 0, .int .u8 0, .int .i64 0, .int .i64 0], .bool false]) (by simp [results, Try.results16, go_sem]) rfl ?_
  exact ⟨rfl, ka⟩
set_option maxHeartbeats 1600000 in
theorem len_nil (w : World) : Calls Try.prog 20 #[.pointer none] w fun e w' => e = .returned (.agg #[.int .i64 0, .int .i64 0, .int .i64 0]) ∧ Kp w w' := by
  go_enter Try.func20, Try.ntmps20
  have ka := (Kp.refl w).alloc (.cells #[.int .i64 0, .int .i64 0, .int .i64 0] 36)
  go_wp2
  refine bodyPost_ret (v := .agg #[.int .i64 0, .int .i64 0, .int .i64 0]) (by simp [results, Try.results20, go_sem]) rfl ?_
  exact ⟨rfl, ka⟩
set_option maxHeartbeats 1600000 in
theorem all_nil (w : World) : Calls Try.prog 24 #[.pointer none, .int .i64 5] w fun e w' => e = .returned (.slice none 0 0) ∧ Kp w w' := by
  go_enter Try.func24, Try.ntmps24
  go_wp2
  go_step3
  go_wp2
  go_step3
  go_wp2
  go_loopg [5] 1 (fun g v wr => g = 1 ∧ v = .slice none 0 0 ∧ Kp w wr)
  case atStart => exact ⟨rfl, rfl, Kp.refl _⟩
  case round =>
    obtain ⟨hg, rfl, hk⟩ := hrel
    go_wp2_with fail
    refine (next_nil wr).mono ?_
    rintro e w1 ⟨rfl, k1⟩
    go_wp2_with fail
    unfold Exit.noGoto
    go_ret
    exact ⟨rfl, (hk.trans k1).alloc _⟩

set_option maxRecDepth 100000 in
set_option maxHeartbeats 6400000 in
theorem loopNone_walk' (room : Int) (x : Ev) (w : World) :
    Calls Try.prog 5 #[.int .i64 room, x.v] w fun e w' => e = .returned (.bool true) ∧ Kp w w' := by
  unfold Ev.v
  have k1 := (Kp.refl w).alloc (.cells #[.int .i64 x.kind, .int .u8 x.byte, .int .i64 x.rows, .int .i64 x.cols] 30)
  have b1 := Bx.new w #[.int .i64 x.kind, .int .u8 x.byte, .int .i64 x.rows, .int .i64 x.cols] 30
  go_enter Try.func5, Try.ntmps5
  go_upto_region 1 with fail
  generalize (w.alloc (.cells #[.int .i64 x.kind, .int .u8 x.byte, .int .i64 x.rows, .int .i64 x.cols] 30)) = w1 at *
  generalize w.heap.size = bx at *
  have G1 := guard_ev
  have NE1 := neq_ev 0 0 0 0
  have G3 := guard_three
  have NE3 := neq_three 0 0 0
  by_cases h1 : 100 < room
  · by_cases h2 : room ≤ 65536
    · go_wp2_with fail
      refine (next_nil w1).mono ?_
      rintro e w2 ⟨rfl, k2⟩
      have ka := (Kp.refl w2).alloc (.cells #[.int .i64 0, .int .u8 0, .int .i64 0, .int .i64 0] 30)
      have b2 := (b1.kp k2).kp ka
      have b3 := Bx.new w2 #[.int .i64 0, .int .u8 0, .int .i64 0, .int .i64 0] 30
      have k3 := (k1.trans k2).trans ka
      clear b1 k1 k2 ka
      go_upto_region 5 with fail
      generalize (w2.alloc (.cells #[.int .i64 0, .int .u8 0, .int .i64 0, .int .i64 0] 30)) = w3 at *
      generalize w2.heap.size = by_ at *
      obtain ⟨x0, x1, x2, x3, _, _, _, _⟩ := b2.four
      go_wp2_with fail
      refine (put_nil _ ⟨_, _, _, _, rfl⟩ w3).mono ?_
      rintro e w4 ⟨rfl, k4⟩
      have b4 := b3.kp k4
      have k5 := k3.trans k4
      clear b3 b2 k3 k4 x0 x1 x2 x3
      obtain ⟨y0, y1, y2, y3, _, _, _, _⟩ := b4.four
      go_wp2_with fail
      refine (len_nil w4).mono ?_
      rintro e w5 ⟨rfl, k6⟩
      have k7 := k5.trans k6
      clear b4 k5 k6 y0 y1 y2 y3
      go_wp2_with fail
      refine (all_nil w5).mono ?_
      rintro e w6 ⟨rfl, k8⟩
      have k9 := k7.trans k8
      clear k7 k8
      go_wp2_with fail
      refine (new_some 100 (by omega) (by omega) w6).mono ?_
      rintro e w7 ⟨p, cb, ct, cs, rfl, _, k10, _⟩
      go_wp2_with fail
      refine (awake38 w7).mono ?_
      rintro e w8 ⟨rfl, k11⟩
      go_wp2_with fail
      go_ret
      exact ⟨rfl, (k9.trans k10).trans k11⟩
    · have h3 : ¬ room < 1 := by omega
      have h4 : 65536 < room := by omega
      go_wp2_with fail
      refine (next_nil w1).mono ?_
      rintro e w2 ⟨rfl, k2⟩
      have ka := (Kp.refl w2).alloc (.cells #[.int .i64 0, .int .u8 0, .int .i64 0, .int .i64 0] 30)
      have b2 := (b1.kp k2).kp ka
      have b3 := Bx.new w2 #[.int .i64 0, .int .u8 0, .int .i64 0, .int .i64 0] 30
      have k3 := (k1.trans k2).trans ka
      clear b1 k1 k2 ka
      go_upto_region 5 with fail
      generalize (w2.alloc (.cells #[.int .i64 0, .int .u8 0, .int .i64 0, .int .i64 0] 30)) = w3 at *
      generalize w2.heap.size = by_ at *
      obtain ⟨x0, x1, x2, x3, _, _, _, _⟩ := b2.four
      go_wp2_with fail
      refine (put_nil _ ⟨_, _, _, _, rfl⟩ w3).mono ?_
      rintro e w4 ⟨rfl, k4⟩
      have b4 := b3.kp k4
      have k5 := k3.trans k4
      clear b3 b2 k3 k4 x0 x1 x2 x3
      obtain ⟨y0, y1, y2, y3, _, _, _, _⟩ := b4.four
      go_wp2_with fail
      refine (len_nil w4).mono ?_
      rintro e w5 ⟨rfl, k6⟩
      have k7 := k5.trans k6
      clear b4 k5 k6 y0 y1 y2 y3
      go_wp2_with fail
      refine (all_nil w5).mono ?_
      rintro e w6 ⟨rfl, k8⟩
      have k9 := k7.trans k8
      clear k7 k8
      go_wp2_with fail
      refine (new_none room (by omega) w6).mono ?_
      rintro e w7 ⟨rfl, hw7⟩
      have k10 : Kp w6 w7 := by rw [hw7]; exact Kp.refl _
      clear hw7
      go_wp2_with fail
      refine (awake38 w7).mono ?_
      rintro e w8 ⟨rfl, k11⟩
      go_wp2_with fail
      go_ret
      exact ⟨rfl, (k9.trans k10).trans k11⟩
  · by_cases h2 : room < 1
    · go_wp2_with fail
      refine (next_nil w1).mono ?_
      rintro e w2 ⟨rfl, k2⟩
      have ka := (Kp.refl w2).alloc (.cells #[.int .i64 0, .int .u8 0, .int .i64 0, .int .i64 0] 30)
      have b2 := (b1.kp k2).kp ka
      have b3 := Bx.new w2 #[.int .i64 0, .int .u8 0, .int .i64 0, .int .i64 0] 30
      have k3 := (k1.trans k2).trans ka
      clear b1 k1 k2 ka
      go_upto_region 5 with fail
      generalize (w2.alloc (.cells #[.int .i64 0, .int .u8 0, .int .i64 0, .int .i64 0] 30)) = w3 at *
      generalize w2.heap.size = by_ at *
      obtain ⟨x0, x1, x2, x3, _, _, _, _⟩ := b2.four
      go_wp2_with fail
      refine (put_nil _ ⟨_, _, _, _, rfl⟩ w3).mono ?_
      rintro e w4 ⟨rfl, k4⟩
      have b4 := b3.kp k4
      have k5 := k3.trans k4
      clear b3 b2 k3 k4 x0 x1 x2 x3
      obtain ⟨y0, y1, y2, y3, _, _, _, _⟩ := b4.four
      go_wp2_with fail
      refine (len_nil w4).mono ?_
      rintro e w5 ⟨rfl, k6⟩
      have k7 := k5.trans k6
      clear b4 k5 k6 y0 y1 y2 y3
      go_wp2_with fail
      refine (all_nil w5).mono ?_
      rintro e w6 ⟨rfl, k8⟩
      have k9 := k7.trans k8
      clear k7 k8
      go_wp2_with fail
      refine (new_none room (by omega) w6).mono ?_
      rintro e w7 ⟨rfl, hw7⟩
      have k10 : Kp w6 w7 := by rw [hw7]; exact Kp.refl _
      clear hw7
      go_wp2_with fail
      refine (awake38 w7).mono ?_
      rintro e w8 ⟨rfl, k11⟩
      go_wp2_with fail
      go_ret
      exact ⟨rfl, (k9.trans k10).trans k11⟩
    · obtain ⟨m, rfl⟩ : ∃ m : Nat, room = m := ⟨room.toNat, by omega⟩
      have h3 : ¬ (65536 : Int) < m := by omega
      have d1 : decide ((m : Int) < 1) = false := by simp; omega
      have d2 : decide ((65536 : Int) < m) = false := by simp; omega
      go_wp2_with fail
      refine (next_nil w1).mono ?_
      rintro e w2 ⟨rfl, k2⟩
      have ka := (Kp.refl w2).alloc (.cells #[.int .i64 0, .int .u8 0, .int .i64 0, .int .i64 0] 30)
      have b2 := (b1.kp k2).kp ka
      have b3 := Bx.new w2 #[.int .i64 0, .int .u8 0, .int .i64 0, .int .i64 0] 30
      have k3 := (k1.trans k2).trans ka
      clear b1 k1 k2 ka
      go_upto_region 5 with fail
      generalize (w2.alloc (.cells #[.int .i64 0, .int .u8 0, .int .i64 0, .int .i64 0] 30)) = w3 at *
      generalize w2.heap.size = by_ at *
      obtain ⟨x0, x1, x2, x3, _, _, _, _⟩ := b2.four
      go_wp2_with fail
      refine (put_nil _ ⟨_, _, _, _, rfl⟩ w3).mono ?_
      rintro e w4 ⟨rfl, k4⟩
      have b4 := b3.kp k4
      have k5 := k3.trans k4
      clear b3 b2 k3 k4 x0 x1 x2 x3
      obtain ⟨y0, y1, y2, y3, _, _, _, _⟩ := b4.four
      go_wp2_with fail
      refine (len_nil w4).mono ?_
      rintro e w5 ⟨rfl, k6⟩
      have k7 := k5.trans k6
      clear b4 k5 k6 y0 y1 y2 y3
      go_wp2_with fail
      refine (all_nil w5).mono ?_
      rintro e w6 ⟨rfl, k8⟩
      have k9 := k7.trans k8
      clear k7 k8
      go_wp2_with fail
      refine (new_some m (by omega) (by omega) w6).mono ?_
      rintro e w7 ⟨p, cb, ct, cs, rfl, _, k10, _⟩
      go_wp2_with fail
      refine (awake38 w7).mono ?_
      rintro e w8 ⟨rfl, k11⟩
      go_wp2_with fail
      go_ret
      exact ⟨rfl, (k9.trans k10).trans k11⟩
section
variable {H : Type} {enc : TypeId × Value → H} {w : World} {base : Nat} {spare : Nat → Bool} {held : Bool}
set_option maxRecDepth 100000 in
theorem in_ev_agg {r : Reach} {b0 : Nat} {v : Value} {d : DataW H} {p : List MemPlace} (hv : Value.okWide Try.prog w r b0 30 v) (h : DataW.Trod enc Try.prog w base spare held 30 v d p) : ∃ e : Ev, v = e.v ∧ True := by
  obtain ⟨v0, v1, v2, v3, y0, y1, y2, y3, n, rfl, rfl, rfl, h0, h1, h2, h3⟩ := Go.Joins.open_agg4 Try.underlying30 (by kernel_rfl) (by kernel_rfl) hv h
  obtain ⟨a, e0, _, _⟩ := DataW.trod_int Try.underlying3 h0
  obtain ⟨b, e1, _, _⟩ := DataW.trod_int Try.underlying5 h1
  obtain ⟨c, e2, _, _⟩ := DataW.trod_int Try.underlying3 h2
  obtain ⟨d, e3, _, _⟩ := DataW.trod_int Try.underlying3 h3
  injection e0 with e0
  injection e1 with e1
  injection e2 with e2
  injection e3 with e3
  subst e0 e1 e2 e3
  exact ⟨⟨a, b, c, d⟩, rfl, trivial⟩
end
theorem loopNone_walk (room : Int) (_ : (Lit.int .i64 room).wf = true) (x : Ev) (_ : True) (w : World) :
    Calls Try.prog 5 #[.int .i64 room, x.v] w fun e w' => e = .returned (.bool true) ∧ Kp w w' := loopNone_walk' room x w
end Go.Proofs.Ytakbfppmgngdiaa
