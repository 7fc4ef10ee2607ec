/-
  typebarlaw38.LoopPlays: the walk: it returns true, and what was in memory stays. Conditions: the deeds can be read.
-/
import Derived.Test.YtakbfppmgngdiaaLoopAw
import Derived.Test.YtakbfppmgngdiaaBits
namespace Go.Proofs.Ytakbfppmgngdiaa
open Go.RowKit

theorem cell_kp {w w' : World} (k : Kp w w') {a : Addr} {v : Value} (h : w.cell? a = some v) : w'.cell? a = some v := (k.cell (World.block_lt_of_cell? w a h)).trans h
/-- The two boxes, between two rounds. -/
def Two (w wr : World) (p cb ct cs base b room : Nat) (q : List Ev) : Prop := LB wr p cb ct cs room q ∧ RB wr base b room q ∧ Kp w wr
/-- Where they lie. -/
def Where (w : World) (p cb ct cs base b : Nat) : Prop := w.heap.size ≤ p ∧ w.heap.size ≤ cb ∧ w.heap.size ≤ ct ∧ w.heap.size ≤ cs ∧ p < b ∧ cb < b ∧ ct < b ∧ cs < b ∧ b < base
section
variable {w wr wx : World} {p cb ct cs base b room : Nat} {q q' : List Ev}
theorem Two.kp (h : Two w wr p cb ct cs base b room q) (k : Kp wr wx) : Two w wx p cb ct cs base b room q := ⟨h.1.kp k, h.2.1.kp k, h.2.2.trans k⟩
theorem Where.c (hw : Where w p cb ct cs base b) : ∀ i, Chs cb ct cs i → w.heap.size ≤ i := fun i h => by unfold Where at hw; rcases h with rfl | rfl | rfl <;> omega
theorem Where.r (hw : Where w p cb ct cs base b) : ∀ i, Rw base b i → w.heap.size ≤ i := fun i h => by unfold Where at hw; rcases h with rfl | h <;> omega
/-- The document's box, behind the program's step. -/
theorem Where.rb (hw : Where w p cb ct cs base b) (h : RB wr base b room q) (f : Fr (Chs cb ct cs) wr wx) : RB wx base b room q :=
  h.fr f (fun h => by unfold Where at hw; rcases h with h | h | h <;> omega) (fun i hi h => by unfold Where at hw; rcases h with h | h | h <;> omega)
/-- The program's box, behind the document's step. -/
theorem Where.lb (hw : Where w p cb ct cs base b) (h : LB wr p cb ct cs room q) (f : Fr (Rw base b) wr wx) : LB wx p cb ct cs room q := by
  unfold Where at hw
  exact h.fr f (fun h => by rcases h with h | h <;> omega) (fun h => by rcases h with h | h <;> omega) (fun h => by rcases h with h | h <;> omega) (fun h => by rcases h with h | h <;> omega)
end

theorem ansM_form (o : Option (Ev × List Ev)) : ∃ (a b c d : Int) (ok : Bool), ansM o = .tuple #[.agg #[.int .i64 a, .int .u8 b, .int .i64 c, .int .i64 d], .bool ok] := by
  cases o with
  | none => exact ⟨_, _, _, _, _, rfl⟩
  | some p => exact ⟨_, _, _, _, _, rfl⟩
theorem leftM_le {q : List Ev} : (leftM q (nextM q)).length ≤ q.length := by
  cases h : nextM q with
  | none => exact Nat.le_refl _
  | some p => have := nextM_len (x := p.1) (r := p.2) h; unfold leftM; simp; omega
theorem putM_le {room : Nat} {q : List Ev} {x : Ev} : (putM room q x).length ≤ q.length + 1 := by unfold putM; split <;> simp

set_option maxRecDepth 100000 in
set_option maxHeartbeats 6400000 in
theorem loopPlays_walk' (room0 : Int) (A : Option Addr) (n c : Nat) (ds : List Ev) (w : World) (hD : Evs w A n c ds) :
    Calls Try.prog 3 #[.int .i64 room0, .slice A n c] w fun e w' => e = .returned (.bool true) ∧ Kp w w' := by
  obtain ⟨r, hr, hb⟩ := and_below room0 3 (by omega)
  have hb' : bits .and .i64 room0 7 = (r : Int) := hb
  have hr8 : r < 8 := hr
  clear hb hr
  have hnl := Sl.le hD
  have hnc := Sl.cap hD
  unfold maxLen at hnc
  have HLEN := Lib.hid hD.len
  go_enter Try.func3, Try.ntmps3
  go_wp2_with fail
  have e1 : (1 : Int) + r = ((1 + r : Nat) : Int) := by omega
  rw [e1]
  obtain ⟨room, hroom⟩ : ∃ room, room = 1 + r := ⟨_, rfl⟩
  rw [← hroom]
  have hrm : 1 ≤ room ∧ room ≤ 65536 := by omega
  clear hroom e1 hb' hr8
  refine (new_some room hrm.1 hrm.2 w).mono ?_
  rintro e w1 ⟨p, cb, ct, cs, rfl, h1, k1, hp0, hp1, hp2, hp3⟩
  have lp := h1.bx.lt
  have lb := h1.b.lt
  have lt := h1.t.lt
  have ls := h1.s.lt
  go_upto_block 0 with fail
  have ka := (Kp.refl w1).alloc (.cells #[.int .i64 room, .slice none 0 0] 28)
  have hbx := Bx.new w1 #[.int .i64 room, .slice none 0 0] 28
  have hT0 : Two w (w1.alloc (.cells #[.int .i64 room, .slice none 0 0] 28)) p cb ct cs (w1.heap.size + 1) w1.heap.size room [] :=
    ⟨h1.kp ka, ⟨by omega, by simp, none, 0, 0, hbx, Own.nil _ _ _ _⟩, k1.trans ka⟩
  have hW : Where w p cb ct cs (w1.heap.size + 1) w1.heap.size := ⟨hp0, hp1, hp2, hp3, lp, lb, lt, ls, by omega⟩
  clear h1 k1 ka hbx hp0 hp1 hp2 hp3 lp lb lt ls
  generalize (w1.alloc (.cells #[.int .i64 room, .slice none 0 0] 28)) = w2 at *
  generalize hbase : w1.heap.size + 1 = base at *
  generalize w1.heap.size = b at *
  clear hbase
  have HW := Lib.hid hW
  clear hW
  go_wp2_with fail
  go_loopg [7] 100 (fun g i wr => ∃ (j : Nat) (q : List Ev), j + g = 100 ∧ i = .int .i64 j ∧ Two w wr p cb ct cs base b room q ∧ Hid (q.length ≤ j ∧ okQ q))
  case atStart => exact ⟨0, [], rfl, rfl, hT0, ⟨by simp, okQ_nil⟩⟩
  case round =>
    clear hT0
    obtain ⟨j, q, hj, rfl, hT, hq⟩ := hrel
    by_cases hlt : j < n ∧ j < 100
    · obtain ⟨h1, h2⟩ := hlt
      have h2b : decide ((j : Int) < 100) = true := by simp; omega
      obtain ⟨x, hx⟩ : ∃ x, ds[j]? = some x := ⟨ds[j]'(by rw [HLEN.out]; exact h1), List.getElem?_eq_getElem _⟩
      obtain ⟨ad, rfl, d0, d1, d2, d3⟩ := Evs.get hD hx
      have c0 := cell_kp hT.2.2 d0
      have c1 := cell_kp hT.2.2 d1
      have c2 := cell_kp hT.2.2 d2
      have c3 := cell_kp hT.2.2 d3
      clear hx
      have hql : q.length ≤ 1000 := by have := hq.out.1; omega
      obtain ⟨kind, hkind⟩ : ∃ k, k = x.kind := ⟨_, rfl⟩
      rw [← hkind] at c0
      have HK := Lib.hid hkind
      clear hkind
      go_upto_if 36 with fail
      go_cut [7] (fun v wx => v = .int .i64 j ∧ ∃ q', Two w wx p cb ct cs base b room q' ∧ Hid (q'.length ≤ j + 1 ∧ okQ q'))
      case first =>
        by_cases hk0 : kind = 0
        · have hkb : (kind == 0) = true := by simpa using hk0
          clear hk0
          go_wp2_with fail
          refine (next_any p cb ct cs room q wr hT.1 hq.out.2).mono ?_
          rintro e w3 ⟨rfl, hl3, f3⟩
          have hr3 := HW.out.rb hT.2.1 f3
          have k3 := Fr.kp hT.2.2 f3 HW.out.c
          have G := guard_ev
          have NE := neq_ev
          clear hT c0 c1 c2 c3 f3
          obtain ⟨a0, b0, c0, d0, ok0, hans⟩ := ansM_form (nextM q)
          have HANS := Lib.hid hans
          rw [hans]
          clear hans
          have ka := (Kp.refl w3).alloc (.cells #[.int .i64 a0, .int .u8 b0, .int .i64 c0, .int .i64 d0] 30)
          have hl4 := hl3.kp ka
          have hr4 := hr3.kp ka
          have k4 := k3.trans ka
          have bx4 := Bx.new w3 #[.int .i64 a0, .int .u8 b0, .int .i64 c0, .int .i64 d0] 30
          have hz3 : base ≤ w3.heap.size := hr3.2.1
          clear hl3 hr3 k3 ka
          go_upto_region 9 with fail
          generalize (w3.alloc (.cells #[.int .i64 a0, .int .u8 b0, .int .i64 c0, .int .i64 d0] 30)) = w4 at *
          go_wp2_with fail
          refine (refNext_any base b room q w4 hr4 hql).mono ?_
          rintro e w5 ⟨rfl, hr5, f5⟩
          rw [HANS.out]
          have hl5 := HW.out.lb hl4 (f5.weak fun k h => .inl h)
          have k5 := Fr.kp k4 (f5.weak (Y := Rw base b) fun k h => .inl h) HW.out.r
          have hbz : b ≠ w3.heap.size := by have := hr4.1; omega
          have bx5 := bx4.fr f5 (fun h => hbz h.symm)
          have hle5 : (leftM q (nextM q)).length ≤ j := Nat.le_trans leftM_le hq.out.1
          have hok5 := nextM_ok hq.out.2
          clear hl4 hr4 k4 bx4 f5
          have ka := (Kp.refl w5).alloc (.cells #[.int .i64 a0, .int .u8 b0, .int .i64 c0, .int .i64 d0] 30)
          obtain ⟨x0, x1, x2, x3, _, _, _, _⟩ := (bx5.kp ka).four
          go_wp2_with fail
          go_meet
          exact ⟨rfl, _, ⟨hl5.kp ka, hr5.kp ka, k5.trans ka⟩, ⟨by omega, hok5⟩⟩
        · have hkb : (kind == 0) = false := by simpa using hk0
          clear hk0
          have hl2 := hT.1.kp (Kp.refl wr).drew
          have hr2 := hT.2.1.kp (Kp.refl wr).drew
          have k2 := hT.2.2.drew
          have hok2 := putM_ok (room := room) (x := x) hq.out.2
          have hle2 : (putM room q x).length ≤ j + 1 := Nat.le_trans putM_le (by have := hq.out.1; omega)
          rw [HK.out] at c0
          clear hT
          go_wp2_with fail
          go_region_held3 (fun w' => w'.cell? (ad.add (j * 4)) = some (.int .i64 x.kind) ∧ w'.cell? ⟨(ad.add (j * 4)).block, (ad.add (j * 4)).off + 1, none⟩ = some (.int .u8 x.byte) ∧ w'.cell? ⟨(ad.add (j * 4)).block, (ad.add (j * 4)).off + 2, none⟩ = some (.int .i64 x.rows) ∧ w'.cell? ⟨(ad.add (j * 4)).block, (ad.add (j * 4)).off + 3, none⟩ = some (.int .i64 x.cols))
            (first | (with_reducible exact ⟨u0, u1, u2, u3⟩) | (with_reducible exact ⟨c0, c1, c2, c3⟩) | go_keep)
            (first
              | (go_at_call 18; go_loud (refine (put_any p cb ct cs room q x _ hl2).mono ?_); rintro e w3 ⟨rfl, hl3, f3⟩; have hr3 := HW.out.rb hr2 f3; have k3 := Fr.kp k2 f3 HW.out.c; have u0 := cell_kp k3 d0; have u1 := cell_kp k3 d1; have u2 := cell_kp k3 d2; have u3 := cell_kp k3 d3)
              | (go_at_call 19; go_loud (refine (refPut_any base b room q x _ hr3 hrm.2 hql).mono ?_); rintro e w5 ⟨rfl, hr5, f5⟩; have hl5 := HW.out.lb hl3 f5; have k5 := Fr.kp k3 f5 HW.out.r; have u0 := cell_kp k5 d0; have u1 := cell_kp k5 d1; have u2 := cell_kp k5 d2; have u3 := cell_kp k5 d3))
          all_goals go_wp2_with fail
          all_goals go_meet
          all_goals exact ⟨rfl, _, ⟨hl5, hr5, k5⟩, ⟨hle2, hok2⟩⟩
      case rest =>
        clear hT c0 c1 c2 c3 hq hql
        obtain ⟨rfl, q, hT, hq⟩ := hcut
        obtain ⟨w3, hw3⟩ : ∃ w3 : World, w3 = wc := ⟨_, rfl⟩
        subst hw3
        go_wp2_with fail
        refine (len_any p cb ct cs room q w3 hT.1).mono ?_
        rintro e w4 ⟨rfl, k4⟩
        have hT4 := hT.kp k4
        obtain ⟨A5, n5, c5, hb5, ho5⟩ := hT4.2.1.2.2
        go_wp2_with fail
        refine (refLen_any b room A5 n5 c5 q w4 hb5 ho5.evs).mono ?_
        rintro e w5 ⟨rfl, k5⟩
        have hT5 := hT4.kp k5
        have G := guard_three
        have NE := neq_three
        clear hT hT4 k4 k5 hb5 ho5
        generalize (ofK 1 q).length = n1 at *
        generalize (ofK 2 q).length = n2 at *
        generalize (ofK 3 q).length = n3 at *
        go_wp2_with fail
        go_roundg (100 - (j + 1))
        case measure => omega
        case rel => exact ⟨j + 1, q, by omega, by go_num, hT5, hq⟩
    · have kpw := hT.2.2
      clear hT hq
      by_cases h1 : j < n
      · have h2b : decide ((j : Int) < 100) = false := by simp; omega
        clear hlt
        go_wp2_with fail
        refine (awake38 wr).mono ?_
        rintro e w3 ⟨rfl, k3⟩
        go_wp2_with fail
        go_ret
        exact ⟨rfl, kpw.trans k3⟩
      · clear hlt
        go_wp2_with fail
        refine (awake38 wr).mono ?_
        rintro e w3 ⟨rfl, k3⟩
        go_wp2_with fail
        go_ret
        exact ⟨rfl, kpw.trans k3⟩
end Go.Proofs.Ytakbfppmgngdiaa
