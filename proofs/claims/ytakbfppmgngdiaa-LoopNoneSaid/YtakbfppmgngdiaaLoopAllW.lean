/-
  typebarlaw38.LoopAll: the walk: it returns true, and what was in memory stays. Conditions: the events can be read.
-/
import Derived.Test.YtakbfppmgngdiaaArgsEv
namespace Go.Proofs.Ytakbfppmgngdiaa
open Go.RowKit

theorem takeK_none {k : Int} {q : List Ev} (h : takeK k q = none) : ∀ e ∈ q, e.kind ≠ k := by
  rcases takeK_split k q with ⟨_, h2⟩ | ⟨l, x, r, h1, _⟩
  · exact h2
  · rw [h1] at h; cases h
theorem nextM_none {q : List Ev} (hq : okQ q) (h : nextM q = none) : q = [] := by
  unfold nextM at h
  rcases h3 : takeK 3 q with _ | p3
  · rcases h1 : takeK 1 q with _ | p1
    · rw [h3, h1] at h
      have n1 := takeK_none h1
      have n2 := takeK_none h
      have n3 := takeK_none h3
      cases q with
      | nil => rfl
      | cons e r =>
        have := (hq e (by simp)).2
        have a1 := n1 e (by simp)
        have a2 := n2 e (by simp)
        have a3 := n3 e (by simp)
        omega
    · rw [h3, h1] at h; cases h
  · rw [h3] at h; cases h
/-- All that wait, told one by one. -/
def tell (q : List Ev) : List Ev := (drainM q.length q).1
theorem nextM_nil : nextM [] = none := rfl
theorem drain_all : ∀ (k : Nat) (q : List Ev), okQ q → q.length ≤ k → drainM k q = (tell q, []) := by
  intro k
  induction k with
  | zero =>
    intro q _ hl
    obtain rfl : q = [] := by cases q with | nil => rfl | cons e r => simp at hl
    rfl
  | succ k ih =>
    intro q hq hl
    rcases hn : nextM q with _ | ⟨x, r⟩
    · have := nextM_none hq hn
      subst this
      simp [drainM, tell, nextM_nil]
    · have hr := nextM_len hn
      have hok := nextM_ok hq
      rw [hn] at hok
      have e1 := ih r hok (by omega)
      have e2 : tell q = x :: tell r := by
        unfold tell
        rw [← hr]
        simp [drainM, hn]
      rw [e2]
      simp [drainM, hn, e1]
theorem tell_next {q : List Ev} {x : Ev} {r : List Ev} (h : nextM q = some (x, r)) : tell q = x :: tell r := by
  have hr := nextM_len h
  unfold tell
  rw [← hr]
  simp [drainM, h]
theorem drain_ok : ∀ (k : Nat) (q : List Ev), okQ q → okQ (drainM k q).2 := by
  intro k
  induction k with
  | zero => intro q hq; exact hq
  | succ k ih =>
    intro q hq
    rcases hn : nextM q with _ | ⟨x, r⟩
    · simp [drainM, hn]; exact hq
    · have hok := nextM_ok hq
      rw [hn] at hok
      simp [drainM, hn]
      exact ih r hok
theorem tell_len {q : List Ev} (hq : okQ q) : (tell q).length = q.length := by
  suffices ∀ n (q : List Ev), q.length = n → okQ q → (tell q).length = n from (this q.length q rfl hq)
  intro n
  induction n with
  | zero =>
    intro q hl _
    obtain rfl : q = [] := by cases q with | nil => rfl | cons e r => simp at hl
    rfl
  | succ n ih =>
    intro q hl hq
    rcases hn : nextM q with _ | ⟨x, r⟩
    · have := nextM_none hq hn
      subst this
      simp at hl
    · have hr := nextM_len hn
      have hok := nextM_ok hq
      rw [hn] at hok
      rw [tell_next hn]
      simp [ih r (by omega) hok]

/-- The two boxes, and the row that is wanted. -/
def Want (w wr : World) (p cb ct cs base b room : Nat) (q rest : List Ev) (A : Option Addr) (m c : Nat) (out : List Ev) : Prop :=
  LB wr p cb ct cs room q ∧ RBz wr base b room rest (fun g => rowOf A = some g) ∧ Own wr base 30 4 A m c (evCells out) ∧ Kp w wr
theorem Want.kp {w wr wx : World} {p cb ct cs base b room : Nat} {q rest : List Ev} {A : Option Addr} {m c : Nat} {out : List Ev} (h : Want w wr p cb ct cs base b room q rest A m c out) (k : Kp wr wx) : Want w wx p cb ct cs base b room q rest A m c out :=
  ⟨h.1.kp k, h.2.1.kp k, h.2.2.1.kp k, h.2.2.2.trans k⟩

set_option maxRecDepth 100000 in
set_option maxHeartbeats 6400000 in
theorem loopAll_walk' (A : Option Addr) (n c : Nat) (most : Int) (ds : List Ev) (w : World) (hD : Evs w A n c ds) :
    Calls Try.prog 4 #[.slice A n c, .int .i64 most] w fun e w' => e = .returned (.bool true) ∧ Kp w w' := by
  have hnl := Sl.le hD
  have hnc := Sl.cap hD
  unfold maxLen at hnc
  have HLEN := Lib.hid hD.len
  go_enter Try.func4, Try.ntmps4
  go_wp2_with fail
  refine (new_some 200 (by omega) (by omega) w).mono ?_
  rintro e w1 ⟨p, cb, ct, cs, rfl, h1, k1, hp0, hp1, hp2, hp3⟩
  have lp := h1.bx.lt
  have lb := h1.b.lt
  have lt := h1.t.lt
  have ls := h1.s.lt
  go_upto_block 0 with fail
  have ka := (Kp.refl w1).alloc (.cells #[.int .i64 200, .slice none 0 0] 28)
  have hbx := Bx.new w1 #[.int .i64 200, .slice none 0 0] 28
  have hT0 : Two w (w1.alloc (.cells #[.int .i64 200, .slice none 0 0] 28)) p cb ct cs (w1.heap.size + 1) w1.heap.size 200 [] :=
    ⟨h1.kp ka, ⟨by omega, by simp, none, 0, 0, hbx, Own.nil _ _ _ _⟩, k1.trans ka⟩
  have hW : Where w p cb ct cs (w1.heap.size + 1) w1.heap.size := ⟨hp0, hp1, hp2, hp3, lp, lb, lt, ls, by omega⟩
  clear h1 k1 ka hbx hp0 hp1 hp2 hp3 lp lb lt ls
  generalize (w1.alloc (.cells #[.int .i64 200, .slice none 0 0] 28)) = w2 at *
  generalize hbase : w1.heap.size + 1 = base at *
  generalize w1.heap.size = b at *
  clear hbase
  have HW := Lib.hid hW
  clear hW
  obtain ⟨room, hroom⟩ : ∃ room : Nat, room = 200 := ⟨_, rfl⟩
  have hrm : room ≤ 65536 := by omega
  rw [← hroom] at hT0
  clear hroom
  go_wp2_with fail
  go_loopg [7] 100 (fun g i wr => ∃ (j : Nat) (q : List Ev), j + g = 100 ∧ i = .int .i64 j ∧ Two w wr p cb ct cs base b room q ∧ Hid (q.length ≤ j ∧ okQ q))
  case atStart => exact ⟨0, [], rfl, rfl, hT0, ⟨by simp, okQ_nil⟩⟩
  case round =>
    clear hT0
    obtain ⟨j, q, hj, rfl, hT, hq⟩ := hrel
    by_cases hlt : j < n ∧ j < 100
    · obtain ⟨h1, h2⟩ := hlt
      have h2b : decide ((j : Int) < 100) = true := by simp; omega
      obtain ⟨x, hx⟩ : ∃ x, ds[j]? = some x := ⟨ds[j]'(by rw [HLEN.out]; exact h1), List.getElem?_eq_getElem _⟩
      obtain ⟨ad, rfl, d0, d1, d2, d3⟩ := Evs.get hD hx
      have c0 := cell_kp hT.2.2 d0
      have c1 := cell_kp hT.2.2 d1
      have c2 := cell_kp hT.2.2 d2
      have c3 := cell_kp hT.2.2 d3
      clear hx
      have hql : q.length ≤ 1000 := by have := hq.out.1; omega
      have hok2 := putM_ok (room := room) (x := x) hq.out.2
      have hle2 : (putM room q x).length ≤ j + 1 := Nat.le_trans putM_le (by have := hq.out.1; omega)
      go_wp2_with fail
      refine (put_any p cb ct cs room q x wr hT.1).mono ?_
      rintro e w3 ⟨rfl, hl3, f3⟩
      have hr3 := HW.out.rb hT.2.1 f3
      have k3 := Fr.kp hT.2.2 f3 HW.out.c
      have u0 := cell_kp k3 d0
      have u1 := cell_kp k3 d1
      have u2 := cell_kp k3 d2
      have u3 := cell_kp k3 d3
      clear hT c0 c1 c2 c3 f3
      go_wp2_with fail
      refine (refPut_any base b room q x w3 hr3 hrm hql).mono ?_
      rintro e w5 ⟨rfl, hr5, f5⟩
      have hl5 := HW.out.lb hl3 f5
      have k5 := Fr.kp k3 f5 HW.out.r
      clear hl3 hr3 k3 f5 u0 u1 u2 u3
      go_wp2_with fail
      go_roundg (100 - (j + 1))
      case measure => omega
      case rel => exact ⟨j + 1, _, by omega, by go_num, ⟨hl5, hr5, k5⟩, ⟨hle2, hok2⟩⟩
    · have hq100 : q.length ≤ 100 := by have := hq.out.1; omega
      have hok := hq.out.2
      have hT3 : Want w wr p cb ct cs base b room q q none 0 0 [] := ⟨hT.1, hT.2.1.rbz (fun _ _ _ h => by cases h), Own.nil _ _ _ _, hT.2.2⟩
      have HOK := Lib.hid hok
      clear hT hq hok hj
      have hcond : (j < n ∧ ¬ j < 100) ∨ ¬ j < n := by omega
      have hex : (if j < n then decide ((j : Int) < 100) else false) = false := by split <;> simp <;> omega
      clear hlt
      rcases hcond with ⟨h1, h2⟩ | h1
      have h2b : decide ((j : Int) < 100) = false := by simp; omega
      all_goals clear hex
      all_goals go_wp2_with fail
      all_goals
        go_loopg [8] (q.length + 1) (fun g v wr => ∃ (A2 : Option Addr) (m c2 : Nat) (out rest : List Ev), g = rest.length + 1 ∧ v = .slice A2 m c2 ∧ Want w wr p cb ct cs base b room q rest A2 m c2 out ∧ okQ rest ∧
          Hid (m + rest.length ≤ q.length ∧ drainM most.toNat q = (out ++ (drainM (most.toNat - m) rest).1, (drainM (most.toNat - m) rest).2)))
        case atStart => exact ⟨none, 0, 0, [], q, rfl, rfl, hT3, HOK.out, ⟨by omega, rfl⟩⟩
        case round =>
          clear hT3
          obtain ⟨A2, m, c2, out, rest, hg, rfl, hT, hrok, hh⟩ := hrel
          have hm1 : m ≤ 1000 := by have := hh.out.1; omega
          obtain ⟨hl0, hr0, ho0, hk0⟩ := hT
          have hbb : b < base := hr0.1
          by_cases hlt : (m : Int) < most
          · go_wp2_with fail
            refine (refNext_z base b room rest wr _ (fun g hg => (ho0.lt g hg).2) hr0 (by have := hh.out.1; omega)).mono ?_
            rintro e w1 ⟨rfl, hr1, f1⟩
            have ho1 := ho0.fr f1 (fun i hi hX => by have := (ho0.lt i hi).1; omega)
            have hl1 := HW.out.lb hl0 (f1.weak fun k h => .inl h)
            have k1 := Fr.kp hk0 (f1.weak (Y := Rw base b) fun k h => .inl h) HW.out.r
            obtain ⟨k, hk⟩ : ∃ k, most.toNat - m = k + 1 := ⟨most.toNat - m - 1, by omega⟩
            have hk2 : most.toNat - (m + 1) = k := by omega
            clear hl0 hr0 ho0 hk0 f1
            cases hn : nextM rest with
            | none =>
              have hh2 : Hid (drainM most.toNat q = (out, rest)) := by
                show _ = _
                rw [hh.out.2, hk]
                simp [drainM, hn]
              have hrl : rest.length ≤ 100 := by have := hh.out.1; omega
              rw [hn] at hr1
              have hr2 : RBz w1 base b room rest (fun g => rowOf A2 = some g) := hr1
              have HROK := Lib.hid hrok
              clear hh hk hk2 hn hr1 hrok hg
              unfold ansM Ev.zero Ev.v
              have ka := (Kp.refl w1).alloc (.cells #[.int .i64 0, .int .u8 0, .int .i64 0, .int .i64 0] 30)
              have hl3 := hl1.kp ka
              have hr3 := hr2.rb.kp ka
              have ho3 := ho1.kp ka
              have k3 := k1.trans ka
              clear hl1 hr2 ho1 k1 ka
              go_upto_region 11 with fail
              generalize (w1.alloc (.cells #[.int .i64 0, .int .u8 0, .int .i64 0, .int .i64 0] 30)) = w2' at *
              go_wp2_with fail
              refine (all_any p cb ct cs room most q w2' hl3 HOK.out (by omega)).mono ?_
              rintro e w3 ⟨A3, n3, c3, rfl, hv, hl4, f4, hn3⟩
              rw [hh2.out] at hv hl4
              dsimp only at hv hl4
              have hr4 := HW.out.rb hr3 f4
              have ho4 := ho3.fr f4 (fun i hi h => by have := (ho3.lt i hi).1; have hw := HW.out; unfold Where at hw; unfold Chs at h; omega)
              have k4 := Fr.kp k3 f4 HW.out.c
              clear hl3 hr3 ho3 k3 f4
              go_wp2_with fail
              refine (sameEv_true A3 A2 n3 c3 m c2 out w3 hv.any ho4.evs).mono ?_
              rintro e w4 ⟨rfl, d4⟩
              have hl5 := hl4.kp d4.kp
              have hr5 := hr4.kp d4.kp
              have k5 := k4.trans d4.kp
              clear hv hl4 hr4 ho4 k4 d4
              go_wp2_with fail
              refine (len_any p cb ct cs room rest w4 hl5).mono ?_
              rintro e w5 ⟨rfl, k6⟩
              have hl6 := hl5.kp k6
              have hr6 := hr5.kp k6
              have k7 := k5.trans k6
              clear hl5 hr5 k5 k6
              obtain ⟨A5, n5, c5, hb5, ho5⟩ := hr6.2.2
              go_wp2_with fail
              refine (refLen_any b room A5 n5 c5 rest w5 hb5 ho5.evs).mono ?_
              rintro e w6 ⟨rfl, k8⟩
              have hl7 := hl6.kp k8
              have hr7 := hr6.kp k8
              have k9 := k7.trans k8
              clear hl6 hr6 k7 k8 hb5 ho5
              have G3 := guard_three
              have NE3 := neq_three
              have EQ3 := eql_three
              generalize (ofK 1 rest).length = m1 at *
              generalize (ofK 2 rest).length = m2 at *
              generalize (ofK 3 rest).length = m3 at *
              go_wp2_with fail
              refine (all_any p cb ct cs room 1000 rest w6 hl7 HROK.out (by omega)).mono ?_
              rintro e w7 ⟨A6, n6, c6, rfl, hv, hl8, f8, hn6⟩
              have ed : drainM (1000 : Int).toNat rest = (tell rest, []) := drain_all 1000 rest HROK.out (by omega)
              rw [ed] at hv hl8
              dsimp only at hv hl8
              have hr8 := HW.out.rb hr7 f8
              have k10 := Fr.kp k9 f8 HW.out.c
              have hE : Sl w7 (From (b + 1)) 4 A6 n6 c6 (evCells (tell rest)) := hv.weak fun k _ h => by have := hr7.2.1; unfold From at h ⊢; omega
              clear hl7 hr7 k9 f8 ed hv
              obtain ⟨L, hL⟩ : ∃ L, L = tell rest := ⟨_, rfl⟩
              rw [← hL] at hE
              have HL := Lib.hid hL
              have HLL := Lib.hid (Evs.len hE.any)
              have hlen6 := Sl.le hE
              have hcap6 := Sl.cap hE
              unfold maxLen at hcap6
              clear hL
              go_wp2_with fail
              go_loopg [12] n6 (fun g v wr => ∃ (i : Nat) (q' : List Ev), i + g = n6 ∧ v = .int .i64 i ∧ LB wr p cb ct cs room [] ∧ RB wr base b room q' ∧ Kp w wr ∧ Sl wr (From (b + 1)) 4 A6 n6 c6 (evCells L) ∧ Hid (L.drop i = tell q' ∧ okQ q' ∧ q'.length ≤ 100))
              case atStart => exact ⟨0, rest, by omega, rfl, hl8, hr8, k10, hE, ⟨by rw [HL.out]; rfl, HROK.out, hrl⟩⟩
              case round =>
                clear hl8 hr8 k10 hE
                obtain ⟨i, q', hi, rfl, hl8, hr8, k10, hE, hh8⟩ := hrel
                have hq'l : q'.length ≤ 1000 := by have := hh8.out.2.2; omega
                by_cases hlt8 : i < n6
                · obtain ⟨y, hy⟩ : ∃ y, L[i]? = some y := ⟨L[i]'(by rw [HLL.out]; exact hlt8), List.getElem?_eq_getElem _⟩
                  obtain ⟨y', r', hn', rfl, ht'⟩ : ∃ y' r', nextM q' = some (y', r') ∧ y' = y ∧ tell r' = L.drop (i + 1) := by
                    have h1 : L.drop i = y :: L.drop (i + 1) := by
                      have hg := (List.getElem?_eq_some_iff.1 hy).2
                      rw [List.drop_eq_getElem_cons (by rw [HLL.out]; exact hlt8), hg]
                    rcases hn : nextM q' with _ | ⟨y', r'⟩
                    · have e0 := nextM_none hh8.out.2.1 hn
                      rw [hh8.out.1, e0] at h1
                      cases h1
                    · rw [hh8.out.1, tell_next hn] at h1
                      injection h1 with h1 h2
                      exact ⟨y', r', rfl, h1, h2⟩
                  have hok' := nextM_ok hh8.out.2.1
                  have hln' := nextM_len hn'
                  have hle' : r'.length ≤ 100 := by have := hh8.out.2.2; omega
                  go_wp2_with fail
                  refine (refNext_any base b room q' wr hr8 hq'l).mono ?_
                  rintro e w8 ⟨rfl, hr9, f9⟩
                  rw [hn'] at hr9 hok' ⊢
                  have hr9' : RB w8 base b room r' := hr9
                  have hok9 : okQ r' := hok'
                  have hl9 := HW.out.lb hl8 (f9.weak fun k h => .inl h)
                  have k11 := Fr.kp k10 (f9.weak (Y := Rw base b) fun k h => .inl h) HW.out.r
                  have hE9 := hE.fr f9 (fun i hi h => by unfold From at hi; omega)
                  have hh9 : Hid (L.drop (i + 1) = tell r' ∧ okQ r' ∧ r'.length ≤ 100) := ⟨ht'.symm, hok9, hle'⟩
                  clear hl8 hr8 k10 hE f9 hr9 hok' hok9 hle' hln' ht' hh8 hn' hq'l
                  unfold ansM Ev.v
                  have ka := (Kp.refl w8).alloc (.cells #[.int .i64 y'.kind, .int .u8 y'.byte, .int .i64 y'.rows, .int .i64 y'.cols] 30)
                  have bx4 := Bx.new w8 #[.int .i64 y'.kind, .int .u8 y'.byte, .int .i64 y'.rows, .int .i64 y'.cols] 30
                  have hl10 := hl9.kp ka
                  have hr10 := hr9'.kp ka
                  have k12 := k11.trans ka
                  have hE10 := hE9.kp ka
                  have G1 := guard_ev
                  have NE1 := neq_ev
                  clear hl9 hr9' k11 hE9 ka
                  go_upto_region 20 with fail
                  generalize (w8.alloc (.cells #[.int .i64 y'.kind, .int .u8 y'.byte, .int .i64 y'.rows, .int .i64 y'.cols] 30)) = w9 at *
                  generalize w8.heap.size = bz at *
                  obtain ⟨x0, x1, x2, x3, _, _, _, _⟩ := bx4.four
                  obtain ⟨ad, rfl, d0, d1, d2, d3⟩ := Evs.get hE10.any hy
                  clear hy
                  go_quiet (fail)
                  go_wp2
                  go_roundg (n6 - (i + 1))
                  case measure => omega
                  case rel => exact ⟨i + 1, r', by omega, by go_num, hl10.kp ((Kp.refl _).drewN _), hr10.kp ((Kp.refl _).drewN _), k12.drewN _, hE10.kp ((Kp.refl _).drewN _), hh9⟩
                · have hq0 : q' = [] := by
                    have h1 : L.drop i = [] := List.drop_eq_nil_of_le (by rw [HLL.out]; omega)
                    have h2 := hh8.out.1
                    rw [h1] at h2
                    have h3 := tell_len hh8.out.2.1
                    rw [← h2] at h3
                    exact List.eq_nil_of_length_eq_zero h3.symm
                  subst hq0
                  clear hh8 hq'l hE
                  go_wp2_with fail
                  refine (refNext_any base b room [] wr hr8 (by simp)).mono ?_
                  rintro e w8 ⟨rfl, hr9, f9⟩
                  have hl9 := HW.out.lb hl8 (f9.weak fun k h => .inl h)
                  have k11 := Fr.kp k10 (f9.weak (Y := Rw base b) fun k h => .inl h) HW.out.r
                  clear hl8 hr8 k10 f9 hr9
                  rw [nextM_nil]
                  unfold ansM Ev.zero Ev.v
                  have ka := (Kp.refl w8).alloc (.cells #[.int .i64 0, .int .u8 0, .int .i64 0, .int .i64 0] 30)
                  have hl10 := hl9.kp ka
                  have k12 := k11.trans ka
                  clear hl9 k11 ka
                  go_upto_region 23 with fail
                  generalize (w8.alloc (.cells #[.int .i64 0, .int .u8 0, .int .i64 0, .int .i64 0] 30)) = w9 at *
                  go_wp2_with fail
                  refine (len_any p cb ct cs room [] w9 hl10).mono ?_
                  rintro e w10 ⟨rfl, k13⟩
                  have z1 : (((ofK 1 []).length : Nat) : Int) = 0 := rfl
                  have z2 : (((ofK 2 []).length : Nat) : Int) = 0 := rfl
                  have z3 : (((ofK 3 []).length : Nat) : Int) = 0 := rfl
                  rw [z1, z2, z3]
                  clear z1 z2 z3
                  have EQ0 := EQ3 0 0 0
                  go_wp2_with fail
                  refine (awake38 w10).mono ?_
                  rintro e w11 ⟨rfl, k14⟩
                  go_wp2_with fail
                  go_ret
                  exact ⟨rfl, (k12.trans k13).trans k14⟩
            | some pr =>
              obtain ⟨x, r⟩ := pr
              have hln := nextM_len hn
              have hh2 : Hid (drainM most.toNat q = (out ++ [x] ++ (drainM (most.toNat - (m + 1)) r).1, (drainM (most.toNat - (m + 1)) r).2)) := by
                show _ = _
                rw [hh.out.2, hk, hk2]
                simp [drainM, hn]
              have hok2 := nextM_ok hrok
              rw [hn] at hr1 hok2
              have hml := hh.out.1
              clear hh hk hk2 hn
              unfold ansM Ev.v
              have hr2 : RBz w1 base b room r (fun g => rowOf A2 = some g) := hr1
              have hbw : base ≤ w1.heap.size := hr2.2.1
              clear hr1
              have ka := (Kp.refl w1).alloc (.cells #[.int .i64 x.kind, .int .u8 x.byte, .int .i64 x.rows, .int .i64 x.cols] 30)
              go_wp2_with (at_builtin; refine wpList_append_sl _ rfl _ _ _ rfl base 30 _ 4 32 Try.underlying26 infoEv rfl (by omega) A2 m c2 (evCells out) rfl ((ho1.kp ka).alloc _) Any _ 1 1 (evC x) rfl (Sl.new_ (w1.alloc (.cells #[.int .i64 x.kind, .int .u8 x.byte, .int .i64 x.rows, .int .i64 x.cols] 30)) #[.int .i64 x.kind, .int .u8 x.byte, .int .i64 x.rows, .int .i64 x.cols] _ 4 1 _ (by simp) trivial (by simp) (by omega)) (by simp [evC, Value.oneCell']) (by simp only [maxLen]; omega) (by omega) (by simp; omega) ?_; intro A4 c4 w4 hown4 hg4 hat4)
              have hrow : ∀ g, rowOf A2 = some g → base ≤ g := fun g h => (ho1.lt g h).1
              have hf4 : Fr (fun k => base ≤ k) w1 w4 := Fr.grown (((Fr.refl w1).alloc _).alloc _) hg4 (fun g h => .inl (hrow g h))
              have k4 : Kp w w4 := Fr.kp k1 (hf4.weak (Y := Rw base b) fun k h => .inr h) HW.out.r
              have hl4 := HW.out.lb hl1 (hf4.weak (Y := Rw base b) fun k h => .inr h)
              have hr4 := ((((hr2.kp ka).kp ((Kp.refl _).alloc _)).other (Y := fun g => rowOf A2 = some g ∨ rowOf A4 = some g) (fun g h => by
                rcases h with h | h
                · exact .inl h
                · rcases hat4 with ha | ha
                  · exact .inl (ha ▸ h)
                  · rw [ha] at h; cases h; exact .inr (Nat.le_refl _))).grown hg4 (fun g h => ⟨.inl h, by have := hrow g h; omega⟩)).other (Y := fun g => rowOf A4 = some g) (fun g h => .inl (.inr h))
              go_roundg (r.length + 1)
              case measure => omega
              case rel =>
                refine ⟨A4, m + 1, c4, out ++ [x], r, rfl, rfl, ⟨hl4, hr4, ?_, k4⟩, hok2, ⟨by omega, hh2.out⟩⟩
                rw [evCells_append]
                have e1 : evCells [x] = evC x := by simp [evCells]
                rw [e1]
                exact hown4
          · have hh2 : Hid (drainM most.toNat q = (out, rest)) := by
              show _ = _
              have e0 : most.toNat - m = 0 := by omega
              rw [hh.out.2, e0]
              simp [drainM]
            have hrl : rest.length ≤ 100 := by have := hh.out.1; omega
            have HROK := Lib.hid hrok
            obtain ⟨w2', hw2'⟩ : ∃ w2' : World, w2' = wr := ⟨_, rfl⟩
            subst hw2'
            have hl3 := hl0
            have hr3 := hr0.rb
            have ho3 := ho0
            have k3 := hk0
            clear hh hrok hl0 hr0 ho0 hk0 hg
            go_wp2_with fail
            refine (all_any p cb ct cs room most q w2' hl3 HOK.out (by omega)).mono ?_
            rintro e w3 ⟨A3, n3, c3, rfl, hv, hl4, f4, hn3⟩
            rw [hh2.out] at hv hl4
            dsimp only at hv hl4
            have hr4 := HW.out.rb hr3 f4
            have ho4 := ho3.fr f4 (fun i hi h => by have := (ho3.lt i hi).1; have hw := HW.out; unfold Where at hw; unfold Chs at h; omega)
            have k4 := Fr.kp k3 f4 HW.out.c
            clear hl3 hr3 ho3 k3 f4
            go_wp2_with fail
            refine (sameEv_true A3 A2 n3 c3 m c2 out w3 hv.any ho4.evs).mono ?_
            rintro e w4 ⟨rfl, d4⟩
            have hl5 := hl4.kp d4.kp
            have hr5 := hr4.kp d4.kp
            have k5 := k4.trans d4.kp
            clear hv hl4 hr4 ho4 k4 d4
            go_wp2_with fail
            refine (len_any p cb ct cs room rest w4 hl5).mono ?_
            rintro e w5 ⟨rfl, k6⟩
            have hl6 := hl5.kp k6
            have hr6 := hr5.kp k6
            have k7 := k5.trans k6
            clear hl5 hr5 k5 k6
            obtain ⟨A5, n5, c5, hb5, ho5⟩ := hr6.2.2
            go_wp2_with fail
            refine (refLen_any b room A5 n5 c5 rest w5 hb5 ho5.evs).mono ?_
            rintro e w6 ⟨rfl, k8⟩
            have hl7 := hl6.kp k8
            have hr7 := hr6.kp k8
            have k9 := k7.trans k8
            clear hl6 hr6 k7 k8 hb5 ho5
            have G3 := guard_three
            have NE3 := neq_three
            have EQ3 := eql_three
            generalize (ofK 1 rest).length = m1 at *
            generalize (ofK 2 rest).length = m2 at *
            generalize (ofK 3 rest).length = m3 at *
            go_wp2_with fail
            refine (all_any p cb ct cs room 1000 rest w6 hl7 HROK.out (by omega)).mono ?_
            rintro e w7 ⟨A6, n6, c6, rfl, hv, hl8, f8, hn6⟩
            have ed : drainM (1000 : Int).toNat rest = (tell rest, []) := drain_all 1000 rest HROK.out (by omega)
            rw [ed] at hv hl8
            dsimp only at hv hl8
            have hr8 := HW.out.rb hr7 f8
            have k10 := Fr.kp k9 f8 HW.out.c
            have hE : Sl w7 (From (b + 1)) 4 A6 n6 c6 (evCells (tell rest)) := hv.weak fun k _ h => by have := hr7.2.1; unfold From at h ⊢; omega
            clear hl7 hr7 k9 f8 ed hv
            obtain ⟨L, hL⟩ : ∃ L, L = tell rest := ⟨_, rfl⟩
            rw [← hL] at hE
            have HL := Lib.hid hL
            have HLL := Lib.hid (Evs.len hE.any)
            have hlen6 := Sl.le hE
            have hcap6 := Sl.cap hE
            unfold maxLen at hcap6
            clear hL
            go_wp2_with fail
            go_loopg [12] n6 (fun g v wr => ∃ (i : Nat) (q' : List Ev), i + g = n6 ∧ v = .int .i64 i ∧ LB wr p cb ct cs room [] ∧ RB wr base b room q' ∧ Kp w wr ∧ Sl wr (From (b + 1)) 4 A6 n6 c6 (evCells L) ∧ Hid (L.drop i = tell q' ∧ okQ q' ∧ q'.length ≤ 100))
            case atStart => exact ⟨0, rest, by omega, rfl, hl8, hr8, k10, hE, ⟨by rw [HL.out]; rfl, HROK.out, hrl⟩⟩
            case round =>
              clear hl8 hr8 k10 hE
              obtain ⟨i, q', hi, rfl, hl8, hr8, k10, hE, hh8⟩ := hrel
              have hq'l : q'.length ≤ 1000 := by have := hh8.out.2.2; omega
              by_cases hlt8 : i < n6
              · obtain ⟨y, hy⟩ : ∃ y, L[i]? = some y := ⟨L[i]'(by rw [HLL.out]; exact hlt8), List.getElem?_eq_getElem _⟩
                obtain ⟨y', r', hn', rfl, ht'⟩ : ∃ y' r', nextM q' = some (y', r') ∧ y' = y ∧ tell r' = L.drop (i + 1) := by
                  have h1 : L.drop i = y :: L.drop (i + 1) := by
                    have hg := (List.getElem?_eq_some_iff.1 hy).2
                    rw [List.drop_eq_getElem_cons (by rw [HLL.out]; exact hlt8), hg]
                  rcases hn : nextM q' with _ | ⟨y', r'⟩
                  · have e0 := nextM_none hh8.out.2.1 hn
                    rw [hh8.out.1, e0] at h1
                    cases h1
                  · rw [hh8.out.1, tell_next hn] at h1
                    injection h1 with h1 h2
                    exact ⟨y', r', rfl, h1, h2⟩
                have hok' := nextM_ok hh8.out.2.1
                have hln' := nextM_len hn'
                have hle' : r'.length ≤ 100 := by have := hh8.out.2.2; omega
                go_wp2_with fail
                refine (refNext_any base b room q' wr hr8 hq'l).mono ?_
                rintro e w8 ⟨rfl, hr9, f9⟩
                rw [hn'] at hr9 hok' ⊢
                have hr9' : RB w8 base b room r' := hr9
                have hok9 : okQ r' := hok'
                have hl9 := HW.out.lb hl8 (f9.weak fun k h => .inl h)
                have k11 := Fr.kp k10 (f9.weak (Y := Rw base b) fun k h => .inl h) HW.out.r
                have hE9 := hE.fr f9 (fun i hi h => by unfold From at hi; omega)
                have hh9 : Hid (L.drop (i + 1) = tell r' ∧ okQ r' ∧ r'.length ≤ 100) := ⟨ht'.symm, hok9, hle'⟩
                clear hl8 hr8 k10 hE f9 hr9 hok' hok9 hle' hln' ht' hh8 hn' hq'l
                unfold ansM Ev.v
                have ka := (Kp.refl w8).alloc (.cells #[.int .i64 y'.kind, .int .u8 y'.byte, .int .i64 y'.rows, .int .i64 y'.cols] 30)
                have bx4 := Bx.new w8 #[.int .i64 y'.kind, .int .u8 y'.byte, .int .i64 y'.rows, .int .i64 y'.cols] 30
                have hl10 := hl9.kp ka
                have hr10 := hr9'.kp ka
                have k12 := k11.trans ka
                have hE10 := hE9.kp ka
                have G1 := guard_ev
                have NE1 := neq_ev
                clear hl9 hr9' k11 hE9 ka
                go_upto_region 20 with fail
                generalize (w8.alloc (.cells #[.int .i64 y'.kind, .int .u8 y'.byte, .int .i64 y'.rows, .int .i64 y'.cols] 30)) = w9 at *
                generalize w8.heap.size = bz at *
                obtain ⟨x0, x1, x2, x3, _, _, _, _⟩ := bx4.four
                obtain ⟨ad, rfl, d0, d1, d2, d3⟩ := Evs.get hE10.any hy
                clear hy
                go_quiet (fail)
                go_wp2
                go_roundg (n6 - (i + 1))
                case measure => omega
                case rel => exact ⟨i + 1, r', by omega, by go_num, hl10.kp ((Kp.refl _).drewN _), hr10.kp ((Kp.refl _).drewN _), k12.drewN _, hE10.kp ((Kp.refl _).drewN _), hh9⟩
              · have hq0 : q' = [] := by
                  have h1 : L.drop i = [] := List.drop_eq_nil_of_le (by rw [HLL.out]; omega)
                  have h2 := hh8.out.1
                  rw [h1] at h2
                  have h3 := tell_len hh8.out.2.1
                  rw [← h2] at h3
                  exact List.eq_nil_of_length_eq_zero h3.symm
                subst hq0
                clear hh8 hq'l hE
                go_wp2_with fail
                refine (refNext_any base b room [] wr hr8 (by simp)).mono ?_
                rintro e w8 ⟨rfl, hr9, f9⟩
                have hl9 := HW.out.lb hl8 (f9.weak fun k h => .inl h)
                have k11 := Fr.kp k10 (f9.weak (Y := Rw base b) fun k h => .inl h) HW.out.r
                clear hl8 hr8 k10 f9 hr9
                rw [nextM_nil]
                unfold ansM Ev.zero Ev.v
                have ka := (Kp.refl w8).alloc (.cells #[.int .i64 0, .int .u8 0, .int .i64 0, .int .i64 0] 30)
                have hl10 := hl9.kp ka
                have k12 := k11.trans ka
                clear hl9 k11 ka
                go_upto_region 23 with fail
                generalize (w8.alloc (.cells #[.int .i64 0, .int .u8 0, .int .i64 0, .int .i64 0] 30)) = w9 at *
                go_wp2_with fail
                refine (len_any p cb ct cs room [] w9 hl10).mono ?_
                rintro e w10 ⟨rfl, k13⟩
                have z1 : (((ofK 1 []).length : Nat) : Int) = 0 := rfl
                have z2 : (((ofK 2 []).length : Nat) : Int) = 0 := rfl
                have z3 : (((ofK 3 []).length : Nat) : Int) = 0 := rfl
                rw [z1, z2, z3]
                clear z1 z2 z3
                have EQ0 := EQ3 0 0 0
                go_wp2_with fail
                refine (awake38 w10).mono ?_
                rintro e w11 ⟨rfl, k14⟩
                go_wp2_with fail
                go_ret
                exact ⟨rfl, (k12.trans k13).trans k14⟩
/-- As the frame asks it. -/
theorem loopAll_walk {w0 : World} (A : Option Addr) (n c : Nat) (ds : List Ev) (hD : Evs w0 A n c ds) (_ : True) (most : Int) (_ : (Lit.int .i64 most).wf = true) (w : World) (hw : w = w0 := by rfl) :
    Calls Try.prog 4 #[.slice A n c, .int .i64 most] w fun e w' => e = .returned (.bool true) ∧ Kp w w' := by
  subst hw
  exact loopAll_walk' A n c most ds w hD
end Go.Proofs.Ytakbfppmgngdiaa
