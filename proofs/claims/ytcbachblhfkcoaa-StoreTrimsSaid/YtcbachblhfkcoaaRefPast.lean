/-
  typebarref20: Line, Go, Add: what each returns, as plain functions of lists (the newest line first). Conditions: the slices lie in blocks that F lets.
-/
import Derived.Test.YtcbachblhfkcoaaPastGo
import Derived.Test.YtcbachblhfkcoaaOTx
namespace Go.Proofs.Ytcbachblhfkcoaa
open Go.RowKit

def lineR (xs : List (List Int)) (at_ : Int) (st : List Int) (i : Int) (now : List Int) : Option (List Int) :=
  if i < 0 ∨ (xs.length : Int) < i then none else if 0 < i then some (xs[i.toNat - 1]?.getD []) else if at_ = 0 then some now else some st
theorem lineR_rev (L : List (List Int)) (at_ : Int) (st : List Int) (i : Int) (now : List Int) : lineR L.reverse at_ st i now = lineM L at_ st i now := by
  unfold lineR lineM
  rw [List.length_reverse]
  split
  · rfl
  · split
    · rename_i h1 h2
      rw [List.getElem?_reverse (by omega), List.getD_eq_getElem?_getD]
      congr 3
      omega
    · rfl

/-- A line and a truth come back. -/
def RetL (F : Nat → Prop) (o : Option (List Int)) (w : World) (e : Ending) (w' : World) : Prop :=
  ∃ A n c, e = .returned (.tuple #[.slice A n c, .bool o.isSome]) ∧ Ru w' F A n c (o.getD []) ∧ Kp w w'

set_option maxHeartbeats 800000 in
theorem refLine_any (F : Nat → Prop) (A B C : Option Addr) (n c m d k e : Nat) (at_ i : Int) (L : List (List Int)) (st now : List Int) (w : World)
    (hT : Txs w F F A n c L) (hS : Ru w F B m d st) (hN : Ru w F C k e now) :
    Calls Try.prog 46 #[.agg #[.slice A n c, .int .i64 at_, .slice B m d], .int .i64 i, .slice C k e] w (RetL F (lineR L at_ st i now) w) := by
  have hcl := hT.cap
  have hle := hT.le
  unfold maxLen at hcl
  by_cases h1 : i < 0
  · have HE : Hid (lineR L at_ st i now = none) := by show _ = _; simp [lineR, h1]
    go_enter Try.func46, Try.ntmps46
    go_wp2
    go_ret2
    rw [HE.out]
    exact ⟨none, 0, 0, rfl, Ru.nil _ _, (Kp.refl _).alloc _⟩
  · obtain ⟨j, rfl⟩ := Int.eq_ofNat_of_zero_le (Int.not_lt.1 h1)
    by_cases h2 : n < j
    · have HE : Hid (lineR L at_ st j now = none) := by show _ = _; have := hT.len; simp [lineR]; omega
      go_enter Try.func46, Try.ntmps46
      go_wp2
      go_ret2
      rw [HE.out]
      exact ⟨none, 0, 0, rfl, Ru.nil _ _, (Kp.refl _).alloc _⟩
    · by_cases h3 : 0 < j
      · obtain ⟨q, rfl⟩ : ∃ q, j = q + 1 := ⟨j - 1, by omega⟩
        have HE : Hid (lineR L at_ st ((q : Int) + 1) now = some (L[q]?.getD [])) := by
          show _ = _
          have := hT.len
          rw [lineR, if_neg (by omega), if_pos (by omega)]
          simp
        obtain ⟨ad, B', m', d', rfl, hc, hr⟩ := hT.get (k := q) (by omega)
        generalize L[q]?.getD [] = x at *
        have hc' : ∀ o : Obj, (w.alloc o).cell? (ad.add q) = some (.slice B' m' d') := fun o => by
          rw [World.cell?_alloc_lt _ _ _ (World.block_lt_of_cell? w _ hc)]
          exact hc
        go_enter Try.func46, Try.ntmps46
        go_wp2_with fail
        go_ret2
        rw [HE.out]
        exact ⟨B', m', d', rfl, hr.kp ((Kp.refl w).alloc _), (Kp.refl w).alloc _⟩
      · obtain rfl : j = 0 := by omega
        by_cases h4 : at_ = 0
        · have HE : Hid (lineR L at_ st (0 : Int) now = some now) := by show _ = _; have := hT.len; rw [lineR, if_neg (by omega), if_neg (by omega), if_pos h4]
          have hb : (at_ == 0) = true := by simpa using h4
          clear h4
          go_enter Try.func46, Try.ntmps46
          go_wp2_with fail
          go_ret2
          rw [HE.out]
          exact ⟨C, k, e, rfl, hN.kp ((Kp.refl w).alloc _), (Kp.refl w).alloc _⟩
        · have HE : Hid (lineR L at_ st (0 : Int) now = some st) := by show _ = _; have := hT.len; rw [lineR, if_neg (by omega), if_neg (by omega), if_neg h4]
          have hb : (at_ == 0) = false := by simpa using h4
          clear h4
          go_enter Try.func46, Try.ntmps46
          go_wp2_with fail
          go_ret2
          rw [HE.out]
          exact ⟨B, m, d, rfl, hS.kp ((Kp.refl w).alloc _), (Kp.refl w).alloc _⟩

theorem Sl.via {w w1 wf : World} {F : Nat → Prop} {size n c : Nat} {A : Option Addr} {vs : List Value} (h : Sl w1 (fun k => F k ∧ k < w.heap.size) size A n c vs) (k1 : Kp w w1) (kf : Kp w wf) (hs : w1.heap.size ≤ wf.heap.size) : Sl wf F size A n c vs :=
  Sl.weak (Sl.frame h hs fun k hF _ => (kf.block k hF.2).trans (k1.block k hF.2).symm) fun _ _ h => h.1
theorem Sl.low {w : World} {F : Nat → Prop} {size n c : Nat} {A : Option Addr} {vs : List Value} (h : Sl w F size A n c vs) : Sl w (fun k => F k ∧ k < w.heap.size) size A n c vs := h.weak fun _ hk hF => ⟨hF, hk⟩
theorem Txs.low {w : World} {F G : Nat → Prop} {n c : Nat} {A : Option Addr} {L : List (List Int)} (h : Txs w F G A n c L) : Txs w (fun k => F k ∧ k < w.heap.size) (fun k => G k ∧ k < w.heap.size) A n c L := h.weak (fun _ hk hF => ⟨hF, hk⟩) (fun _ hk hF => ⟨hF, hk⟩)


set_option maxHeartbeats 1600000 in
theorem refGo_none (F : Nat → Prop) (A B C : Option Addr) (n c m d k e : Nat) (at_ i : Int) (L : List (List Int)) (st now : List Int) (w : World)
    (hT : Txs w F F A n c L) (hS : Ru w F B m d st) (hN : Ru w F C k e now) (ho : lineR L at_ st i now = none) :
    Calls Try.prog 22 #[.agg #[.slice A n c, .int .i64 at_, .slice B m d], .int .i64 i, .slice C k e] w (RetGo F L at_ st none w) := by
  have HO := Lib.hid ho
  clear ho
  go_enter Try.func22, Try.ntmps22
  go_wp2_with fail
  have KP : Kp w ((w.alloc (.cells #[.slice A n c, .int .i64 at_, .slice B m d] 37)).alloc (.cells #[.slice none 0 0, .int .i64 0, .slice none 0 0] 37)) := ((Kp.refl _).alloc _).alloc _
  refine (refLine_any _ A B C n c m d k e at_ i L st now _ (hT.kp KP) (hS.kp KP) (hN.kp KP)).mono ?_
  rintro e w1 ⟨A1, n1, c1, rfl, hr1, hk1⟩
  rw [HO.out] at hr1 ⊢
  have bp := ((Bx.new w #[.slice A n c, .int .i64 at_, .slice B m d] 37).alloc (.cells #[.slice none 0 0, .int .i64 0, .slice none 0 0] 37)).kp hk1
  have br := (Bx.new (w.alloc (.cells #[.slice A n c, .int .i64 at_, .slice B m d] 37)) #[.slice none 0 0, .int .i64 0, .slice none 0 0] 37).kp hk1
  rw [World.size_alloc] at br
  have KP1 := KP.trans hk1
  obtain ⟨p0, p1, p2, q0, q1, q2⟩ := bp.three
  obtain ⟨s0, s1, s2, t0, t1, t2⟩ := br.three
  clear hr1 hk1
  go_wp2_with fail
  refine bodyPost_ret (v := .tuple #[.agg #[.slice A n c, .int .i64 at_, .slice B m d], .slice none 0 0, .bool false]) (by simp [results, Try.results22, go_sem, s0, s1, s2]) rfl ?_
  have KF := (((KP1.setCell (p := ⟨w.heap.size + 1, 0, none⟩) (by simp) (.slice A n c)).setCell (p := ⟨w.heap.size + 1, 1, none⟩) (by simp) (.int .i64 at_)).setCell (p := ⟨w.heap.size + 1, 2, none⟩) (by simp) (.slice B m d))
  exact ⟨A, n, c, B, m, d, none, 0, 0, rfl, hT.kp KF, hS.kp KF, Ru.nil _ _, KF⟩

set_option maxHeartbeats 1600000 in
theorem refGo_00 (F : Nat → Prop) (A B C : Option Addr) (n c m d k e : Nat) (at_ i : Int) (L : List (List Int)) (st now : List Int) (w : World)
    (hT : Txs w F F A n c L) (hS : Ru w F B m d st) (hN : Ru w F C k e now) (ha : (at_ == 0) = true) (hi : (i == 0) = true) (s : List Int) (ho : lineR L at_ st i now = some s) :
    Calls Try.prog 22 #[.agg #[.slice A n c, .int .i64 at_, .slice B m d], .int .i64 i, .slice C k e] w (RetGo F L i [] (some s) w) := by
  have HO := Lib.hid ho
  clear ho
  go_enter Try.func22, Try.ntmps22
  go_wp2_with fail
  have KP : Kp w ((w.alloc (.cells #[.slice A n c, .int .i64 at_, .slice B m d] 37)).alloc (.cells #[.slice none 0 0, .int .i64 0, .slice none 0 0] 37)) := ((Kp.refl _).alloc _).alloc _
  refine (refLine_any _ A B C n c m d k e at_ i L st now _ (hT.low.kp KP) (Sl.low hS |>.kp KP) (Sl.low hN |>.kp KP)).mono ?_
  rintro e w1 ⟨A1, n1, c1, rfl, hr1, hk1⟩
  rw [HO.out] at hr1 ⊢
  have bp := ((Bx.new w #[.slice A n c, .int .i64 at_, .slice B m d] 37).alloc (.cells #[.slice none 0 0, .int .i64 0, .slice none 0 0] 37)).kp hk1
  have br := (Bx.new (w.alloc (.cells #[.slice A n c, .int .i64 at_, .slice B m d] 37)) #[.slice none 0 0, .int .i64 0, .slice none 0 0] 37).kp hk1
  rw [World.size_alloc] at br
  have KP1 := KP.trans hk1
  have z1 := br.lt
  have p1' : ∀ o, (w1.alloc o).cell? ⟨w.heap.size, 1, none⟩ = some (.int .i64 at_) := fun o => (bp.alloc o).cell 1
  have s0' : ∀ o, (w1.alloc o).cell? ⟨w.heap.size + 1, 0, none⟩ = some (.slice none 0 0) := fun o => (br.alloc o).cell 0
  have s1' : ∀ o, (w1.alloc o).cell? ⟨w.heap.size + 1, 1, none⟩ = some (.int .i64 0) := fun o => (br.alloc o).cell 1
  have s2' : ∀ o, (w1.alloc o).cell? ⟨w.heap.size + 1, 2, none⟩ = some (.slice none 0 0) := fun o => (br.alloc o).cell 2
  have t0' : ∀ o, (w1.alloc o).frozen? ⟨w.heap.size + 1, 0, none⟩ = false := fun o => (br.alloc o).frozen 0
  have t1' : ∀ o, (w1.alloc o).frozen? ⟨w.heap.size + 1, 1, none⟩ = false := fun o => (br.alloc o).frozen 1
  have t2' : ∀ o, (w1.alloc o).frozen? ⟨w.heap.size + 1, 2, none⟩ = false := fun o => (br.alloc o).frozen 2
  obtain ⟨p0, p1, p2, q0, q1, q2⟩ := bp.three
  obtain ⟨s0, s1, s2, t0, t1, t2⟩ := br.three
  clear hk1 bp
  go_wp2_with fail
  refine bodyPost_ret (v := .tuple #[.agg #[.slice A n c, .int .i64 i, .slice none 0 0], .slice A1 n1 c1, .bool true]) (by simp [results, Try.results22, go_sem, s0, s1, s2, z1]) rfl ?_
  refine ⟨A, n, c, _, _, _, A1, n1, c1, rfl, ?_⟩
  refine (fun KF : Kp w _ => ⟨hT.kp KF, Ru.nil _ _, Sl.via hr1 KP1 KF (by simp [World.setCell]), KF⟩) ?_
  repeat (first | exact KP1 | (refine Kp.setCell ?_ (by simp; try omega) _) | (refine Kp.alloc ?_ _))

set_option maxHeartbeats 1600000 in
theorem refGo_01 (F : Nat → Prop) (A B C : Option Addr) (n c m d k e : Nat) (at_ i : Int) (L : List (List Int)) (st now : List Int) (w : World)
    (hT : Txs w F F A n c L) (hS : Ru w F B m d st) (hN : Ru w F C k e now) (ha : (at_ == 0) = true) (hi : (i == 0) = false) (s : List Int) (ho : lineR L at_ st i now = some s) :
    Calls Try.prog 22 #[.agg #[.slice A n c, .int .i64 at_, .slice B m d], .int .i64 i, .slice C k e] w (RetGo F L i now (some s) w) := by
  have HO := Lib.hid ho
  clear ho
  go_enter Try.func22, Try.ntmps22
  go_wp2_with fail
  have KP : Kp w ((w.alloc (.cells #[.slice A n c, .int .i64 at_, .slice B m d] 37)).alloc (.cells #[.slice none 0 0, .int .i64 0, .slice none 0 0] 37)) := ((Kp.refl _).alloc _).alloc _
  refine (refLine_any _ A B C n c m d k e at_ i L st now _ (hT.low.kp KP) (Sl.low hS |>.kp KP) (Sl.low hN |>.kp KP)).mono ?_
  rintro e w1 ⟨A1, n1, c1, rfl, hr1, hk1⟩
  rw [HO.out] at hr1 ⊢
  have bp := ((Bx.new w #[.slice A n c, .int .i64 at_, .slice B m d] 37).alloc (.cells #[.slice none 0 0, .int .i64 0, .slice none 0 0] 37)).kp hk1
  have br := (Bx.new (w.alloc (.cells #[.slice A n c, .int .i64 at_, .slice B m d] 37)) #[.slice none 0 0, .int .i64 0, .slice none 0 0] 37).kp hk1
  rw [World.size_alloc] at br
  have KP1 := KP.trans hk1
  have z1 := br.lt
  have p1' : ∀ o, (w1.alloc o).cell? ⟨w.heap.size, 1, none⟩ = some (.int .i64 at_) := fun o => (bp.alloc o).cell 1
  have s0' : ∀ o, (w1.alloc o).cell? ⟨w.heap.size + 1, 0, none⟩ = some (.slice none 0 0) := fun o => (br.alloc o).cell 0
  have s1' : ∀ o, (w1.alloc o).cell? ⟨w.heap.size + 1, 1, none⟩ = some (.int .i64 0) := fun o => (br.alloc o).cell 1
  have s2' : ∀ o, (w1.alloc o).cell? ⟨w.heap.size + 1, 2, none⟩ = some (.slice none 0 0) := fun o => (br.alloc o).cell 2
  have t0' : ∀ o, (w1.alloc o).frozen? ⟨w.heap.size + 1, 0, none⟩ = false := fun o => (br.alloc o).frozen 0
  have t1' : ∀ o, (w1.alloc o).frozen? ⟨w.heap.size + 1, 1, none⟩ = false := fun o => (br.alloc o).frozen 1
  have t2' : ∀ o, (w1.alloc o).frozen? ⟨w.heap.size + 1, 2, none⟩ = false := fun o => (br.alloc o).frozen 2
  obtain ⟨p0, p1, p2, q0, q1, q2⟩ := bp.three
  obtain ⟨s0, s1, s2, t0, t1, t2⟩ := br.three
  clear hk1 bp
  go_wp2_with fail
  refine bodyPost_ret (v := .tuple #[.agg #[.slice A n c, .int .i64 i, .slice C k e], .slice A1 n1 c1, .bool true]) (by simp [results, Try.results22, go_sem, s0, s1, s2, z1]) rfl ?_
  refine ⟨A, n, c, _, _, _, A1, n1, c1, rfl, ?_⟩
  refine (fun KF : Kp w _ => ⟨hT.kp KF, hN.kp KF, Sl.via hr1 KP1 KF (by simp [World.setCell]), KF⟩) ?_
  repeat (first | exact KP1 | (refine Kp.setCell ?_ (by simp; try omega) _) | (refine Kp.alloc ?_ _))

set_option maxHeartbeats 1600000 in
theorem refGo_10 (F : Nat → Prop) (A B C : Option Addr) (n c m d k e : Nat) (at_ i : Int) (L : List (List Int)) (st now : List Int) (w : World)
    (hT : Txs w F F A n c L) (hS : Ru w F B m d st) (hN : Ru w F C k e now) (ha : (at_ == 0) = false) (hi : (i == 0) = true) (s : List Int) (ho : lineR L at_ st i now = some s) :
    Calls Try.prog 22 #[.agg #[.slice A n c, .int .i64 at_, .slice B m d], .int .i64 i, .slice C k e] w (RetGo F L i [] (some s) w) := by
  have HO := Lib.hid ho
  clear ho
  go_enter Try.func22, Try.ntmps22
  go_wp2_with fail
  have KP : Kp w ((w.alloc (.cells #[.slice A n c, .int .i64 at_, .slice B m d] 37)).alloc (.cells #[.slice none 0 0, .int .i64 0, .slice none 0 0] 37)) := ((Kp.refl _).alloc _).alloc _
  refine (refLine_any _ A B C n c m d k e at_ i L st now _ (hT.low.kp KP) (Sl.low hS |>.kp KP) (Sl.low hN |>.kp KP)).mono ?_
  rintro e w1 ⟨A1, n1, c1, rfl, hr1, hk1⟩
  rw [HO.out] at hr1 ⊢
  have bp := ((Bx.new w #[.slice A n c, .int .i64 at_, .slice B m d] 37).alloc (.cells #[.slice none 0 0, .int .i64 0, .slice none 0 0] 37)).kp hk1
  have br := (Bx.new (w.alloc (.cells #[.slice A n c, .int .i64 at_, .slice B m d] 37)) #[.slice none 0 0, .int .i64 0, .slice none 0 0] 37).kp hk1
  rw [World.size_alloc] at br
  have KP1 := KP.trans hk1
  have z1 := br.lt
  have p1' : ∀ o, (w1.alloc o).cell? ⟨w.heap.size, 1, none⟩ = some (.int .i64 at_) := fun o => (bp.alloc o).cell 1
  have s0' : ∀ o, (w1.alloc o).cell? ⟨w.heap.size + 1, 0, none⟩ = some (.slice none 0 0) := fun o => (br.alloc o).cell 0
  have s1' : ∀ o, (w1.alloc o).cell? ⟨w.heap.size + 1, 1, none⟩ = some (.int .i64 0) := fun o => (br.alloc o).cell 1
  have s2' : ∀ o, (w1.alloc o).cell? ⟨w.heap.size + 1, 2, none⟩ = some (.slice none 0 0) := fun o => (br.alloc o).cell 2
  have t0' : ∀ o, (w1.alloc o).frozen? ⟨w.heap.size + 1, 0, none⟩ = false := fun o => (br.alloc o).frozen 0
  have t1' : ∀ o, (w1.alloc o).frozen? ⟨w.heap.size + 1, 1, none⟩ = false := fun o => (br.alloc o).frozen 1
  have t2' : ∀ o, (w1.alloc o).frozen? ⟨w.heap.size + 1, 2, none⟩ = false := fun o => (br.alloc o).frozen 2
  obtain ⟨p0, p1, p2, q0, q1, q2⟩ := bp.three
  obtain ⟨s0, s1, s2, t0, t1, t2⟩ := br.three
  clear hk1 bp
  go_wp2_with fail
  refine bodyPost_ret (v := .tuple #[.agg #[.slice A n c, .int .i64 i, .slice none 0 0], .slice A1 n1 c1, .bool true]) (by simp [results, Try.results22, go_sem, s0, s1, s2, z1]) rfl ?_
  refine ⟨A, n, c, _, _, _, A1, n1, c1, rfl, ?_⟩
  refine (fun KF : Kp w _ => ⟨hT.kp KF, Ru.nil _ _, Sl.via hr1 KP1 KF (by simp [World.setCell]), KF⟩) ?_
  repeat (first | exact KP1 | (refine Kp.setCell ?_ (by simp; try omega) _) | (refine Kp.alloc ?_ _))

set_option maxHeartbeats 1600000 in
theorem refGo_11 (F : Nat → Prop) (A B C : Option Addr) (n c m d k e : Nat) (at_ i : Int) (L : List (List Int)) (st now : List Int) (w : World)
    (hT : Txs w F F A n c L) (hS : Ru w F B m d st) (hN : Ru w F C k e now) (ha : (at_ == 0) = false) (hi : (i == 0) = false) (s : List Int) (ho : lineR L at_ st i now = some s) :
    Calls Try.prog 22 #[.agg #[.slice A n c, .int .i64 at_, .slice B m d], .int .i64 i, .slice C k e] w (RetGo F L i st (some s) w) := by
  have HO := Lib.hid ho
  clear ho
  go_enter Try.func22, Try.ntmps22
  go_wp2_with fail
  have KP : Kp w ((w.alloc (.cells #[.slice A n c, .int .i64 at_, .slice B m d] 37)).alloc (.cells #[.slice none 0 0, .int .i64 0, .slice none 0 0] 37)) := ((Kp.refl _).alloc _).alloc _
  refine (refLine_any _ A B C n c m d k e at_ i L st now _ (hT.low.kp KP) (Sl.low hS |>.kp KP) (Sl.low hN |>.kp KP)).mono ?_
  rintro e w1 ⟨A1, n1, c1, rfl, hr1, hk1⟩
  rw [HO.out] at hr1 ⊢
  have bp := ((Bx.new w #[.slice A n c, .int .i64 at_, .slice B m d] 37).alloc (.cells #[.slice none 0 0, .int .i64 0, .slice none 0 0] 37)).kp hk1
  have br := (Bx.new (w.alloc (.cells #[.slice A n c, .int .i64 at_, .slice B m d] 37)) #[.slice none 0 0, .int .i64 0, .slice none 0 0] 37).kp hk1
  rw [World.size_alloc] at br
  have KP1 := KP.trans hk1
  have z1 := br.lt
  have p1' : ∀ o, (w1.alloc o).cell? ⟨w.heap.size, 1, none⟩ = some (.int .i64 at_) := fun o => (bp.alloc o).cell 1
  have s0' : ∀ o, (w1.alloc o).cell? ⟨w.heap.size + 1, 0, none⟩ = some (.slice none 0 0) := fun o => (br.alloc o).cell 0
  have s1' : ∀ o, (w1.alloc o).cell? ⟨w.heap.size + 1, 1, none⟩ = some (.int .i64 0) := fun o => (br.alloc o).cell 1
  have s2' : ∀ o, (w1.alloc o).cell? ⟨w.heap.size + 1, 2, none⟩ = some (.slice none 0 0) := fun o => (br.alloc o).cell 2
  have t0' : ∀ o, (w1.alloc o).frozen? ⟨w.heap.size + 1, 0, none⟩ = false := fun o => (br.alloc o).frozen 0
  have t1' : ∀ o, (w1.alloc o).frozen? ⟨w.heap.size + 1, 1, none⟩ = false := fun o => (br.alloc o).frozen 1
  have t2' : ∀ o, (w1.alloc o).frozen? ⟨w.heap.size + 1, 2, none⟩ = false := fun o => (br.alloc o).frozen 2
  obtain ⟨p0, p1, p2, q0, q1, q2⟩ := bp.three
  obtain ⟨s0, s1, s2, t0, t1, t2⟩ := br.three
  clear hk1 bp
  go_wp2_with fail
  refine bodyPost_ret (v := .tuple #[.agg #[.slice A n c, .int .i64 i, .slice B m d], .slice A1 n1 c1, .bool true]) (by simp [results, Try.results22, go_sem, s0, s1, s2, z1]) rfl ?_
  refine ⟨A, n, c, _, _, _, A1, n1, c1, rfl, ?_⟩
  refine (fun KF : Kp w _ => ⟨hT.kp KF, hS.kp KF, Sl.via hr1 KP1 KF (by simp [World.setCell]), KF⟩) ?_
  repeat (first | exact KP1 | (refine Kp.setCell ?_ (by simp; try omega) _) | (refine Kp.alloc ?_ _))
end Go.Proofs.Ytcbachblhfkcoaa
