/-
  typebarref38: Put, Next: what each answers and leaves, in terms of the events that wait. Conditions: the box is in memory, its row is the call's own.
-/
import Derived.Test.YtakbfppmgngdiaaRefBox
namespace Go.Proofs.Ytakbfppmgngdiaa
open Go.RowKit

/-- The document's box in memory: b its block, its row from block base on. -/
def RB (w : World) (base b room : Nat) (q : List Ev) : Prop :=
  b < base ∧ base ≤ w.heap.size ∧ ∃ A n c, Bx w b #[.int .i64 room, .slice A n c] 28 ∧ Own w base 30 4 A n c (evCells q)
theorem RB.kp {w w' : World} {base b room : Nat} {q : List Ev} (h : RB w base b room q) (k : Kp w w') : RB w' base b room q := by
  obtain ⟨h1, h2, A, n, c, hb, ho⟩ := h
  exact ⟨h1, Nat.le_trans h2 k.size, A, n, c, hb.kp k, ho.kp k⟩
theorem RB.fr {X : Nat → Prop} {w w' : World} {base b room : Nat} {q : List Ev} (h : RB w base b room q) (k : Fr X w w') (hb : ¬ X b) (hX : ∀ i, base ≤ i → ¬ X i) : RB w' base b room q := by
  obtain ⟨h1, h2, A, n, c, hbx, ho⟩ := h
  exact ⟨h1, Nat.le_trans h2 k.size, A, n, c, hbx.fr k hb, ho.fr k fun i hi => hX i (ho.lt i hi).1⟩
theorem Own.evs {w : World} {base : Nat} {e : TypeId} {A : Option Addr} {n c : Nat} {q : List Ev} (h : Own w base e 4 A n c (evCells q)) : Evs w A n c q := h.sl.any
/-- What the document's box may turn: itself, and its row. -/
def Rw (base b k : Nat) : Prop := k = b ∨ base ≤ k

theorem Bx.two {w : World} {b : Nat} {t : TypeId} {x y : Value} (h : Bx w b #[x, y] t) : w.cell? ⟨b, 0, none⟩ = some x ∧ w.cell? ⟨b, 1, none⟩ = some y ∧ w.frozen? ⟨b, 0, none⟩ = false ∧ w.frozen? ⟨b, 1, none⟩ = false :=
  ⟨h.cell 0, h.cell 1, h.frozen 0, h.frozen 1⟩
theorem Bx.four {w : World} {b : Nat} {t : TypeId} {x y z u : Value} (h : Bx w b #[x, y, z, u] t) : w.cell? ⟨b, 0, none⟩ = some x ∧ w.cell? ⟨b, 1, none⟩ = some y ∧ w.cell? ⟨b, 2, none⟩ = some z ∧ w.cell? ⟨b, 3, none⟩ = some u ∧
    w.frozen? ⟨b, 0, none⟩ = false ∧ w.frozen? ⟨b, 1, none⟩ = false ∧ w.frozen? ⟨b, 2, none⟩ = false ∧ w.frozen? ⟨b, 3, none⟩ = false :=
  ⟨h.cell 0, h.cell 1, h.cell 2, h.cell 3, h.frozen 0, h.frozen 1, h.frozen 2, h.frozen 3⟩

theorem Fr.grown {X : Nat → Prop} {w w' w'' : World} {row : Option Nat} (h : Fr X w w') (hg : w'.grownBy w'' row) (hr : ∀ k, row = some k → X k ∨ w.heap.size ≤ k) : Fr X w w'' :=
  ⟨hg.os.trans h.1, hg.tape.trans h.2.1, hg.output.trans h.2.2.1, Nat.le_trans h.size hg.size, fun k hk hX =>
    (hg.block k (Nat.lt_of_lt_of_le hk h.size) (fun e => by rcases hr k e.symm with h1 | h1; exact hX h1; omega)).trans (h.2.2.2.2 k hk hX)⟩

set_option maxRecDepth 100000 in
set_option maxHeartbeats 1600000 in
theorem refPut_low (base b room : Nat) (q : List Ev) (x : Ev) (w : World) (kind : Int) (hkind : x.kind = kind) (h : RB w base b room q) (_hroom : room ≤ 65536) (hlen : q.length ≤ 1000) (h1 : kind < 1) : Calls Try.prog 19 #[.pointer (some ⟨b, 0, none⟩), .agg #[.int .i64 kind, .int .u8 x.byte, .int .i64 x.rows, .int .i64 x.cols]] w fun e w' => e = .returned (.bool false) ∧ Kp w w' := by
  subst hkind
  generalize hkk : x.kind = kind at *
  obtain ⟨hb0, hbs, A, n, c, hbx, ho⟩ := h
  have hcn : (ofK kind q).length ≤ 1000 := Nat.le_trans (ofK_len_le _ _) hlen
  have hnl : n ≤ 1000 := by rw [← ho.evs.len]; exact hlen
  have ka := (Kp.refl w).alloc (.cells #[.int .i64 kind, .int .u8 x.byte, .int .i64 x.rows, .int .i64 x.cols] 30)
  have hx := Bx.new w #[.int .i64 kind, .int .u8 x.byte, .int .i64 x.rows, .int .i64 x.cols] 30
  have hb1 := hbx.kp ka
  have ho1 := ho.kp ka
  have hl1 := hb1.lt
  obtain ⟨x0, x1, x2, x3, x4, x5, x6, x7⟩ := hx.four
  obtain ⟨b0, b1, b2, b3⟩ := hb1.two
  clear hkk
  have e1 : decide (kind < 1) = true := by simp; omega
  go_enter Try.func19, Try.ntmps19
  go_wp2_with fail
  go_quiet ((go_at_call 54; refine Calls.quiet_of_same (count_any b room kind A n c q _ (hb1.drewN _) (Sl.drewN ho1.evs _))))
  go_wp2_with fail
  go_ret
  exact ⟨rfl, (ka.drewN _)⟩

set_option maxRecDepth 100000 in
set_option maxHeartbeats 1600000 in
theorem refPut_high (base b room : Nat) (q : List Ev) (x : Ev) (w : World) (kind : Int) (hkind : x.kind = kind) (h : RB w base b room q) (_hroom : room ≤ 65536) (hlen : q.length ≤ 1000) (h1 : 3 < kind) : Calls Try.prog 19 #[.pointer (some ⟨b, 0, none⟩), .agg #[.int .i64 kind, .int .u8 x.byte, .int .i64 x.rows, .int .i64 x.cols]] w fun e w' => e = .returned (.bool false) ∧ Kp w w' := by
  subst hkind
  generalize hkk : x.kind = kind at *
  obtain ⟨hb0, hbs, A, n, c, hbx, ho⟩ := h
  have hcn : (ofK kind q).length ≤ 1000 := Nat.le_trans (ofK_len_le _ _) hlen
  have hnl : n ≤ 1000 := by rw [← ho.evs.len]; exact hlen
  have ka := (Kp.refl w).alloc (.cells #[.int .i64 kind, .int .u8 x.byte, .int .i64 x.rows, .int .i64 x.cols] 30)
  have hx := Bx.new w #[.int .i64 kind, .int .u8 x.byte, .int .i64 x.rows, .int .i64 x.cols] 30
  have hb1 := hbx.kp ka
  have ho1 := ho.kp ka
  have hl1 := hb1.lt
  obtain ⟨x0, x1, x2, x3, x4, x5, x6, x7⟩ := hx.four
  obtain ⟨b0, b1, b2, b3⟩ := hb1.two
  clear hkk
  have e1 : decide (kind < 1) = false := by simp; omega
  have e2 : decide (3 < kind) = true := by simp; omega
  go_enter Try.func19, Try.ntmps19
  go_wp2_with fail
  go_quiet ((go_at_call 54; refine Calls.quiet_of_same (count_any b room kind A n c q _ (hb1.drewN _) (Sl.drewN ho1.evs _))))
  go_wp2_with fail
  go_ret
  exact ⟨rfl, (ka.drewN _)⟩

set_option maxRecDepth 100000 in
set_option maxHeartbeats 1600000 in
theorem refPut_full (base b room : Nat) (q : List Ev) (x : Ev) (w : World) (kind : Int) (hkind : x.kind = kind) (h : RB w base b room q) (_hroom : room ≤ 65536) (hlen : q.length ≤ 1000) (h0 : 1 ≤ kind) (h3 : kind ≤ 3) (h1 : (room : Int) ≤ (ofK kind q).length) : Calls Try.prog 19 #[.pointer (some ⟨b, 0, none⟩), .agg #[.int .i64 kind, .int .u8 x.byte, .int .i64 x.rows, .int .i64 x.cols]] w fun e w' => e = .returned (.bool false) ∧ Kp w w' := by
  subst hkind
  generalize hkk : x.kind = kind at *
  obtain ⟨hb0, hbs, A, n, c, hbx, ho⟩ := h
  have hcn : (ofK kind q).length ≤ 1000 := Nat.le_trans (ofK_len_le _ _) hlen
  have hnl : n ≤ 1000 := by rw [← ho.evs.len]; exact hlen
  have ka := (Kp.refl w).alloc (.cells #[.int .i64 kind, .int .u8 x.byte, .int .i64 x.rows, .int .i64 x.cols] 30)
  have hx := Bx.new w #[.int .i64 kind, .int .u8 x.byte, .int .i64 x.rows, .int .i64 x.cols] 30
  have hb1 := hbx.kp ka
  have ho1 := ho.kp ka
  have hl1 := hb1.lt
  obtain ⟨x0, x1, x2, x3, x4, x5, x6, x7⟩ := hx.four
  obtain ⟨b0, b1, b2, b3⟩ := hb1.two
  clear hkk
  have e1 : decide (kind < 1) = false := by simp; omega
  have e2 : decide (3 < kind) = false := by simp; omega
  go_enter Try.func19, Try.ntmps19
  go_wp2_with fail
  go_quiet ((go_at_call 54; refine Calls.quiet_of_same (count_any b room kind A n c q _ (hb1.drewN _) (Sl.drewN ho1.evs _))))
  go_wp2_with fail
  go_ret
  exact ⟨rfl, (ka.drewN _)⟩

set_option maxRecDepth 100000 in
set_option maxHeartbeats 3200000 in
theorem refPut_1 (base b room : Nat) (q : List Ev) (x : Ev) (w : World) (h : RB w base b room q) (_hroom : room ≤ 65536) (hlen : q.length ≤ 1000) (hr : (ofK 1 q).length < room) :
    Calls Try.prog 19 #[.pointer (some ⟨b, 0, none⟩), .agg #[.int .i64 1, .int .u8 x.byte, .int .i64 x.rows, .int .i64 x.cols]] w fun e w' => e = .returned (.bool true) ∧ RB w' base b room (q ++ [⟨1, x.byte, 0, 0⟩]) ∧ Fr (Rw base b) w w' := by
  obtain ⟨hb0, hbs, A, n, c, hbx, ho⟩ := h
  have hcn : (ofK 1 q).length ≤ 1000 := Nat.le_trans (ofK_len_le _ _) hlen
  have hnl : n ≤ 1000 := by rw [← ho.evs.len]; exact hlen
  have ka := (Kp.refl w).alloc (.cells #[.int .i64 1, .int .u8 x.byte, .int .i64 x.rows, .int .i64 x.cols] 30)
  have hx := Bx.new w #[.int .i64 1, .int .u8 x.byte, .int .i64 x.rows, .int .i64 x.cols] 30
  have hb1 := hbx.kp ka
  have ho1 := ho.kp ka
  have hl1 := hb1.lt
  obtain ⟨x0, x1, x2, x3, x4, x5, x6, x7⟩ := hx.four
  obtain ⟨b0, b1, b2, b3⟩ := hb1.two
  have hr' : ¬ ((room : Int) ≤ ((ofK 1 q).length : Int)) := by omega
  go_enter Try.func19, Try.ntmps19
  go_wp2_with fail
  go_quiet ((go_at_call 54; refine Calls.quiet_of_same (count_any b room 1 A n c q _ (hb1.drewN _) (Sl.drewN ho1.evs _))))
  have kd := ka.drewN nq
  have hxd := hx.drewN nq
  have hbd := hb1.drewN nq
  have hod := ho1.drewN nq
  generalize hw1 : (w.alloc (.cells #[.int .i64 1, .int .u8 x.byte, .int .i64 x.rows, .int .i64 x.cols] 30)).drewN nq = w1 at *
  have hs1 : w1.heap.size = w.heap.size + 1 := by rw [← hw1]; simp
  clear hw1 x0 x1 x2 x3 x4 x5 x6 x7 b0 b1 b2 b3 hx hb1 ho1 hl1
  have hy : ∀ z1 z2 z3, Bx (w1.alloc (.cells #[.int .i64 1, .int .u8 z1, .int .i64 z2, .int .i64 z3] 30)) w1.heap.size #[.int .i64 1, .int .u8 z1, .int .i64 z2, .int .i64 z3] 30 := fun _ _ _ => Bx.new _ _ _
  obtain ⟨x0, x1, x2, x3, x4, x5, x6, x7⟩ := hxd.four
  have xa : ∀ o, (w1.alloc o).cell? ⟨w.heap.size, 0, none⟩ = some (.int .i64 1) := fun o => (hxd.alloc o).cell 0
  have xb : ∀ o, (w1.alloc o).cell? ⟨w.heap.size, 1, none⟩ = some (.int .u8 x.byte) := fun o => (hxd.alloc o).cell 1
  have xc : ∀ o, (w1.alloc o).cell? ⟨w.heap.size, 2, none⟩ = some (.int .i64 x.rows) := fun o => (hxd.alloc o).cell 2
  have xd : ∀ o, (w1.alloc o).cell? ⟨w.heap.size, 3, none⟩ = some (.int .i64 x.cols) := fun o => (hxd.alloc o).cell 3
  go_upto_region 9 with fail
  have k2 := kd.alloc (.cells #[.int .i64 1, .int .u8 x.byte, .int .i64 0, .int .i64 0] 30)
  have hy2 := Bx.new w1 #[.int .i64 1, .int .u8 x.byte, .int .i64 0, .int .i64 0] 30
  rw [hs1] at hy2
  have hb2 := hbd.alloc (.cells #[.int .i64 1, .int .u8 x.byte, .int .i64 0, .int .i64 0] 30)
  have ho2 := hod.alloc (.cells #[.int .i64 1, .int .u8 x.byte, .int .i64 0, .int .i64 0] 30)
  clear hy xa xb xc xd x0 x1 x2 x3 x4 x5 x6 x7 hxd kd hbd hod
  have hs2 : (w1.alloc (.cells #[.int .i64 1, .int .u8 x.byte, .int .i64 0, .int .i64 0] 30)).heap.size = w.heap.size + 2 := by simp; omega
  generalize (w1.alloc (.cells #[.int .i64 1, .int .u8 x.byte, .int .i64 0, .int .i64 0] 30)) = w2 at *
  obtain ⟨y0, y1, y2, y3, y4, y5, y6, y7⟩ := hy2.four
  obtain ⟨b0, b1, b2, b3⟩ := hb2.two
  have b1' : ∀ o, (w2.alloc o).cell? ⟨b, 1, none⟩ = some (.slice A n c) := fun o => (hb2.alloc o).cell 1
  go_region_law ((refine step_append_sl _ (by rfl) _ _ _ (by rfl) base 30 _ 4 32 Try.underlying26 infoEv rfl (by omega) A n c (evCells q) (by rfl) (Own.alloc (Own.drew ho2) _) Any _ 1 1 (evC ⟨1, x.byte, 0, 0⟩) (by rfl) (Sl.new_ w2.drew #[.int .i64 1, .int .u8 x.byte, .int .i64 0, .int .i64 0] _ 4 1 _ hs2 trivial (by simp) (by omega)) (by simp [evC, Value.oneCell']) (by simp only [maxLen]; omega) (by omega) (by simp; omega) ?_; intro A4 c4 w4 hown4 hg4 hat4; have hrow : ∀ g, rowOf A = some g → base ≤ g := fun g h => (ho2.lt g h).1; have hb4 := ((Bx.drew hb2).alloc (.cells #[.int .i64 1, .int .u8 x.byte, .int .i64 0, .int .i64 0] 30)).grown hg4 (fun h => by have := hrow _ h; omega); obtain ⟨d0, d1, d2, d3⟩ := hb4.two))
  all_goals go_wp2_with fail
  all_goals
    go_ret
    have f4 : Fr (Rw base b) w w4 := Fr.grown ((Kp.drew k2).alloc (.cells #[.int .i64 1, .int .u8 x.byte, .int .i64 0, .int .i64 0] 30)).fr hg4 (fun g h => .inl (.inr (hrow g h)))
    refine ⟨rfl, ⟨hb0, ?_, A4, n + 1, c4, hb4.set 1 _, ?_⟩, f4.setCellX (.inl rfl) _⟩
    · have := f4.size; simp [World.setCell]; omega
    · rw [evCells_append]
      have e1 : evCells [(⟨1, x.byte, 0, 0⟩ : Ev)] = evC ⟨1, x.byte, 0, 0⟩ := by simp [evCells]
      rw [e1]
      exact hown4.setCell (fun e => by have := (hown4.lt _ e).1; simp at this; omega) _

set_option maxRecDepth 100000 in
set_option maxHeartbeats 3200000 in
theorem refPut_2 (base b room : Nat) (q : List Ev) (x : Ev) (w : World) (h : RB w base b room q) (_hroom : room ≤ 65536) (hlen : q.length ≤ 1000) (hr : (ofK 2 q).length < room) :
    Calls Try.prog 19 #[.pointer (some ⟨b, 0, none⟩), .agg #[.int .i64 2, .int .u8 x.byte, .int .i64 x.rows, .int .i64 x.cols]] w fun e w' => e = .returned (.bool true) ∧ RB w' base b room (q ++ [⟨2, 0, 0, 0⟩]) ∧ Fr (Rw base b) w w' := by
  obtain ⟨hb0, hbs, A, n, c, hbx, ho⟩ := h
  have hcn : (ofK 2 q).length ≤ 1000 := Nat.le_trans (ofK_len_le _ _) hlen
  have hnl : n ≤ 1000 := by rw [← ho.evs.len]; exact hlen
  have ka := (Kp.refl w).alloc (.cells #[.int .i64 2, .int .u8 x.byte, .int .i64 x.rows, .int .i64 x.cols] 30)
  have hx := Bx.new w #[.int .i64 2, .int .u8 x.byte, .int .i64 x.rows, .int .i64 x.cols] 30
  have hb1 := hbx.kp ka
  have ho1 := ho.kp ka
  have hl1 := hb1.lt
  obtain ⟨x0, x1, x2, x3, x4, x5, x6, x7⟩ := hx.four
  obtain ⟨b0, b1, b2, b3⟩ := hb1.two
  have hr' : ¬ ((room : Int) ≤ ((ofK 2 q).length : Int)) := by omega
  go_enter Try.func19, Try.ntmps19
  go_wp2_with fail
  go_quiet ((go_at_call 54; refine Calls.quiet_of_same (count_any b room 2 A n c q _ (hb1.drewN _) (Sl.drewN ho1.evs _))))
  have kd := ka.drewN nq
  have hxd := hx.drewN nq
  have hbd := hb1.drewN nq
  have hod := ho1.drewN nq
  generalize hw1 : (w.alloc (.cells #[.int .i64 2, .int .u8 x.byte, .int .i64 x.rows, .int .i64 x.cols] 30)).drewN nq = w1 at *
  have hs1 : w1.heap.size = w.heap.size + 1 := by rw [← hw1]; simp
  clear hw1 x0 x1 x2 x3 x4 x5 x6 x7 b0 b1 b2 b3 hx hb1 ho1 hl1
  have hy : ∀ z1 z2 z3, Bx (w1.alloc (.cells #[.int .i64 2, .int .u8 z1, .int .i64 z2, .int .i64 z3] 30)) w1.heap.size #[.int .i64 2, .int .u8 z1, .int .i64 z2, .int .i64 z3] 30 := fun _ _ _ => Bx.new _ _ _
  obtain ⟨x0, x1, x2, x3, x4, x5, x6, x7⟩ := hxd.four
  have xa : ∀ o, (w1.alloc o).cell? ⟨w.heap.size, 0, none⟩ = some (.int .i64 2) := fun o => (hxd.alloc o).cell 0
  have xb : ∀ o, (w1.alloc o).cell? ⟨w.heap.size, 1, none⟩ = some (.int .u8 x.byte) := fun o => (hxd.alloc o).cell 1
  have xc : ∀ o, (w1.alloc o).cell? ⟨w.heap.size, 2, none⟩ = some (.int .i64 x.rows) := fun o => (hxd.alloc o).cell 2
  have xd : ∀ o, (w1.alloc o).cell? ⟨w.heap.size, 3, none⟩ = some (.int .i64 x.cols) := fun o => (hxd.alloc o).cell 3
  go_upto_region 9 with fail
  have k2 := kd.alloc (.cells #[.int .i64 2, .int .u8 0, .int .i64 0, .int .i64 0] 30)
  have hy2 := Bx.new w1 #[.int .i64 2, .int .u8 0, .int .i64 0, .int .i64 0] 30
  rw [hs1] at hy2
  have hb2 := hbd.alloc (.cells #[.int .i64 2, .int .u8 0, .int .i64 0, .int .i64 0] 30)
  have ho2 := hod.alloc (.cells #[.int .i64 2, .int .u8 0, .int .i64 0, .int .i64 0] 30)
  clear hy xa xb xc xd x0 x1 x2 x3 x4 x5 x6 x7 hxd kd hbd hod
  have hs2 : (w1.alloc (.cells #[.int .i64 2, .int .u8 0, .int .i64 0, .int .i64 0] 30)).heap.size = w.heap.size + 2 := by simp; omega
  generalize (w1.alloc (.cells #[.int .i64 2, .int .u8 0, .int .i64 0, .int .i64 0] 30)) = w2 at *
  obtain ⟨y0, y1, y2, y3, y4, y5, y6, y7⟩ := hy2.four
  obtain ⟨b0, b1, b2, b3⟩ := hb2.two
  have b1' : ∀ o, (w2.alloc o).cell? ⟨b, 1, none⟩ = some (.slice A n c) := fun o => (hb2.alloc o).cell 1
  go_region_law ((refine step_append_sl _ (by rfl) _ _ _ (by rfl) base 30 _ 4 32 Try.underlying26 infoEv rfl (by omega) A n c (evCells q) (by rfl) (Own.alloc (Own.drew ho2) _) Any _ 1 1 (evC ⟨2, 0, 0, 0⟩) (by rfl) (Sl.new_ w2.drew #[.int .i64 2, .int .u8 0, .int .i64 0, .int .i64 0] _ 4 1 _ hs2 trivial (by simp) (by omega)) (by simp [evC, Value.oneCell']) (by simp only [maxLen]; omega) (by omega) (by simp; omega) ?_; intro A4 c4 w4 hown4 hg4 hat4; have hrow : ∀ g, rowOf A = some g → base ≤ g := fun g h => (ho2.lt g h).1; have hb4 := ((Bx.drew hb2).alloc (.cells #[.int .i64 2, .int .u8 0, .int .i64 0, .int .i64 0] 30)).grown hg4 (fun h => by have := hrow _ h; omega); obtain ⟨d0, d1, d2, d3⟩ := hb4.two))
  all_goals go_wp2_with fail
  all_goals
    go_ret
    have f4 : Fr (Rw base b) w w4 := Fr.grown ((Kp.drew k2).alloc (.cells #[.int .i64 2, .int .u8 0, .int .i64 0, .int .i64 0] 30)).fr hg4 (fun g h => .inl (.inr (hrow g h)))
    refine ⟨rfl, ⟨hb0, ?_, A4, n + 1, c4, hb4.set 1 _, ?_⟩, f4.setCellX (.inl rfl) _⟩
    · have := f4.size; simp [World.setCell]; omega
    · rw [evCells_append]
      have e1 : evCells [(⟨2, 0, 0, 0⟩ : Ev)] = evC ⟨2, 0, 0, 0⟩ := by simp [evCells]
      rw [e1]
      exact hown4.setCell (fun e => by have := (hown4.lt _ e).1; simp at this; omega) _

set_option maxRecDepth 100000 in
set_option maxHeartbeats 3200000 in
theorem refPut_3 (base b room : Nat) (q : List Ev) (x : Ev) (w : World) (h : RB w base b room q) (_hroom : room ≤ 65536) (hlen : q.length ≤ 1000) (hr : (ofK 3 q).length < room) :
    Calls Try.prog 19 #[.pointer (some ⟨b, 0, none⟩), .agg #[.int .i64 3, .int .u8 x.byte, .int .i64 x.rows, .int .i64 x.cols]] w fun e w' => e = .returned (.bool true) ∧ RB w' base b room (q ++ [⟨3, 0, x.rows, x.cols⟩]) ∧ Fr (Rw base b) w w' := by
  obtain ⟨hb0, hbs, A, n, c, hbx, ho⟩ := h
  have hcn : (ofK 3 q).length ≤ 1000 := Nat.le_trans (ofK_len_le _ _) hlen
  have hnl : n ≤ 1000 := by rw [← ho.evs.len]; exact hlen
  have ka := (Kp.refl w).alloc (.cells #[.int .i64 3, .int .u8 x.byte, .int .i64 x.rows, .int .i64 x.cols] 30)
  have hx := Bx.new w #[.int .i64 3, .int .u8 x.byte, .int .i64 x.rows, .int .i64 x.cols] 30
  have hb1 := hbx.kp ka
  have ho1 := ho.kp ka
  have hl1 := hb1.lt
  obtain ⟨x0, x1, x2, x3, x4, x5, x6, x7⟩ := hx.four
  obtain ⟨b0, b1, b2, b3⟩ := hb1.two
  have hr' : ¬ ((room : Int) ≤ ((ofK 3 q).length : Int)) := by omega
  go_enter Try.func19, Try.ntmps19
  go_wp2_with fail
  go_quiet ((go_at_call 54; refine Calls.quiet_of_same (count_any b room 3 A n c q _ (hb1.drewN _) (Sl.drewN ho1.evs _))))
  have kd := ka.drewN nq
  have hxd := hx.drewN nq
  have hbd := hb1.drewN nq
  have hod := ho1.drewN nq
  generalize hw1 : (w.alloc (.cells #[.int .i64 3, .int .u8 x.byte, .int .i64 x.rows, .int .i64 x.cols] 30)).drewN nq = w1 at *
  have hs1 : w1.heap.size = w.heap.size + 1 := by rw [← hw1]; simp
  clear hw1 x0 x1 x2 x3 x4 x5 x6 x7 b0 b1 b2 b3 hx hb1 ho1 hl1
  have hy : ∀ z1 z2 z3, Bx (w1.alloc (.cells #[.int .i64 3, .int .u8 z1, .int .i64 z2, .int .i64 z3] 30)) w1.heap.size #[.int .i64 3, .int .u8 z1, .int .i64 z2, .int .i64 z3] 30 := fun _ _ _ => Bx.new _ _ _
  obtain ⟨x0, x1, x2, x3, x4, x5, x6, x7⟩ := hxd.four
  have xa : ∀ o, (w1.alloc o).cell? ⟨w.heap.size, 0, none⟩ = some (.int .i64 3) := fun o => (hxd.alloc o).cell 0
  have xb : ∀ o, (w1.alloc o).cell? ⟨w.heap.size, 1, none⟩ = some (.int .u8 x.byte) := fun o => (hxd.alloc o).cell 1
  have xc : ∀ o, (w1.alloc o).cell? ⟨w.heap.size, 2, none⟩ = some (.int .i64 x.rows) := fun o => (hxd.alloc o).cell 2
  have xd : ∀ o, (w1.alloc o).cell? ⟨w.heap.size, 3, none⟩ = some (.int .i64 x.cols) := fun o => (hxd.alloc o).cell 3
  go_upto_region 9 with fail
  have k2 := kd.alloc (.cells #[.int .i64 3, .int .u8 0, .int .i64 x.rows, .int .i64 x.cols] 30)
  have hy2 := Bx.new w1 #[.int .i64 3, .int .u8 0, .int .i64 x.rows, .int .i64 x.cols] 30
  rw [hs1] at hy2
  have hb2 := hbd.alloc (.cells #[.int .i64 3, .int .u8 0, .int .i64 x.rows, .int .i64 x.cols] 30)
  have ho2 := hod.alloc (.cells #[.int .i64 3, .int .u8 0, .int .i64 x.rows, .int .i64 x.cols] 30)
  clear hy xa xb xc xd x0 x1 x2 x3 x4 x5 x6 x7 hxd kd hbd hod
  have hs2 : (w1.alloc (.cells #[.int .i64 3, .int .u8 0, .int .i64 x.rows, .int .i64 x.cols] 30)).heap.size = w.heap.size + 2 := by simp; omega
  generalize (w1.alloc (.cells #[.int .i64 3, .int .u8 0, .int .i64 x.rows, .int .i64 x.cols] 30)) = w2 at *
  obtain ⟨y0, y1, y2, y3, y4, y5, y6, y7⟩ := hy2.four
  obtain ⟨b0, b1, b2, b3⟩ := hb2.two
  have b1' : ∀ o, (w2.alloc o).cell? ⟨b, 1, none⟩ = some (.slice A n c) := fun o => (hb2.alloc o).cell 1
  go_region_law ((refine step_append_sl _ (by rfl) _ _ _ (by rfl) base 30 _ 4 32 Try.underlying26 infoEv rfl (by omega) A n c (evCells q) (by rfl) (Own.alloc (Own.drew ho2) _) Any _ 1 1 (evC ⟨3, 0, x.rows, x.cols⟩) (by rfl) (Sl.new_ w2.drew #[.int .i64 3, .int .u8 0, .int .i64 x.rows, .int .i64 x.cols] _ 4 1 _ hs2 trivial (by simp) (by omega)) (by simp [evC, Value.oneCell']) (by simp only [maxLen]; omega) (by omega) (by simp; omega) ?_; intro A4 c4 w4 hown4 hg4 hat4; have hrow : ∀ g, rowOf A = some g → base ≤ g := fun g h => (ho2.lt g h).1; have hb4 := ((Bx.drew hb2).alloc (.cells #[.int .i64 3, .int .u8 0, .int .i64 x.rows, .int .i64 x.cols] 30)).grown hg4 (fun h => by have := hrow _ h; omega); obtain ⟨d0, d1, d2, d3⟩ := hb4.two))
  all_goals go_wp2_with fail
  all_goals
    go_ret
    have f4 : Fr (Rw base b) w w4 := Fr.grown ((Kp.drew k2).alloc (.cells #[.int .i64 3, .int .u8 0, .int .i64 x.rows, .int .i64 x.cols] 30)).fr hg4 (fun g h => .inl (.inr (hrow g h)))
    refine ⟨rfl, ⟨hb0, ?_, A4, n + 1, c4, hb4.set 1 _, ?_⟩, f4.setCellX (.inl rfl) _⟩
    · have := f4.size; simp [World.setCell]; omega
    · rw [evCells_append]
      have e1 : evCells [(⟨3, 0, x.rows, x.cols⟩ : Ev)] = evC ⟨3, 0, x.rows, x.cols⟩ := by simp [evCells]
      rw [e1]
      exact hown4.setCell (fun e => by have := (hown4.lt _ e).1; simp at this; omega) _

theorem refPut_any (base b room : Nat) (q : List Ev) (x : Ev) (w : World) (h : RB w base b room q) (hroom : room ≤ 65536) (hlen : q.length ≤ 1000) :
    Calls Try.prog 19 #[.pointer (some ⟨b, 0, none⟩), .agg #[.int .i64 x.kind, .int .u8 x.byte, .int .i64 x.rows, .int .i64 x.cols]] w fun e w' => e = .returned (.bool (putB room q x)) ∧ RB w' base b room (putM room q x) ∧ Fr (Rw base b) w w' := by
  have no : ∀ {e : Ending} {w' : World}, putB room q x = false → (e = .returned (.bool false) ∧ Kp w w') → e = .returned (.bool (putB room q x)) ∧ RB w' base b room (putM room q x) ∧ Fr (Rw base b) w w' := by
    rintro e w' hB ⟨rfl, k⟩
    exact ⟨by rw [hB], by rw [putM, if_neg (by simp [hB])]; exact h.kp k, k.fr⟩
  have yes : ∀ {e : Ending} {w' : World}, putB room q x = true → (e = .returned (.bool true) ∧ RB w' base b room (q ++ [x.norm]) ∧ Fr (Rw base b) w w') → e = .returned (.bool (putB room q x)) ∧ RB w' base b room (putM room q x) ∧ Fr (Rw base b) w w' := by
    rintro e w' hB ⟨rfl, k, f⟩
    exact ⟨by rw [hB], by rw [putM, if_pos hB]; exact k, f⟩
  by_cases h1 : x.kind < 1
  · exact (refPut_low base b room q x w _ rfl h hroom hlen h1).mono fun e w' hh => no (by simp [putB]; omega) hh
  · by_cases h3 : 3 < x.kind
    · exact (refPut_high base b room q x w _ rfl h hroom hlen h3).mono fun e w' hh => no (by simp [putB]; omega) hh
    · by_cases hr : (ofK x.kind q).length < room
      · have hB : putB room q x = true := by simp [putB, hr]; omega
        by_cases e1 : x.kind = 1
        · rw [e1] at hr ⊢
          refine (refPut_1 base b room q x w h hroom hlen hr).mono fun e w' hh => yes hB ?_
          have : x.norm = ⟨1, x.byte, 0, 0⟩ := by simp [Ev.norm, e1]
          rw [this]; exact hh
        · by_cases e2 : x.kind = 2
          · rw [e2] at hr ⊢
            refine (refPut_2 base b room q x w h hroom hlen hr).mono fun e w' hh => yes hB ?_
            have : x.norm = ⟨2, 0, 0, 0⟩ := by simp [Ev.norm, e2]
            rw [this]; exact hh
          · have e3 : x.kind = 3 := by omega
            rw [e3] at hr ⊢
            refine (refPut_3 base b room q x w h hroom hlen hr).mono fun e w' hh => yes hB ?_
            have : x.norm = ⟨3, 0, x.rows, x.cols⟩ := by simp [Ev.norm, e3]
            rw [this]; exact hh
      · exact (refPut_full base b room q x w _ rfl h hroom hlen (by omega) (by omega) (by omega)).mono fun e w' hh => no (by simp [putB]; omega) hh
end Go.Proofs.Ytakbfppmgngdiaa
