/-
  package loop: Next over channels with a buffer, in one goroutine: the four ways. Conditions: the box is in memory.
-/
import Derived.Test.YtakbfppmgngdiaaBoxPut
namespace Go.Proofs.Ytakbfppmgngdiaa
open Go.RowKit Go.Conc

theorem Fr.setCell {X : Nat → Prop} {w w' : World} (h : Fr X w w') {p : Addr} (hp : X p.block ∨ w.heap.size ≤ p.block) (u : Value) : Fr X w (w'.setCell p u) :=
  ⟨h.1, h.2.1, h.2.2.1, by simpa [World.setCell] using h.size, fun k hk hX => (Below.heap_setCell w' p u k (fun e => by rcases hp with hp | hp; exact hX (e ▸ hp); omega)).trans (h.2.2.2.2 k hk hX)⟩
theorem Fr.setCellX {X : Nat → Prop} {w w' : World} (h : Fr X w w') {b i : Nat} (hp : X b) (u : Value) : Fr X w (w'.setCell ⟨b, i, none⟩ u) := h.setCell (.inl hp) u
theorem Fr.setCellN {X : Nat → Prop} {w w' : World} (h : Fr X w w') {b i : Nat} (hp : w.heap.size ≤ b) (u : Value) : Fr X w (w'.setCell ⟨b, i, none⟩ u) := h.setCell (.inr hp) u

set_option maxRecDepth 100000 in
set_option maxHeartbeats 1600000 in
theorem next_s (p cb ct cs room : Nat) (q : List Ev) (w : World) (h : LB w p cb ct cs room q)  (rw_ cl : Int) (rest : List Value) (hv : sBuf q = (.agg #[.int .i64 rw_, .int .i64 cl] :: rest).toArray) :
    Calls Try.prog 16 #[.pointer (some ⟨p, 0, none⟩)] w fun e w' => e = .returned (.tuple #[.agg #[.int .i64 3, .int .u8 0, .int .i64 rw_, .int .i64 cl], .bool true]) ∧ (Fr (fun k => k = cs) w w' ∧ Ch w' cs room rest.toArray) := by
  obtain ⟨ss, rs, hcs⟩ := h.s
  have hls := (h.s).lt
  rw [hv] at hcs
  have hp0 := h.bx.cell 0
  have hp1 := h.bx.cell 1
  have hp2 := h.bx.cell 2
  have hlp := h.bx.lt
  clear h
  refine calls_of_loneTo fun cs' => ?_
  have e : Frame.enter Try.prog 16 #[.pointer (some ⟨p, 0, none⟩)] .normal = (base 16).at ⟨#[.pointer (some ⟨p, 0, none⟩), undef, undef, undef, undef, undef, undef, undef, undef, undef, undef, undef, undef, undef, undef, undef, undef, undef, undef, undef, undef, undef, undef, undef, undef, undef, undef, undef, undef, undef, undef, undef, undef, undef, undef, undef, undef, undef, undef, undef, undef], []⟩ [.code (Try.f16.body.getD .skip)] := by
    simp [Frame.enter, Frame.at, Try.func16, base, Try.f16]
  rw [e]
  clear e
  refine LoneTo.goes (n := 300) ?_
  simp only [Try.f16, Option.getD_some]
  repeat (first | (s_c stepG_seq) | (s_c stepG_region_end) | (s_c stepG_block) | (s_c stepG_skip) | (s_c stepG_inBlock) | s_reg | s_op | (s_cond true) | (s_cond false))
  s_stop
  refine LoneTo.step (step_lone_select_recv_buf (c := cs) (z := .agg #[.int .i64 0, .int .i64 0]) (cap := room) (buf := (.agg #[.int .i64 rw_, .int .i64 cl] :: rest).toArray) (closed := false) (s := ss) (r := rs) (tm := false) (stepG_comm (cases := #[rcase cs (.agg #[.int .i64 0, .int .i64 0])]) (blocking := false) (shape := .select) (w' := (w.alloc (.cells #[.int .i64 0, .int .u8 0, .int .i64 0, .int .i64 0] 30))) rfl rfl (by decide) (by simp [go_sem, execOp, rcase, Act.eval])) ((Below.heap_alloc w _ cs hls).trans hcs) (by simp)) ?_
  rw [Frame.finish_at]
  have e0 : (.agg #[.int .i64 rw_, .int .i64 cl] :: rest).toArray.getD 0 undef = .agg #[.int .i64 rw_, .int .i64 cl] := by simp
  have e1 : (.agg #[.int .i64 rw_, .int .i64 cl] :: rest).toArray.extract 1 (.agg #[.int .i64 rw_, .int .i64 cl] :: rest).toArray.size = rest.toArray := by simp
  rw [e0, e1]
  generalize hW : ((w.alloc (.cells #[.int .i64 0, .int .u8 0, .int .i64 0, .int .i64 0] 30))).setChan cs room rest.toArray false ss (rs + 1) false = W1
  have hfr : Fr (fun k => k = cs) w W1 := by rw [← hW]; exact Fr.setChan (X := fun k => k = cs) ((Fr.refl w).alloc _) rfl _ _ _ _ _ _
  have hch : Ch W1 cs room rest.toArray := ⟨ss, rs + 1, by rw [← hW]; exact heap_setChan _ _ _ _ _ _ _ _ (by rw [World.size_alloc]; omega)⟩
  have hbx : Bx W1 w.heap.size #[.int .i64 0, .int .u8 0, .int .i64 0, .int .i64 0] 30 := by
    rw [← hW]; exact (setChan_other _ _ _ _ _ _ _ _ _ (by omega)).trans (Bx.new w _ _)
  clear hW e0 e1
  have q0 := hbx.cell 0
  have q1 := hbx.cell 1
  have q2 := hbx.cell 2
  have q3 := hbx.cell 3
  have f0 := hbx.frozen 0
  have f1 := hbx.frozen 1
  have f2 := hbx.frozen 2
  have f3 := hbx.frozen 3
  have hz := hbx.lt
  walk_nrm
  refine LoneTo.goes (n := 300) ?_
  repeat (first | (s_c stepG_seq) | (s_c stepG_region_end) | (s_c stepG_block) | (s_c stepG_skip) | (s_c stepG_inBlock) | s_reg | s_op | (s_cond true) | (s_cond false))
  s_c stepG_ret'
  s_stop
  refine LoneTo.done ⟨.returned (.tuple #[.agg #[.int .i64 3, .int .u8 0, .int .i64 rw_, .int .i64 cl], .bool true]), _, rfl, ⟨rfl, ?_⟩, rfl, rfl, rfl, rfl, _, Try.func16, by simp [results, Try.f16, Frame.at, go_sem, q0, q1, q2, q3, hz]⟩
  refine ⟨?_, hch.fr (X := fun k => k = w.heap.size) ?_ (by omega)⟩
  · repeat (first | (with_reducible exact hfr) | (with_reducible refine Fr.setCellN ?_ (by omega) _) | (with_reducible refine Fr.alloc ?_ _))
  · repeat (first | (with_reducible exact Fr.refl _) | (with_reducible refine Fr.setCellN ?_ (by omega) _) | (with_reducible refine Fr.setCellX ?_ (by rfl) _) | (with_reducible refine Fr.alloc ?_ _))

set_option maxRecDepth 100000 in
set_option maxHeartbeats 1600000 in
theorem next_b (p cb ct cs room : Nat) (q : List Ev) (w : World) (h : LB w p cb ct cs room q) (hs : sBuf q = #[]) (by_ : Int) (rest : List Value) (hv : bBuf q = (.int .u8 by_ :: rest).toArray) :
    Calls Try.prog 16 #[.pointer (some ⟨p, 0, none⟩)] w fun e w' => e = .returned (.tuple #[.agg #[.int .i64 1, .int .u8 by_, .int .i64 0, .int .i64 0], .bool true]) ∧ (Fr (fun k => k = cb) w w' ∧ Ch w' cb room rest.toArray) := by
  obtain ⟨ss, rs, hcs⟩ := h.s
  have hls := (h.s).lt
  obtain ⟨sb, rb, hcb⟩ := h.b
  have hlb := (h.b).lt
  rw [hs] at hcs
  rw [hv] at hcb
  have hp0 := h.bx.cell 0
  have hp1 := h.bx.cell 1
  have hp2 := h.bx.cell 2
  have hlp := h.bx.lt
  clear h
  refine calls_of_loneTo fun cs' => ?_
  have e : Frame.enter Try.prog 16 #[.pointer (some ⟨p, 0, none⟩)] .normal = (base 16).at ⟨#[.pointer (some ⟨p, 0, none⟩), undef, undef, undef, undef, undef, undef, undef, undef, undef, undef, undef, undef, undef, undef, undef, undef, undef, undef, undef, undef, undef, undef, undef, undef, undef, undef, undef, undef, undef, undef, undef, undef, undef, undef, undef, undef, undef, undef, undef, undef], []⟩ [.code (Try.f16.body.getD .skip)] := by
    simp [Frame.enter, Frame.at, Try.func16, base, Try.f16]
  rw [e]
  clear e
  refine LoneTo.goes (n := 300) ?_
  simp only [Try.f16, Option.getD_some]
  repeat (first | (s_c stepG_seq) | (s_c stepG_region_end) | (s_c stepG_block) | (s_c stepG_skip) | (s_c stepG_inBlock) | s_reg | s_op | (s_cond true) | (s_cond false))
  s_stop
  refine LoneTo.step (step_lone_select_default (c := cs) (z := .agg #[.int .i64 0, .int .i64 0]) (cap := room) (s := ss) (r := rs) (tm := false) (stepG_comm (cases := #[rcase cs (.agg #[.int .i64 0, .int .i64 0])]) (blocking := false) (shape := .select) (w' := (w.alloc (.cells #[.int .i64 0, .int .u8 0, .int .i64 0, .int .i64 0] 30))) rfl rfl (by decide) (by simp [go_sem, execOp, rcase, Act.eval])) ((Below.heap_alloc w _ cs hls).trans hcs)) ?_
  rw [Frame.finish_at]
  walk_nrm
  refine LoneTo.goes (n := 300) ?_
  repeat (first | (s_c stepG_seq) | (s_c stepG_region_end) | (s_c stepG_block) | (s_c stepG_skip) | (s_c stepG_inBlock) | s_reg | s_op | (s_cond true) | (s_cond false))
  s_stop
  refine LoneTo.step (step_lone_select_recv_buf (c := cb) (z := .int .u8 0) (cap := room) (buf := (.int .u8 by_ :: rest).toArray) (closed := false) (s := sb) (r := rb) (tm := false) (stepG_comm (cases := #[rcase cb (.int .u8 0)]) (blocking := false) (shape := .select) (w' := (w.alloc (.cells #[.int .i64 0, .int .u8 0, .int .i64 0, .int .i64 0] 30))) rfl rfl (by decide) (by simp [go_sem, execOp, rcase, Act.eval])) ((Below.heap_alloc w _ cb hlb).trans hcb) (by simp)) ?_
  rw [Frame.finish_at]
  have e0 : (.int .u8 by_ :: rest).toArray.getD 0 undef = .int .u8 by_ := by simp
  have e1 : (.int .u8 by_ :: rest).toArray.extract 1 (.int .u8 by_ :: rest).toArray.size = rest.toArray := by simp
  rw [e0, e1]
  generalize hW : ((w.alloc (.cells #[.int .i64 0, .int .u8 0, .int .i64 0, .int .i64 0] 30))).setChan cb room rest.toArray false sb (rb + 1) false = W1
  have hfr : Fr (fun k => k = cb) w W1 := by rw [← hW]; exact Fr.setChan (X := fun k => k = cb) ((Fr.refl w).alloc _) rfl _ _ _ _ _ _
  have hch : Ch W1 cb room rest.toArray := ⟨sb, rb + 1, by rw [← hW]; exact heap_setChan _ _ _ _ _ _ _ _ (by rw [World.size_alloc]; omega)⟩
  have hbx : Bx W1 w.heap.size #[.int .i64 0, .int .u8 0, .int .i64 0, .int .i64 0] 30 := by
    rw [← hW]; exact (setChan_other _ _ _ _ _ _ _ _ _ (by omega)).trans (Bx.new w _ _)
  clear hW e0 e1
  have q0 := hbx.cell 0
  have q1 := hbx.cell 1
  have q2 := hbx.cell 2
  have q3 := hbx.cell 3
  have f0 := hbx.frozen 0
  have f1 := hbx.frozen 1
  have f2 := hbx.frozen 2
  have f3 := hbx.frozen 3
  have hz := hbx.lt
  walk_nrm
  refine LoneTo.goes (n := 300) ?_
  repeat (first | (s_c stepG_seq) | (s_c stepG_region_end) | (s_c stepG_block) | (s_c stepG_skip) | (s_c stepG_inBlock) | s_reg | s_op | (s_cond true) | (s_cond false))
  s_c stepG_ret'
  s_stop
  refine LoneTo.done ⟨.returned (.tuple #[.agg #[.int .i64 1, .int .u8 by_, .int .i64 0, .int .i64 0], .bool true]), _, rfl, ⟨rfl, ?_⟩, rfl, rfl, rfl, rfl, _, Try.func16, by simp [results, Try.f16, Frame.at, go_sem, q0, q1, q2, q3]⟩
  refine ⟨?_, hch.fr (X := fun k => k = w.heap.size) ?_ (by omega)⟩
  · repeat (first | (with_reducible exact hfr) | (with_reducible refine Fr.setCellN ?_ (by omega) _) | (with_reducible refine Fr.alloc ?_ _))
  · repeat (first | (with_reducible exact Fr.refl _) | (with_reducible refine Fr.setCellN ?_ (by omega) _) | (with_reducible refine Fr.setCellX ?_ (by rfl) _) | (with_reducible refine Fr.alloc ?_ _))

set_option maxRecDepth 100000 in
set_option maxHeartbeats 1600000 in
theorem next_t (p cb ct cs room : Nat) (q : List Ev) (w : World) (h : LB w p cb ct cs room q) (hs : sBuf q = #[]) (hb : bBuf q = #[]) (rest : List Value) (hv : tBuf q = (.bool true :: rest).toArray) :
    Calls Try.prog 16 #[.pointer (some ⟨p, 0, none⟩)] w fun e w' => e = .returned (.tuple #[.agg #[.int .i64 2, .int .u8 0, .int .i64 0, .int .i64 0], .bool true]) ∧ (Fr (fun k => k = ct) w w' ∧ Ch w' ct room rest.toArray) := by
  obtain ⟨ss, rs, hcs⟩ := h.s
  have hls := (h.s).lt
  obtain ⟨sb, rb, hcb⟩ := h.b
  have hlb := (h.b).lt
  obtain ⟨st, rt, hct⟩ := h.t
  have hlt := (h.t).lt
  rw [hs] at hcs
  rw [hb] at hcb
  rw [hv] at hct
  have hp0 := h.bx.cell 0
  have hp1 := h.bx.cell 1
  have hp2 := h.bx.cell 2
  have hlp := h.bx.lt
  clear h
  refine calls_of_loneTo fun cs' => ?_
  have e : Frame.enter Try.prog 16 #[.pointer (some ⟨p, 0, none⟩)] .normal = (base 16).at ⟨#[.pointer (some ⟨p, 0, none⟩), undef, undef, undef, undef, undef, undef, undef, undef, undef, undef, undef, undef, undef, undef, undef, undef, undef, undef, undef, undef, undef, undef, undef, undef, undef, undef, undef, undef, undef, undef, undef, undef, undef, undef, undef, undef, undef, undef, undef, undef], []⟩ [.code (Try.f16.body.getD .skip)] := by
    simp [Frame.enter, Frame.at, Try.func16, base, Try.f16]
  rw [e]
  clear e
  refine LoneTo.goes (n := 300) ?_
  simp only [Try.f16, Option.getD_some]
  repeat (first | (s_c stepG_seq) | (s_c stepG_region_end) | (s_c stepG_block) | (s_c stepG_skip) | (s_c stepG_inBlock) | s_reg | s_op | (s_cond true) | (s_cond false))
  s_stop
  refine LoneTo.step (step_lone_select_default (c := cs) (z := .agg #[.int .i64 0, .int .i64 0]) (cap := room) (s := ss) (r := rs) (tm := false) (stepG_comm (cases := #[rcase cs (.agg #[.int .i64 0, .int .i64 0])]) (blocking := false) (shape := .select) (w' := (w.alloc (.cells #[.int .i64 0, .int .u8 0, .int .i64 0, .int .i64 0] 30))) rfl rfl (by decide) (by simp [go_sem, execOp, rcase, Act.eval])) ((Below.heap_alloc w _ cs hls).trans hcs)) ?_
  rw [Frame.finish_at]
  walk_nrm
  refine LoneTo.goes (n := 300) ?_
  repeat (first | (s_c stepG_seq) | (s_c stepG_region_end) | (s_c stepG_block) | (s_c stepG_skip) | (s_c stepG_inBlock) | s_reg | s_op | (s_cond true) | (s_cond false))
  s_stop
  refine LoneTo.step (step_lone_select_default (c := cb) (z := .int .u8 0) (cap := room) (s := sb) (r := rb) (tm := false) (stepG_comm (cases := #[rcase cb (.int .u8 0)]) (blocking := false) (shape := .select) (w' := (w.alloc (.cells #[.int .i64 0, .int .u8 0, .int .i64 0, .int .i64 0] 30))) rfl rfl (by decide) (by simp [go_sem, execOp, rcase, Act.eval])) ((Below.heap_alloc w _ cb hlb).trans hcb)) ?_
  rw [Frame.finish_at]
  walk_nrm
  refine LoneTo.goes (n := 300) ?_
  repeat (first | (s_c stepG_seq) | (s_c stepG_region_end) | (s_c stepG_block) | (s_c stepG_skip) | (s_c stepG_inBlock) | s_reg | s_op | (s_cond true) | (s_cond false))
  s_stop
  refine LoneTo.step (step_lone_select_recv_buf (c := ct) (z := .bool false) (cap := room) (buf := (.bool true :: rest).toArray) (closed := false) (s := st) (r := rt) (tm := false) (stepG_comm (cases := #[rcase ct (.bool false)]) (blocking := false) (shape := .select) (w' := (w.alloc (.cells #[.int .i64 0, .int .u8 0, .int .i64 0, .int .i64 0] 30))) rfl rfl (by decide) (by simp [go_sem, execOp, rcase, Act.eval])) ((Below.heap_alloc w _ ct hlt).trans hct) (by simp)) ?_
  rw [Frame.finish_at]
  have e0 : (.bool true :: rest).toArray.getD 0 undef = .bool true := by simp
  have e1 : (.bool true :: rest).toArray.extract 1 (.bool true :: rest).toArray.size = rest.toArray := by simp
  rw [e0, e1]
  generalize hW : ((w.alloc (.cells #[.int .i64 0, .int .u8 0, .int .i64 0, .int .i64 0] 30))).setChan ct room rest.toArray false st (rt + 1) false = W1
  have hfr : Fr (fun k => k = ct) w W1 := by rw [← hW]; exact Fr.setChan (X := fun k => k = ct) ((Fr.refl w).alloc _) rfl _ _ _ _ _ _
  have hch : Ch W1 ct room rest.toArray := ⟨st, rt + 1, by rw [← hW]; exact heap_setChan _ _ _ _ _ _ _ _ (by rw [World.size_alloc]; omega)⟩
  have hbx : Bx W1 w.heap.size #[.int .i64 0, .int .u8 0, .int .i64 0, .int .i64 0] 30 := by
    rw [← hW]; exact (setChan_other _ _ _ _ _ _ _ _ _ (by omega)).trans (Bx.new w _ _)
  clear hW e0 e1
  have q0 := hbx.cell 0
  have q1 := hbx.cell 1
  have q2 := hbx.cell 2
  have q3 := hbx.cell 3
  have f0 := hbx.frozen 0
  have f1 := hbx.frozen 1
  have f2 := hbx.frozen 2
  have f3 := hbx.frozen 3
  have hz := hbx.lt
  walk_nrm
  refine LoneTo.goes (n := 300) ?_
  repeat (first | (s_c stepG_seq) | (s_c stepG_region_end) | (s_c stepG_block) | (s_c stepG_skip) | (s_c stepG_inBlock) | s_reg | s_op | (s_cond true) | (s_cond false))
  s_c stepG_ret'
  s_stop
  refine LoneTo.done ⟨.returned (.tuple #[.agg #[.int .i64 2, .int .u8 0, .int .i64 0, .int .i64 0], .bool true]), _, rfl, ⟨rfl, ?_⟩, rfl, rfl, rfl, rfl, _, Try.func16, by simp [results, Try.f16, Frame.at, go_sem, q0, q1, q2, q3]⟩
  refine ⟨?_, hch.fr (X := fun k => k = w.heap.size) ?_ (by omega)⟩
  · repeat (first | (with_reducible exact hfr) | (with_reducible refine Fr.setCellN ?_ (by omega) _) | (with_reducible refine Fr.alloc ?_ _))
  · repeat (first | (with_reducible exact Fr.refl _) | (with_reducible refine Fr.setCellN ?_ (by omega) _) | (with_reducible refine Fr.setCellX ?_ (by rfl) _) | (with_reducible refine Fr.alloc ?_ _))

set_option maxRecDepth 100000 in
set_option maxHeartbeats 1600000 in
theorem next_n (p cb ct cs room : Nat) (q : List Ev) (w : World) (h : LB w p cb ct cs room q) (hs : sBuf q = #[]) (hb : bBuf q = #[]) (ht : tBuf q = #[])  :
    Calls Try.prog 16 #[.pointer (some ⟨p, 0, none⟩)] w fun e w' => e = .returned (.tuple #[.agg #[.int .i64 0, .int .u8 0, .int .i64 0, .int .i64 0], .bool false]) ∧ Fr (fun _ => False) w w' := by
  obtain ⟨ss, rs, hcs⟩ := h.s
  have hls := (h.s).lt
  obtain ⟨sb, rb, hcb⟩ := h.b
  have hlb := (h.b).lt
  obtain ⟨st, rt, hct⟩ := h.t
  have hlt := (h.t).lt
  rw [hs] at hcs
  rw [hb] at hcb
  rw [ht] at hct
  have hp0 := h.bx.cell 0
  have hp1 := h.bx.cell 1
  have hp2 := h.bx.cell 2
  have hlp := h.bx.lt
  clear h
  refine calls_of_loneTo fun cs' => ?_
  have e : Frame.enter Try.prog 16 #[.pointer (some ⟨p, 0, none⟩)] .normal = (base 16).at ⟨#[.pointer (some ⟨p, 0, none⟩), undef, undef, undef, undef, undef, undef, undef, undef, undef, undef, undef, undef, undef, undef, undef, undef, undef, undef, undef, undef, undef, undef, undef, undef, undef, undef, undef, undef, undef, undef, undef, undef, undef, undef, undef, undef, undef, undef, undef, undef], []⟩ [.code (Try.f16.body.getD .skip)] := by
    simp [Frame.enter, Frame.at, Try.func16, base, Try.f16]
  rw [e]
  clear e
  refine LoneTo.goes (n := 300) ?_
  simp only [Try.f16, Option.getD_some]
  repeat (first | (s_c stepG_seq) | (s_c stepG_region_end) | (s_c stepG_block) | (s_c stepG_skip) | (s_c stepG_inBlock) | s_reg | s_op | (s_cond true) | (s_cond false))
  s_stop
  refine LoneTo.step (step_lone_select_default (c := cs) (z := .agg #[.int .i64 0, .int .i64 0]) (cap := room) (s := ss) (r := rs) (tm := false) (stepG_comm (cases := #[rcase cs (.agg #[.int .i64 0, .int .i64 0])]) (blocking := false) (shape := .select) (w' := (w.alloc (.cells #[.int .i64 0, .int .u8 0, .int .i64 0, .int .i64 0] 30))) rfl rfl (by decide) (by simp [go_sem, execOp, rcase, Act.eval])) ((Below.heap_alloc w _ cs hls).trans hcs)) ?_
  rw [Frame.finish_at]
  walk_nrm
  refine LoneTo.goes (n := 300) ?_
  repeat (first | (s_c stepG_seq) | (s_c stepG_region_end) | (s_c stepG_block) | (s_c stepG_skip) | (s_c stepG_inBlock) | s_reg | s_op | (s_cond true) | (s_cond false))
  s_stop
  refine LoneTo.step (step_lone_select_default (c := cb) (z := .int .u8 0) (cap := room) (s := sb) (r := rb) (tm := false) (stepG_comm (cases := #[rcase cb (.int .u8 0)]) (blocking := false) (shape := .select) (w' := (w.alloc (.cells #[.int .i64 0, .int .u8 0, .int .i64 0, .int .i64 0] 30))) rfl rfl (by decide) (by simp [go_sem, execOp, rcase, Act.eval])) ((Below.heap_alloc w _ cb hlb).trans hcb)) ?_
  rw [Frame.finish_at]
  walk_nrm
  refine LoneTo.goes (n := 300) ?_
  repeat (first | (s_c stepG_seq) | (s_c stepG_region_end) | (s_c stepG_block) | (s_c stepG_skip) | (s_c stepG_inBlock) | s_reg | s_op | (s_cond true) | (s_cond false))
  s_stop
  refine LoneTo.step (step_lone_select_default (c := ct) (z := .bool false) (cap := room) (s := st) (r := rt) (tm := false) (stepG_comm (cases := #[rcase ct (.bool false)]) (blocking := false) (shape := .select) (w' := (w.alloc (.cells #[.int .i64 0, .int .u8 0, .int .i64 0, .int .i64 0] 30))) rfl rfl (by decide) (by simp [go_sem, execOp, rcase, Act.eval])) ((Below.heap_alloc w _ ct hlt).trans hct)) ?_
  rw [Frame.finish_at]
  walk_nrm
  refine LoneTo.goes (n := 300) ?_
  repeat (first | (s_c stepG_seq) | (s_c stepG_region_end) | (s_c stepG_block) | (s_c stepG_skip) | (s_c stepG_inBlock) | s_reg | s_op | (s_cond true) | (s_cond false))
  s_c stepG_ret'
  s_stop
  refine LoneTo.done ⟨.returned (.tuple #[.agg #[.int .i64 0, .int .u8 0, .int .i64 0, .int .i64 0], .bool false]), _, rfl, ⟨rfl, ?_⟩, rfl, rfl, rfl, rfl, _, Try.func16, by simp [results, Try.f16, Frame.at, go_sem]⟩
  repeat (first | (with_reducible exact Fr.refl _) | (with_reducible refine Fr.setCellN ?_ (by omega) _) | (with_reducible refine Fr.alloc ?_ _))

end Go.Proofs.Ytakbfppmgngdiaa
