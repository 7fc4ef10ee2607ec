/-
  package loop: channels with a buffer in one goroutine: what Put does. Vocabulary: which blocks turned; a box in memory.
-/
import Derived.Test.YtakbfppmgngdiaaLoopM
import Derived.Test.YtakbfppmgngdiaaWords2
import Derived.Test.YtakbfppmgngdiaaSame
import Derived.Conc.LoneSelect
import Derived.KernelRfl
import Derived.Laws.Rows
import Derived.Laws.Runes
import Derived.Laws.Tables
namespace Go.Proofs.Ytakbfppmgngdiaa
open Go.RowKit Go.Conc

/-- At most the blocks that X names have turned. -/
def Fr (X : Nat → Prop) (w w' : World) : Prop := w'.os = w.os ∧ w'.tape = w.tape ∧ w'.output = w.output ∧ w.heap.size ≤ w'.heap.size ∧ ∀ k, k < w.heap.size → ¬ X k → w'.heap[k]? = w.heap[k]?
section
variable {X : Nat → Prop} {w w' w'' : World}
theorem Fr.refl (w : World) : Fr X w w := ⟨rfl, rfl, rfl, Nat.le_refl _, fun _ _ _ => rfl⟩
theorem Fr.size (h : Fr X w w') : w.heap.size ≤ w'.heap.size := h.2.2.2.1
theorem Fr.trans (h : Fr X w w') (k : Fr X w' w'') : Fr X w w'' :=
  ⟨k.1.trans h.1, k.2.1.trans h.2.1, k.2.2.1.trans h.2.2.1, Nat.le_trans h.size k.size, fun i hi hX => (k.2.2.2.2 i (Nat.lt_of_lt_of_le hi h.size) hX).trans (h.2.2.2.2 i hi hX)⟩
theorem Kp.fr (h : Kp w w') : Fr X w w' := ⟨h.os, h.tape, h.output, h.size, fun k hk _ => h.block k hk⟩
theorem Fr.kp {w0 : World} (h : Kp w0 w) (k : Fr X w w') (hX : ∀ i, X i → w0.heap.size ≤ i) : Kp w0 w' :=
  ⟨k.1.trans h.os, k.2.1.trans h.tape, k.2.2.1.trans h.output, Nat.le_trans h.size k.size, fun i hi => (k.2.2.2.2 i (Nat.lt_of_lt_of_le hi h.size) (fun hx => by have := hX i hx; omega)).trans (h.block i hi)⟩
theorem Fr.alloc (h : Fr X w w') (o : Obj) : Fr X w (w'.alloc o) := h.trans ((Kp.refl w').alloc o).fr
theorem Fr.setChan (h : Fr X w w') {c : Nat} (hc : X c) (cap : Nat) (buf : Array Value) (cl : Bool) (s r : Nat) (tm : Bool) : Fr X w (w'.setChan c cap buf cl s r tm) :=
  h.trans ⟨rfl, rfl, rfl, by simp [World.setChan], fun k _ hX => by simp [World.setChan, Array.getElem?_setIfInBounds_ne (fun e : c = k => hX (e ▸ hc))]⟩
theorem Fr.weak {Y : Nat → Prop} (h : Fr X w w') (hY : ∀ k, X k → Y k) : Fr Y w w' := ⟨h.1, h.2.1, h.2.2.1, h.size, fun k hk hX => h.2.2.2.2 k hk (fun hx => hX (hY k hx))⟩
theorem Bx.fr {b : Nat} {cs : Array Value} {t : TypeId} (h : Bx w b cs t) (k : Fr X w w') (hb : ¬ X b) : Bx w' b cs t := (k.2.2.2.2 b h.lt hb).trans h
theorem Sl.fr {F : Nat → Prop} {size n c : Nat} {A : Option Addr} {vs : List Value} (h : Sl w F size A n c vs) (k : Fr X w w') (hF : ∀ i, F i → ¬ X i) : Sl w' F size A n c vs := h.frame k.size fun i hi hl => k.2.2.2.2 i hl (hF i hi)
theorem Own.fr {base : Nat} {e : TypeId} {size n c : Nat} {A : Option Addr} {vs : List Value} (h : Own w base e size A n c vs) (k : Fr X w w') (hA : ∀ i, rowOf A = some i → ¬ X i) : Own w' base e size A n c vs := h.frame fun i hi => k.2.2.2.2 i (h.lt i hi).2 (hA i hi)
end

theorem setChan_other (w : World) (c c' cap : Nat) (buf : Array Value) (closed : Bool) (s r : Nat) (tm : Bool) (h : c ≠ c') : (w.setChan c cap buf closed s r tm).heap[c']? = w.heap[c']? := by
  simp [World.setChan, Array.getElem?_setIfInBounds_ne h]

def bBuf (q : List Ev) : Array Value := ((ofK 1 q).map fun e => Value.int .u8 e.byte).toArray
def tBuf (q : List Ev) : Array Value := ((ofK 2 q).map fun _ => Value.bool true).toArray
def sBuf (q : List Ev) : Array Value := ((ofK 3 q).map fun e => Value.agg #[.int .i64 e.rows, .int .i64 e.cols]).toArray
/-- A channel with a buffer. -/
def Ch (w : World) (c cap : Nat) (buf : Array Value) : Prop := ∃ s r, w.heap[c]? = some (.chan cap buf false s r false)
/-- A box in memory, in which the events q wait. -/
structure LB (w : World) (p cb ct cs room : Nat) (q : List Ev) : Prop where
  bx : Bx w p #[.chan (some cb), .chan (some ct), .chan (some cs)] 109
  b : Ch w cb room (bBuf q)
  t : Ch w ct room (tBuf q)
  s : Ch w cs room (sBuf q)
  d : cb ≠ ct ∧ cb ≠ cs ∧ ct ≠ cs
theorem Ch.lt {w : World} {c cap : Nat} {buf : Array Value} (h : Ch w c cap buf) : c < w.heap.size := by obtain ⟨s, r, h⟩ := h; exact (Array.getElem?_eq_some_iff.1 h).1
theorem Ch.kp {w w' : World} {c cap : Nat} {buf : Array Value} (h : Ch w c cap buf) (k : Kp w w') : Ch w' c cap buf := by
  have hl := h.lt
  obtain ⟨s, r, h⟩ := h
  exact ⟨s, r, (k.block c hl).trans h⟩
theorem Ch.fr {X : Nat → Prop} {w w' : World} {c cap : Nat} {buf : Array Value} (h : Ch w c cap buf) (k : Fr X w w') (hc : ¬ X c) : Ch w' c cap buf := by
  have hl := h.lt
  obtain ⟨s, r, h⟩ := h
  exact ⟨s, r, (k.2.2.2.2 c hl hc).trans h⟩
theorem LB.kp {w w' : World} {p cb ct cs room : Nat} {q : List Ev} (h : LB w p cb ct cs room q) (k : Kp w w') : LB w' p cb ct cs room q := ⟨h.bx.kp k, h.b.kp k, h.t.kp k, h.s.kp k, h.d⟩
theorem LB.fr {X : Nat → Prop} {w w' : World} {p cb ct cs room : Nat} {q : List Ev} (h : LB w p cb ct cs room q) (k : Fr X w w') (h0 : ¬ X p) (h1 : ¬ X cb) (h2 : ¬ X ct) (h3 : ¬ X cs) : LB w' p cb ct cs room q :=
  ⟨h.bx.fr k h0, h.b.fr k h1, h.t.fr k h2, h.s.fr k h3, h.d⟩
theorem LB.not_p {w : World} {p cb ct cs room : Nat} {q : List Ev} (h : LB w p cb ct cs room q) : p ≠ cb ∧ p ≠ ct ∧ p ≠ cs := by
  have hb := h.bx
  obtain ⟨s1, r1, h1⟩ := h.b
  obtain ⟨s2, r2, h2⟩ := h.t
  obtain ⟨s3, r3, h3⟩ := h.s
  unfold Bx at hb
  refine ⟨?_, ?_, ?_⟩ <;> (rintro rfl; simp_all)
/-- The channels of a box. -/
def Chs (cb ct cs k : Nat) : Prop := k = cb ∨ k = ct ∨ k = cs

set_option maxRecDepth 100000 in
set_option maxHeartbeats 1600000 in
theorem put1_room (p cb ct cs room : Nat) (q : List Ev) (x : Ev) (w : World) (h : LB w p cb ct cs room q) (hk : x.kind = 1) (hr : (bBuf q).size < room) :
    Calls Try.prog 18 #[.pointer (some ⟨p, 0, none⟩), .agg #[.int .i64 x.kind, .int .u8 x.byte, .int .i64 x.rows, .int .i64 x.cols]] w fun e w' => e = .returned (.bool true) ∧ (∃ s r, w' = (w.alloc (.cells #[.int .i64 1, .int .u8 x.byte, .int .i64 x.rows, .int .i64 x.cols] 30)).setChan cb room ((bBuf q).push (.int .u8 x.byte)) false s r false) := by
  rw [hk]
  obtain ⟨s, r, hc⟩ := h.b
  have hlc := (h.b).lt
  have hp0 := h.bx.cell 0
  have hp1 := h.bx.cell 1
  have hp2 := h.bx.cell 2
  have hlt := h.bx.lt
  refine calls_of_loneTo fun cs' => ?_
  have e : Frame.enter Try.prog 18 #[.pointer (some ⟨p, 0, none⟩), .agg #[.int .i64 1, .int .u8 x.byte, .int .i64 x.rows, .int .i64 x.cols]] .normal = (base 18).at ⟨#[.pointer (some ⟨p, 0, none⟩), .agg #[.int .i64 1, .int .u8 x.byte, .int .i64 x.rows, .int .i64 x.cols], undef, undef, undef, undef, undef, undef, undef, undef, undef, undef, undef, undef, undef, undef, undef, undef, undef, undef, undef, undef, undef, undef, undef, undef, undef, undef, undef, undef, undef, undef, undef, undef, undef, undef, undef, undef, undef, undef, undef, undef, undef], []⟩ [.code (Try.f18.body.getD .skip)] := by
    simp [Frame.enter, Frame.at, Try.func18, base, Try.f18]
  rw [e]
  clear e
  refine LoneTo.goes (n := 300) ?_
  simp only [Try.f18, Option.getD_some]
  repeat (first | (s_c stepG_seq) | (s_c stepG_region_end) | (s_c stepG_block) | (s_c stepG_skip) | (s_c stepG_inBlock) | s_reg | s_op | (s_cond true) | (s_cond false))
  s_stop
  refine LoneTo.step (step_lone_select_send_room (c := cb) (cap := room) (buf := bBuf q) (s := s) (r := r) (tm := false) (stepG_comm (cases := #[scase cb (.int .u8 x.byte) (.int .u8 0)]) (blocking := false) (shape := .select) (w' := (w.alloc (.cells #[.int .i64 1, .int .u8 x.byte, .int .i64 x.rows, .int .i64 x.cols] 30))) rfl rfl (by decide) (by simp [go_sem, execOp, scase, Act.eval])) ((Below.heap_alloc w _ cb hlc).trans hc) hr) ?_
  rw [Frame.finish_at]
  walk_nrm
  refine LoneTo.goes (n := 200) ?_
  repeat (first | (s_c stepG_seq) | (s_c stepG_region_end) | (s_c stepG_block) | (s_c stepG_skip) | (s_c stepG_inBlock) | s_reg | s_op | (s_cond true) | (s_cond false))
  s_c stepG_ret'
  s_stop
  exact LoneTo.done ⟨.returned (.bool true), _, rfl, ⟨rfl, ⟨_, _, rfl⟩⟩, rfl, rfl, rfl, rfl, _, Try.func18, by simp [results, Try.f18, Frame.at]⟩

set_option maxRecDepth 100000 in
set_option maxHeartbeats 1600000 in
theorem put1_full (p cb ct cs room : Nat) (q : List Ev) (x : Ev) (w : World) (h : LB w p cb ct cs room q) (hk : x.kind = 1) (hr : room ≤ (bBuf q).size) :
    Calls Try.prog 18 #[.pointer (some ⟨p, 0, none⟩), .agg #[.int .i64 x.kind, .int .u8 x.byte, .int .i64 x.rows, .int .i64 x.cols]] w fun e w' => e = .returned (.bool false) ∧ w' = (w.alloc (.cells #[.int .i64 1, .int .u8 x.byte, .int .i64 x.rows, .int .i64 x.cols] 30)) := by
  rw [hk]
  obtain ⟨s, r, hc⟩ := h.b
  have hlc := (h.b).lt
  have hp0 := h.bx.cell 0
  have hp1 := h.bx.cell 1
  have hp2 := h.bx.cell 2
  have hlt := h.bx.lt
  refine calls_of_loneTo fun cs' => ?_
  have e : Frame.enter Try.prog 18 #[.pointer (some ⟨p, 0, none⟩), .agg #[.int .i64 1, .int .u8 x.byte, .int .i64 x.rows, .int .i64 x.cols]] .normal = (base 18).at ⟨#[.pointer (some ⟨p, 0, none⟩), .agg #[.int .i64 1, .int .u8 x.byte, .int .i64 x.rows, .int .i64 x.cols], undef, undef, undef, undef, undef, undef, undef, undef, undef, undef, undef, undef, undef, undef, undef, undef, undef, undef, undef, undef, undef, undef, undef, undef, undef, undef, undef, undef, undef, undef, undef, undef, undef, undef, undef, undef, undef, undef, undef, undef, undef], []⟩ [.code (Try.f18.body.getD .skip)] := by
    simp [Frame.enter, Frame.at, Try.func18, base, Try.f18]
  rw [e]
  clear e
  refine LoneTo.goes (n := 300) ?_
  simp only [Try.f18, Option.getD_some]
  repeat (first | (s_c stepG_seq) | (s_c stepG_region_end) | (s_c stepG_block) | (s_c stepG_skip) | (s_c stepG_inBlock) | s_reg | s_op | (s_cond true) | (s_cond false))
  s_stop
  refine LoneTo.step (step_lone_select_send_full (c := cb) (cap := room) (buf := bBuf q) (s := s) (r := r) (tm := false) (stepG_comm (cases := #[scase cb (.int .u8 x.byte) (.int .u8 0)]) (blocking := false) (shape := .select) (w' := (w.alloc (.cells #[.int .i64 1, .int .u8 x.byte, .int .i64 x.rows, .int .i64 x.cols] 30))) rfl rfl (by decide) (by simp [go_sem, execOp, scase, Act.eval])) ((Below.heap_alloc w _ cb hlc).trans hc) hr) ?_
  rw [Frame.finish_at]
  walk_nrm
  refine LoneTo.goes (n := 200) ?_
  repeat (first | (s_c stepG_seq) | (s_c stepG_region_end) | (s_c stepG_block) | (s_c stepG_skip) | (s_c stepG_inBlock) | s_reg | s_op | (s_cond true) | (s_cond false))
  s_c stepG_ret'
  s_stop
  exact LoneTo.done ⟨.returned (.bool false), _, rfl, ⟨rfl, rfl⟩, rfl, rfl, rfl, rfl, _, Try.func18, by simp [results, Try.f18, Frame.at]⟩

set_option maxRecDepth 100000 in
set_option maxHeartbeats 1600000 in
theorem put2_room (p cb ct cs room : Nat) (q : List Ev) (x : Ev) (w : World) (h : LB w p cb ct cs room q) (hk : x.kind = 2) (hr : (tBuf q).size < room) :
    Calls Try.prog 18 #[.pointer (some ⟨p, 0, none⟩), .agg #[.int .i64 x.kind, .int .u8 x.byte, .int .i64 x.rows, .int .i64 x.cols]] w fun e w' => e = .returned (.bool true) ∧ (∃ s r, w' = (w.alloc (.cells #[.int .i64 2, .int .u8 x.byte, .int .i64 x.rows, .int .i64 x.cols] 30)).setChan ct room ((tBuf q).push (.bool true)) false s r false) := by
  rw [hk]
  obtain ⟨s, r, hc⟩ := h.t
  have hlc := (h.t).lt
  have hp0 := h.bx.cell 0
  have hp1 := h.bx.cell 1
  have hp2 := h.bx.cell 2
  have hlt := h.bx.lt
  refine calls_of_loneTo fun cs' => ?_
  have e : Frame.enter Try.prog 18 #[.pointer (some ⟨p, 0, none⟩), .agg #[.int .i64 2, .int .u8 x.byte, .int .i64 x.rows, .int .i64 x.cols]] .normal = (base 18).at ⟨#[.pointer (some ⟨p, 0, none⟩), .agg #[.int .i64 2, .int .u8 x.byte, .int .i64 x.rows, .int .i64 x.cols], undef, undef, undef, undef, undef, undef, undef, undef, undef, undef, undef, undef, undef, undef, undef, undef, undef, undef, undef, undef, undef, undef, undef, undef, undef, undef, undef, undef, undef, undef, undef, undef, undef, undef, undef, undef, undef, undef, undef, undef, undef], []⟩ [.code (Try.f18.body.getD .skip)] := by
    simp [Frame.enter, Frame.at, Try.func18, base, Try.f18]
  rw [e]
  clear e
  refine LoneTo.goes (n := 300) ?_
  simp only [Try.f18, Option.getD_some]
  repeat (first | (s_c stepG_seq) | (s_c stepG_region_end) | (s_c stepG_block) | (s_c stepG_skip) | (s_c stepG_inBlock) | s_reg | s_op | (s_cond true) | (s_cond false))
  s_stop
  refine LoneTo.step (step_lone_select_send_room (c := ct) (cap := room) (buf := tBuf q) (s := s) (r := r) (tm := false) (stepG_comm (cases := #[scase ct (.bool true) (.bool false)]) (blocking := false) (shape := .select) (w' := (w.alloc (.cells #[.int .i64 2, .int .u8 x.byte, .int .i64 x.rows, .int .i64 x.cols] 30))) rfl rfl (by decide) (by simp [go_sem, execOp, scase, Act.eval])) ((Below.heap_alloc w _ ct hlc).trans hc) hr) ?_
  rw [Frame.finish_at]
  walk_nrm
  refine LoneTo.goes (n := 200) ?_
  repeat (first | (s_c stepG_seq) | (s_c stepG_region_end) | (s_c stepG_block) | (s_c stepG_skip) | (s_c stepG_inBlock) | s_reg | s_op | (s_cond true) | (s_cond false))
  s_c stepG_ret'
  s_stop
  exact LoneTo.done ⟨.returned (.bool true), _, rfl, ⟨rfl, ⟨_, _, rfl⟩⟩, rfl, rfl, rfl, rfl, _, Try.func18, by simp [results, Try.f18, Frame.at]⟩

set_option maxRecDepth 100000 in
set_option maxHeartbeats 1600000 in
theorem put2_full (p cb ct cs room : Nat) (q : List Ev) (x : Ev) (w : World) (h : LB w p cb ct cs room q) (hk : x.kind = 2) (hr : room ≤ (tBuf q).size) :
    Calls Try.prog 18 #[.pointer (some ⟨p, 0, none⟩), .agg #[.int .i64 x.kind, .int .u8 x.byte, .int .i64 x.rows, .int .i64 x.cols]] w fun e w' => e = .returned (.bool false) ∧ w' = (w.alloc (.cells #[.int .i64 2, .int .u8 x.byte, .int .i64 x.rows, .int .i64 x.cols] 30)) := by
  rw [hk]
  obtain ⟨s, r, hc⟩ := h.t
  have hlc := (h.t).lt
  have hp0 := h.bx.cell 0
  have hp1 := h.bx.cell 1
  have hp2 := h.bx.cell 2
  have hlt := h.bx.lt
  refine calls_of_loneTo fun cs' => ?_
  have e : Frame.enter Try.prog 18 #[.pointer (some ⟨p, 0, none⟩), .agg #[.int .i64 2, .int .u8 x.byte, .int .i64 x.rows, .int .i64 x.cols]] .normal = (base 18).at ⟨#[.pointer (some ⟨p, 0, none⟩), .agg #[.int .i64 2, .int .u8 x.byte, .int .i64 x.rows, .int .i64 x.cols], undef, undef, undef, undef, undef, undef, undef, undef, undef, undef, undef, undef, undef, undef, undef, undef, undef, undef, undef, undef, undef, undef, undef, undef, undef, undef, undef, undef, undef, undef, undef, undef, undef, undef, undef, undef, undef, undef, undef, undef, undef], []⟩ [.code (Try.f18.body.getD .skip)] := by
    simp [Frame.enter, Frame.at, Try.func18, base, Try.f18]
  rw [e]
  clear e
  refine LoneTo.goes (n := 300) ?_
  simp only [Try.f18, Option.getD_some]
  repeat (first | (s_c stepG_seq) | (s_c stepG_region_end) | (s_c stepG_block) | (s_c stepG_skip) | (s_c stepG_inBlock) | s_reg | s_op | (s_cond true) | (s_cond false))
  s_stop
  refine LoneTo.step (step_lone_select_send_full (c := ct) (cap := room) (buf := tBuf q) (s := s) (r := r) (tm := false) (stepG_comm (cases := #[scase ct (.bool true) (.bool false)]) (blocking := false) (shape := .select) (w' := (w.alloc (.cells #[.int .i64 2, .int .u8 x.byte, .int .i64 x.rows, .int .i64 x.cols] 30))) rfl rfl (by decide) (by simp [go_sem, execOp, scase, Act.eval])) ((Below.heap_alloc w _ ct hlc).trans hc) hr) ?_
  rw [Frame.finish_at]
  walk_nrm
  refine LoneTo.goes (n := 200) ?_
  repeat (first | (s_c stepG_seq) | (s_c stepG_region_end) | (s_c stepG_block) | (s_c stepG_skip) | (s_c stepG_inBlock) | s_reg | s_op | (s_cond true) | (s_cond false))
  s_c stepG_ret'
  s_stop
  exact LoneTo.done ⟨.returned (.bool false), _, rfl, ⟨rfl, rfl⟩, rfl, rfl, rfl, rfl, _, Try.func18, by simp [results, Try.f18, Frame.at]⟩

set_option maxRecDepth 100000 in
set_option maxHeartbeats 1600000 in
theorem put3_room (p cb ct cs room : Nat) (q : List Ev) (x : Ev) (w : World) (h : LB w p cb ct cs room q) (hk : x.kind = 3) (hr : (sBuf q).size < room) :
    Calls Try.prog 18 #[.pointer (some ⟨p, 0, none⟩), .agg #[.int .i64 x.kind, .int .u8 x.byte, .int .i64 x.rows, .int .i64 x.cols]] w fun e w' => e = .returned (.bool true) ∧ (∃ s r, w' = (w.alloc (.cells #[.int .i64 3, .int .u8 x.byte, .int .i64 x.rows, .int .i64 x.cols] 30)).setChan cs room ((sBuf q).push (.agg #[.int .i64 x.rows, .int .i64 x.cols])) false s r false) := by
  rw [hk]
  obtain ⟨s, r, hc⟩ := h.s
  have hlc := (h.s).lt
  have hp0 := h.bx.cell 0
  have hp1 := h.bx.cell 1
  have hp2 := h.bx.cell 2
  have hlt := h.bx.lt
  refine calls_of_loneTo fun cs' => ?_
  have e : Frame.enter Try.prog 18 #[.pointer (some ⟨p, 0, none⟩), .agg #[.int .i64 3, .int .u8 x.byte, .int .i64 x.rows, .int .i64 x.cols]] .normal = (base 18).at ⟨#[.pointer (some ⟨p, 0, none⟩), .agg #[.int .i64 3, .int .u8 x.byte, .int .i64 x.rows, .int .i64 x.cols], undef, undef, undef, undef, undef, undef, undef, undef, undef, undef, undef, undef, undef, undef, undef, undef, undef, undef, undef, undef, undef, undef, undef, undef, undef, undef, undef, undef, undef, undef, undef, undef, undef, undef, undef, undef, undef, undef, undef, undef, undef], []⟩ [.code (Try.f18.body.getD .skip)] := by
    simp [Frame.enter, Frame.at, Try.func18, base, Try.f18]
  rw [e]
  clear e
  refine LoneTo.goes (n := 300) ?_
  simp only [Try.f18, Option.getD_some]
  repeat (first | (s_c stepG_seq) | (s_c stepG_region_end) | (s_c stepG_block) | (s_c stepG_skip) | (s_c stepG_inBlock) | s_reg | s_op | (s_cond true) | (s_cond false))
  s_stop
  refine LoneTo.step (step_lone_select_send_room (c := cs) (cap := room) (buf := sBuf q) (s := s) (r := r) (tm := false) (stepG_comm (cases := #[scase cs (.agg #[.int .i64 x.rows, .int .i64 x.cols]) (.agg #[.int .i64 0, .int .i64 0])]) (blocking := false) (shape := .select) (w' := (w.alloc (.cells #[.int .i64 3, .int .u8 x.byte, .int .i64 x.rows, .int .i64 x.cols] 30))) rfl rfl (by decide) (by simp [go_sem, execOp, scase, Act.eval])) ((Below.heap_alloc w _ cs hlc).trans hc) hr) ?_
  rw [Frame.finish_at]
  walk_nrm
  refine LoneTo.goes (n := 200) ?_
  repeat (first | (s_c stepG_seq) | (s_c stepG_region_end) | (s_c stepG_block) | (s_c stepG_skip) | (s_c stepG_inBlock) | s_reg | s_op | (s_cond true) | (s_cond false))
  s_c stepG_ret'
  s_stop
  exact LoneTo.done ⟨.returned (.bool true), _, rfl, ⟨rfl, ⟨_, _, rfl⟩⟩, rfl, rfl, rfl, rfl, _, Try.func18, by simp [results, Try.f18, Frame.at]⟩

set_option maxRecDepth 100000 in
set_option maxHeartbeats 1600000 in
theorem put3_full (p cb ct cs room : Nat) (q : List Ev) (x : Ev) (w : World) (h : LB w p cb ct cs room q) (hk : x.kind = 3) (hr : room ≤ (sBuf q).size) :
    Calls Try.prog 18 #[.pointer (some ⟨p, 0, none⟩), .agg #[.int .i64 x.kind, .int .u8 x.byte, .int .i64 x.rows, .int .i64 x.cols]] w fun e w' => e = .returned (.bool false) ∧ w' = (w.alloc (.cells #[.int .i64 3, .int .u8 x.byte, .int .i64 x.rows, .int .i64 x.cols] 30)) := by
  rw [hk]
  obtain ⟨s, r, hc⟩ := h.s
  have hlc := (h.s).lt
  have hp0 := h.bx.cell 0
  have hp1 := h.bx.cell 1
  have hp2 := h.bx.cell 2
  have hlt := h.bx.lt
  refine calls_of_loneTo fun cs' => ?_
  have e : Frame.enter Try.prog 18 #[.pointer (some ⟨p, 0, none⟩), .agg #[.int .i64 3, .int .u8 x.byte, .int .i64 x.rows, .int .i64 x.cols]] .normal = (base 18).at ⟨#[.pointer (some ⟨p, 0, none⟩), .agg #[.int .i64 3, .int .u8 x.byte, .int .i64 x.rows, .int .i64 x.cols], undef, undef, undef, undef, undef, undef, undef, undef, undef, undef, undef, undef, undef, undef, undef, undef, undef, undef, undef, undef, undef, undef, undef, undef, undef, undef, undef, undef, undef, undef, undef, undef, undef, undef, undef, undef, undef, undef, undef, undef, undef], []⟩ [.code (Try.f18.body.getD .skip)] := by
    simp [Frame.enter, Frame.at, Try.func18, base, Try.f18]
  rw [e]
  clear e
  refine LoneTo.goes (n := 300) ?_
  simp only [Try.f18, Option.getD_some]
  repeat (first | (s_c stepG_seq) | (s_c stepG_region_end) | (s_c stepG_block) | (s_c stepG_skip) | (s_c stepG_inBlock) | s_reg | s_op | (s_cond true) | (s_cond false))
  s_stop
  refine LoneTo.step (step_lone_select_send_full (c := cs) (cap := room) (buf := sBuf q) (s := s) (r := r) (tm := false) (stepG_comm (cases := #[scase cs (.agg #[.int .i64 x.rows, .int .i64 x.cols]) (.agg #[.int .i64 0, .int .i64 0])]) (blocking := false) (shape := .select) (w' := (w.alloc (.cells #[.int .i64 3, .int .u8 x.byte, .int .i64 x.rows, .int .i64 x.cols] 30))) rfl rfl (by decide) (by simp [go_sem, execOp, scase, Act.eval])) ((Below.heap_alloc w _ cs hlc).trans hc) hr) ?_
  rw [Frame.finish_at]
  walk_nrm
  refine LoneTo.goes (n := 200) ?_
  repeat (first | (s_c stepG_seq) | (s_c stepG_region_end) | (s_c stepG_block) | (s_c stepG_skip) | (s_c stepG_inBlock) | s_reg | s_op | (s_cond true) | (s_cond false))
  s_c stepG_ret'
  s_stop
  exact LoneTo.done ⟨.returned (.bool false), _, rfl, ⟨rfl, rfl⟩, rfl, rfl, rfl, rfl, _, Try.func18, by simp [results, Try.f18, Frame.at]⟩

end Go.Proofs.Ytakbfppmgngdiaa
