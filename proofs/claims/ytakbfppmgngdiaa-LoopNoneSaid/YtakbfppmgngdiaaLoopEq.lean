/-
  package loop: New and Len; '==' and '!=' on the same event, and on the same three numbers. Conditions: the box is in memory.
-/
import Derived.Test.YtakbfppmgngdiaaBoxNext
import Derived.Laws.StructEq
import Derived.ChangeKeysEq
import Derived.Conc.LoneSelectN
import Derived.Deep.RegionHeld3
import Derived.Deep.DrawnRows
namespace Go.Proofs.Ytakbfppmgngdiaa
open Go.RowKit Go.Conc

theorem guard_ev : Try.prog.eqGuardType Try.prog.depth 30 = false := by kernel_rfl
theorem guard_three : Try.prog.eqGuardType Try.prog.depth 36 = false := by kernel_rfl

set_option maxRecDepth 10000 in
theorem neq_ev (a b c d : Int) (w : World) : (binOp .neq 30 (.agg #[.int .i64 a, .int .u8 b, .int .i64 c, .int .i64 d]) (.agg #[.int .i64 a, .int .u8 b, .int .i64 c, .int .i64 d])).run Try.prog w = .ok (.bool false) w := by
  rw [run_neq_struct, run_equalIn_struct _ _ _ _ _ (by simp only [Program.fieldsOf, Try.underlying30]) (by kernel_rfl)]
  simp only [Program.fieldsOf, Try.underlying30]
  simp [go_sem, Op.eqFields, Try.underlying3, Try.underlying5]
set_option maxRecDepth 10000 in
theorem eq_three (a b c : Int) (w : World) : (Op.equalIn 10000 36 (.agg #[.int .i64 a, .int .i64 b, .int .i64 c]) (.agg #[.int .i64 a, .int .i64 b, .int .i64 c])).run Try.prog w = .ok true w := by
  have hI : (Try.prog.info? 3).map (fun i => i.size) = some 1 := by kernel_rfl
  obtain ⟨i, hi, _⟩ := Option.map_eq_some_iff.1 hI
  rw [run_equalIn_array _ _ _ _ Try.underlying36 hi]
  have c1 : Try.prog.cellsOf 3 = 1 := by kernel_rfl
  rw [c1]
  simp [go_sem, Op.eqItems, Try.underlying3, List.range, List.range.loop]
theorem neq_three (a b c : Int) (w : World) : (binOp .neq 36 (.agg #[.int .i64 a, .int .i64 b, .int .i64 c]) (.agg #[.int .i64 a, .int .i64 b, .int .i64 c])).run Try.prog w = .ok (.bool false) w := by
  rw [run_neq_struct, eq_three]; rfl
theorem eql_three (a b c : Int) (w : World) : (binOp .eql 36 (.agg #[.int .i64 a, .int .i64 b, .int .i64 c]) (.agg #[.int .i64 a, .int .i64 b, .int .i64 c])).run Try.prog w = .ok (.bool true) w := by
  rw [run_eql_struct, eq_three]; rfl

theorem info_of (t : TypeId) (n : Nat) (h : (Try.prog.info? t).map (fun i => i.bytes) = some n) : ∃ i, Try.prog.info? t = some i ∧ i.bytes = n := by
  obtain ⟨i, hi, hb⟩ := Option.map_eq_some_iff.1 h
  exact ⟨i, hi, hb⟩
theorem mkB (n : Nat) (hn : n ≤ 65536) (w : World) : (Instr.makeChan 105 (.int .i64 n)).run Try.prog w = .ok (.chan (some w.heap.size)) (w.alloc (.chan n #[] false 0 0 false)) := by
  obtain ⟨i, hi, hb⟩ := info_of 5 1 (by kernel_rfl)
  simpa using run_makeChan (P := Try.prog) (w := w) Try.underlying105 hi .i64 n (by omega) (by rw [hb]; omega)
theorem mkT (n : Nat) (hn : n ≤ 65536) (w : World) : (Instr.makeChan 106 (.int .i64 n)).run Try.prog w = .ok (.chan (some w.heap.size)) (w.alloc (.chan n #[] false 0 0 false)) := by
  obtain ⟨i, hi, hb⟩ := info_of 4 1 (by kernel_rfl)
  simpa using run_makeChan (P := Try.prog) (w := w) Try.underlying106 hi .i64 n (by omega) (by rw [hb]; omega)
theorem mkS (n : Nat) (hn : n ≤ 65536) (w : World) : (Instr.makeChan 107 (.int .i64 n)).run Try.prog w = .ok (.chan (some w.heap.size)) (w.alloc (.chan n #[] false 0 0 false)) := by
  obtain ⟨i, hi, hb⟩ := info_of 110 16 (by kernel_rfl)
  simpa using run_makeChan (P := Try.prog) (w := w) Try.underlying107 hi .i64 n (by omega) (by rw [hb]; omega)

theorem new_none (room : Int) (h : room < 1 ∨ 65536 < room) (w : World) : Calls Try.prog 15 #[.int .i64 room] w fun e w' => e = .returned (.pointer none) ∧ w' = w := by
  by_cases h1 : room < 1
  · go_enter Try.func15, Try.ntmps15
    go_wp2
    go_ret
    exact ⟨rfl, rfl⟩
  · have h2 : 65536 < room := by omega
    go_enter Try.func15, Try.ntmps15
    go_wp2
    go_ret
    exact ⟨rfl, rfl⟩

theorem three_chans (w : World) (n : Nat) (o : Obj) : let W := ((((w.alloc (.chan n #[] false 0 0 false)).alloc (.chan n #[] false 0 0 false)).alloc (.chan n #[] false 0 0 false)).alloc o).drew
    Ch W w.heap.size n #[] ∧ Ch W (w.heap.size + 1) n #[] ∧ Ch W (w.heap.size + 1 + 1) n #[] ∧ Kp w W ∧ W.heap[w.heap.size + 1 + 1 + 1]? = some o := by
  have a1 : Ch (w.alloc (.chan n #[] false 0 0 false)) w.heap.size n #[] := ⟨0, 0, heap_alloc_new w _⟩
  have a2 : Ch ((w.alloc (.chan n #[] false 0 0 false)).alloc (.chan n #[] false 0 0 false)) (w.heap.size + 1) n #[] := ⟨0, 0, by have := heap_alloc_new (w.alloc (.chan n #[] false 0 0 false)) (.chan n #[] false 0 0 false); rwa [World.size_alloc] at this⟩
  have a3 : Ch (((w.alloc (.chan n #[] false 0 0 false)).alloc (.chan n #[] false 0 0 false)).alloc (.chan n #[] false 0 0 false)) (w.heap.size + 1 + 1) n #[] := ⟨0, 0, by
    have := heap_alloc_new ((w.alloc (.chan n #[] false 0 0 false)).alloc (.chan n #[] false 0 0 false)) (.chan n #[] false 0 0 false)
    rw [World.size_alloc, World.size_alloc] at this; exact this⟩
  have a4 : (((((w.alloc (.chan n #[] false 0 0 false)).alloc (.chan n #[] false 0 0 false)).alloc (.chan n #[] false 0 0 false)).alloc o)).heap[w.heap.size + 1 + 1 + 1]? = some o := by
    have := heap_alloc_new (((w.alloc (.chan n #[] false 0 0 false)).alloc (.chan n #[] false 0 0 false)).alloc (.chan n #[] false 0 0 false)) o
    rw [World.size_alloc, World.size_alloc, World.size_alloc] at this; exact this
  have k := fun (v : World) => (Kp.refl v).alloc (.chan n #[] false 0 0 false)
  have ko := fun (v : World) => ((Kp.refl v).alloc o).drew
  exact ⟨((a1.kp (k _)).kp (k _)).kp (ko _), (a2.kp (k _)).kp (ko _), a3.kp (ko _), (((k _).trans (k _)).trans (k _)).trans (ko _), a4⟩

set_option maxRecDepth 100000 in
set_option maxHeartbeats 1600000 in
theorem new_some (room : Nat) (h1 : 1 ≤ room) (h2 : room ≤ 65536) (w : World) : Calls Try.prog 15 #[.int .i64 room] w fun e w' => ∃ p cb ct cs, e = .returned (.pointer (some ⟨p, 0, none⟩)) ∧ LB w' p cb ct cs room [] ∧ Kp w w' ∧ (w.heap.size ≤ p ∧ w.heap.size ≤ cb ∧ w.heap.size ≤ ct ∧ w.heap.size ≤ cs) := by
  have hB := mkB room h2
  have hT := mkT room h2
  have hS := mkS room h2
  go_enter Try.func15, Try.ntmps15
  go_wp2
  go_region
  all_goals go_wp2
  all_goals
    go_ret
    obtain ⟨a1, a2, a3, kp, a4⟩ := three_chans w room _
    refine ⟨_, _, _, _, rfl, ⟨a4, ?_, ?_, ?_, by omega⟩, kp, by omega⟩
    all_goals first | exact a1 | exact a2 | exact a3

set_option maxRecDepth 100000 in
set_option maxHeartbeats 1600000 in
theorem len_any (p cb ct cs room : Nat) (q : List Ev) (w : World) (h : LB w p cb ct cs room q) :
    Calls Try.prog 20 #[.pointer (some ⟨p, 0, none⟩)] w fun e w' => e = .returned (.agg #[.int .i64 (ofK 1 q).length, .int .i64 (ofK 2 q).length, .int .i64 (ofK 3 q).length]) ∧ Kp w w' := by
  have ka := (Kp.refl w).alloc (.cells #[.int .i64 0, .int .i64 0, .int .i64 0] 36)
  obtain ⟨sb, rb, hb⟩ := h.b.kp ka
  obtain ⟨st, rt, ht⟩ := h.t.kp ka
  obtain ⟨ss, rs, hs⟩ := h.s.kp ka
  have lb := run_len_chan (P := Try.prog) (w := w.alloc (.cells #[.int .i64 0, .int .i64 0, .int .i64 0] 36)) 105 3 Try.underlying105 hb
  have lt := run_len_chan (P := Try.prog) (w := w.alloc (.cells #[.int .i64 0, .int .i64 0, .int .i64 0] 36)) 106 3 Try.underlying106 ht
  have ls := run_len_chan (P := Try.prog) (w := w.alloc (.cells #[.int .i64 0, .int .i64 0, .int .i64 0] 36)) 107 3 Try.underlying107 hs
  have lb' := run_len_chan (P := Try.prog) (w := (w.alloc (.cells #[.int .i64 0, .int .i64 0, .int .i64 0] 36)).drew) 105 3 Try.underlying105 hb
  have lt' := run_len_chan (P := Try.prog) (w := (w.alloc (.cells #[.int .i64 0, .int .i64 0, .int .i64 0] 36)).drew) 106 3 Try.underlying106 ht
  have ls' := run_len_chan (P := Try.prog) (w := (w.alloc (.cells #[.int .i64 0, .int .i64 0, .int .i64 0] 36)).drew) 107 3 Try.underlying107 hs
  rw [bBuf_size] at lb lb'
  rw [tBuf_size] at lt lt'
  rw [sBuf_size] at ls ls'
  have p0 := h.bx.cell 0
  have p1 := h.bx.cell 1
  have p2 := h.bx.cell 2
  have hlp := h.bx.lt
  clear h hb ht hs ka
  go_enter Try.func20, Try.ntmps20
  go_wp2
  go_region
  all_goals go_wp2
  all_goals
    refine bodyPost_ret (v := .agg #[.int .i64 (ofK 1 q).length, .int .i64 (ofK 2 q).length, .int .i64 (ofK 3 q).length]) (by simp [results, Try.results20, go_sem]) rfl ?_
    exact ⟨rfl, ((Kp.refl _).alloc _).drew⟩
end Go.Proofs.Ytakbfppmgngdiaa
