/-
  slices.Backward over a slice of texts: its contract as an iterator that reads memory: for every loop body that keeps what lay below n₀. Conditions: the slice lies below n₀.
-/
import Derived.RangeFuncNested
import Derived.RangeFuncBound
import Derived.RangeFuncBox
import Derived.RangeFuncCalls
import Derived.RangeFuncLeaves
import Derived.Shelf.Abstract
import Derived.Shelf.RegionOpen
import Derived.WalkKit
import Derived.OwnWalkIn
import Derived.TacticsInMore
import Derived.LoopNIn
import Derived.LoopIn
import Derived.Test.YtcbachblhfkcoaaPast
namespace Go.Proofs.Ytcbachblhfkcoaa
open Go.RowKit Go.Shelf
attribute [local go_sem] Oper.semAt_some

theorem Sl.below {W W' : World} {n₀ size : Nat} {A : Option Addr} {n c : Nat} {vs : List Value} (h : Sl W (To n₀) size A n c vs) (k : Below n₀ W W') : Sl W' (To n₀) size A n c vs :=
  Sl.frame h k.size fun i hi _ => k.block i hi

/-- What has come when all but the first k have. -/
def downs (len k : Nat) : List Nat := ((List.range len).drop k).reverse
theorem downs_all (len : Nat) : downs len len = [] := by simp [downs]
theorem downs_succ (len k : Nat) (h : k < len) : downs len k = downs len (k + 1) ++ [k] := by
  unfold downs
  have : (List.range len).drop k = k :: (List.range len).drop (k + 1) := by
    rw [List.drop_eq_getElem_cons (by simpa using h)]; simp
  rw [this, List.reverse_cons]
theorem downs_length (len k : Nat) : (downs len k).length = len - k := by simp [downs]

/-- What a round must keep: what lay below n₀, and the block that holds the slice. -/
def KpB (n₀ Bs : Nat) (W W' : World) : Prop := Below n₀ W W' ∧ W'.heap[Bs]? = W.heap[Bs]?
theorem KpB.refl {n₀ Bs : Nat} (W : World) : KpB n₀ Bs W W := ⟨Below.refl _ _, rfl⟩
theorem KpB.trans {n₀ Bs : Nat} {A B C : World} (h : KpB n₀ Bs A B) (k : KpB n₀ Bs B C) : KpB n₀ Bs A C := ⟨h.1.trans k.1, k.2.trans h.2⟩
theorem KpB.b {n₀ Bs : Nat} {w : World} (hn : n₀ ≤ w.heap.size) (hB : Bs < w.heap.size) (W : World) (l : Nat) (o o' : Obj) (hl : w.heap.size ≤ l) (h : W.heap[l]? = some o) (h1 : o.isCells = false) (h2 : o.isWalk = false) : KpB n₀ Bs W (W.putObj l o') :=
  ⟨belowK_b hn W l o o' hl h h1 h2, World.putObj_heap_other (by omega)⟩
theorem KpB.bx {n₀ Bs : Nat} {W W' : World} (h : KpB n₀ Bs W W') {cs : Array Value} {t : TypeId} (hb : Bx W Bs cs t) : Bx W' Bs cs t := h.2.trans hb

set_option maxRecDepth 100000 in
set_option maxHeartbeats 2000000 in
theorem back1_in (F : Fence) (n : Nat) (h7 : F.fn 58) (hro : F.round = none) (hn : 1 ≤ n) (l Bs n₀ : Nat) (A : Option Addr) (len cap : Nat) (vs : List Value) (J Jx : List (Fin len) → World → Prop)
    (hY : ∀ pre x W, J pre W → pre.length < len → YieldAt F (n - 1) Try.prog l #[.int .i64 (x.1 : Int), vs[x.1]?.getD undef] W fun e W' =>
      (e = .returned (.bool true) ∧ J (pre ++ [x]) W' ∧ KpB n₀ Bs W W') ∨ (e = .returned (.bool false) ∧ Jx (pre ++ [x]) W'))
    (W : World) (hBs : Bx W Bs #[.slice A len cap] 22) (hS : Sl W (To n₀) 1 A len cap vs) (h0 : J [] W) :
    CallsIn F n Try.prog 58 #[.func (.yield l) #[] #[], .pointer (some ⟨Bs, 0, none⟩)] W fun e W' => (∃ v, e = .returned v) ∧
      ((∃ ys : List (Fin len), ys.map (·.1) = downs len 0 ∧ J ys W') ∨ (∃ pre : List (Fin len), (∃ k, k ≤ len ∧ pre.map (·.1) = downs len k) ∧ Jx pre W')) := by
  have hcl := hS.cap
  have hle := hS.le
  unfold maxLen at hcl
  refine callsIn_of_wp Try.func58 rfl h7 ?_ hro
  simp only [Try.ntmps58, List.size_toArray, List.length_cons, List.length_nil, Nat.reduceAdd, Nat.reduceSub, Array.replicate_succ, Array.replicate_zero, List.push_toArray, List.append_toArray, List.nil_append, List.cons_append]
  have hb1 := hBs.cell 0
  gi_wp2
  clear hb1
  gi_loopw [3] (fun i wr => ∃ (k : Nat) (pre : List (Fin len)), k ≤ len ∧ i = .int .i64 ((k : Int) - 1) ∧ pre.map (·.1) = downs len k ∧ J pre wr ∧ KpB n₀ Bs W wr)
    (fun i _ => (intOf i + 1).toNat)
  case atStart => exact ⟨len, [], Nat.le_refl _, rfl, by rw [downs_all]; rfl, h0, KpB.refl _⟩
  case round =>
    obtain ⟨k, pre, hk, rfl, hpre, hJs, hnx⟩ := hrel
    have hpl : pre.length = len - k := by rw [← downs_length, ← hpre, List.length_map]
    cases k with
    | zero =>
      gi_wp2
      go_end0
      exact ⟨⟨_, rfl⟩, .inl ⟨pre, hpre, hJs⟩⟩
    | succ k =>
      have hk1 : ((k + 1 : Nat) : Int) - 1 = (k : Int) := by omega
      rw [hk1]
      have hlt : k < len := by omega
      obtain ⟨ad, u, rfl, hu, hc⟩ := (Sl.below hS hnx.1).get hlt
      have hb2 := (hnx.bx hBs).cell 0
      obtain ⟨fn, tmps, assign, body, hy, hR⟩ := hY _ ⟨k, hlt⟩ wr hJs (by omega)
      dsimp only at hy
      rw [hu, Option.getD_some] at hy
      have hdn := downs_succ len k hlt
      have HP : Hid ((pre ++ [(⟨k, hlt⟩ : Fin len)]).map (fun x => x.1) = downs len k) := by show _ = _; rw [hdn, List.map_append, hpre]; rfl
      clear hdn hpre hpl hk1 hu
      gi_wp2
      refine hR.mono ?_
      rintro e W3 (⟨rfl, hJ3, hk3⟩ | ⟨rfl, hJx3⟩)
      · gi_wp2
        go_roundw
        case rel => exact ⟨k, _, by omega, rfl, HP.out, hJ3, hnx.trans hk3⟩
        case measure => simp [intOf]
      · gi_wp2
        refine bodyPost_ret (results_none rfl _ _ _) rfl ?_
        exact ⟨⟨_, rfl⟩, .inr ⟨_, ⟨k, by omega, HP.out⟩, hJx3⟩⟩

set_option maxHeartbeats 1000000 in
/-- slices.Backward: the slice is boxed, the function value captures the box. -/
theorem back_in (F : Fence) (n : Nat) (h6 : F.fn 47) (hro : F.round = none) (a : Option Addr) (len cap : Nat) (w : World) :
    CallsIn F n Try.prog 47 #[.slice a len cap] w fun e w' => e = .returned (.func (.func 58) #[] #[.pointer (some ⟨w.heap.size, 0, none⟩)]) ∧ w' = w.alloc (.cells #[.slice a len cap] 22) := by
  refine callsIn_of_wp Try.func47 rfl h6 ?_ hro
  simp only [Try.ntmps47, List.size_toArray, List.length_cons, List.length_nil, Nat.reduceAdd, Nat.reduceSub, Array.replicate_succ, Array.replicate_zero, List.push_toArray, List.append_toArray, List.nil_append, List.cons_append]
  gi_wp2
  go_ret
  exact ⟨rfl, rfl⟩

theorem back_stops (F : Fence) (n : Nat) (h7 : F.fn 58) (hro : F.round = none) (hn : 1 ≤ n) (Bs n₀ : Nat) (A : Option Addr) (len cap : Nat) (vs : List Value) (w : World) (hn₀ : n₀ ≤ w.heap.size)
    (hBs : Bx w Bs #[.slice A len cap] 22) (hS : Sl w (To n₀) 1 A len cap vs) :
    SeqStopsK F n Try.prog 58 #[.pointer (some ⟨Bs, 0, none⟩)] (fun x : Fin len => #[Value.int .i64 (x.1 : Int), vs[x.1]?.getD undef]) (KpB n₀ Bs) (fun ys => ys.map (·.1) = downs len 0)
      (fun pre => ∃ k, k ≤ len ∧ pre.map (·.1) = downs len k) len w := fun l J Jx W hW _ _ hY h0 =>
  back1_in F n h7 hro hn l Bs n₀ A len cap vs J Jx hY W ((hW.block _ hBs.lt).trans hBs) (Sl.below hS (hW.mono hn₀)) h0
end Go.Proofs.Ytcbachblhfkcoaa
