/-
  package past: Go: what it returns, as the plain functions of PastM; the memory that was there stays. Conditions as in Past.
-/
import Derived.Test.YtcbachblhfkcoaaPast
namespace Go.Proofs.Ytcbachblhfkcoaa
open Go.RowKit

/-- A past, a line and a truth come back: out of blocks that F lets. -/
def RetGo (F : Nat → Prop) (L : List (List Int)) (at_ : Int) (st : List Int) (o : Option (List Int)) (w : World) (e : Ending) (w' : World) : Prop :=
  ∃ A n c B m d C k f, e = .returned (.tuple #[.agg #[.slice A n c, .int .i64 at_, .slice B m d], .slice C k f, .bool o.isSome]) ∧ Txs w' F F A n c L ∧ Ru w' F B m d st ∧ Ru w' F C k f (o.getD []) ∧ Kp w w'

set_option maxHeartbeats 800000 in
theorem past_go_none (F F2 : Nat → Prop) (A B C : Option Addr) (n c m d k e : Nat) (at_ i : Int) (L : List (List Int)) (st now : List Int) (w : World)
    (hF : ∀ k, w.heap.size ≤ k → F k) (hT : Txs w F F A n c L) (hS : Ru w F B m d st) (hN : Ru w F2 C k e now) (hn : n ≤ 2000) (hm : m ≤ 1099511627776) (hk : k ≤ 1099511627776) (hL : ∀ x ∈ L, x.length ≤ 1099511627776)
    (ho : lineM L at_ st i now = none) :
    Calls Try.prog 17 #[.agg #[.slice A n c, .int .i64 at_, .slice B m d], .int .i64 i, .slice C k e] w (RetGo F L at_ st none w) := by
  have HO := Lib.hid ho
  have HL := Lib.hid hL
  have HF := Lib.hid hF
  clear ho hL hF
  go_enter Try.func17, Try.ntmps17
  go_wp2_with fail
  have KP : Kp w ((w.alloc (.cells #[.slice A n c, .int .i64 at_, .slice B m d] 27)).alloc (.cells #[.slice none 0 0, .int .i64 0, .slice none 0 0] 27)) := ((Kp.refl _).alloc _).alloc _
  refine (past_line F F F F2 A B C n c m d k e at_ i L st now _ (hT.kp KP) (hS.kp KP) (hN.kp KP) hn hm hk HL.out).mono ?_
  rintro e w1 ⟨A1, n1, c1, rfl, hr1, hk1⟩
  rw [HO.out] at hr1 ⊢
  obtain ⟨hc1, hf1⟩ := hk1.cells
  have hz1 : w.heap.size + 1 < w1.heap.size := by have := hk1.size; simp at this; omega
  have hy1 : w.heap.size < w1.heap.size := by omega
  have KP1 := KP.trans hk1
  have _hr1f : Ru w1 (fun k => w.heap.size ≤ k ∧ k ≠ w.heap.size ∧ k ≠ w.heap.size + 1) A1 n1 c1 [] := hr1.weak (fun k _ hk => by unfold From at hk; simp at hk; omega)
  have e0 : ∀ i, i < 3 → (w1.cell? ⟨w.heap.size + 1, i, none⟩).isSome = true := fun i hi => by
    rw [hc1 _ _ (by simp)]
    match i, hi with
    | 0, _ => simp
    | 1, _ => simp
    | 2, _ => simp
  have e1 := e0 0 (by omega)
  have e2 := e0 1 (by omega)
  have e3 := e0 2 (by omega)
  clear e0
  go_wp2_with fail
  refine bodyPost_ret (v := .tuple #[.agg #[.slice A n c, .int .i64 at_, .slice B m d], .slice none 0 0, .bool false]) (by simp [results, Try.results17, go_sem, e1, e2, e3]) rfl ?_
  have KF := (((KP1.setCell (p := ⟨w.heap.size + 1, 0, none⟩) (by simp) (.slice A n c)).setCell (p := ⟨w.heap.size + 1, 1, none⟩) (by simp) (.int .i64 at_)).setCell (p := ⟨w.heap.size + 1, 2, none⟩) (by simp) (.slice B m d))
  have _h := HF.out
  exact ⟨A, n, c, B, m, d, none, 0, 0, rfl, hT.kp KF, hS.kp KF, Ru.nil _ _, KF⟩

set_option maxHeartbeats 800000 in
theorem past_go_a0 (F F2 : Nat → Prop) (A B C : Option Addr) (n c m d k e : Nat) (at_ i : Int) (L : List (List Int)) (st now : List Int) (w : World)
    (hF : ∀ k, w.heap.size ≤ k → F k) (hT : Txs w F F A n c L) (hS : Ru w F B m d st) (hN : Ru w F2 C k e now) (hn : n ≤ 2000) (hm : m ≤ 1099511627776) (hk : k ≤ 1099511627776) (hL : ∀ x ∈ L, x.length ≤ 1099511627776)
    (ha : (at_ == 0) = true) (hi : (i == 0) = true) (s : List Int) (ho : lineM L at_ st i now = some s) :
    Calls Try.prog 17 #[.agg #[.slice A n c, .int .i64 at_, .slice B m d], .int .i64 i, .slice C k e] w (RetGo F L i [] (some s) w) := by
  have HO := Lib.hid ho
  have HL := Lib.hid hL
  have HF := Lib.hid hF
  clear ho hL hF
  go_enter Try.func17, Try.ntmps17
  go_wp2_with fail
  have KP : Kp w ((w.alloc (.cells #[.slice A n c, .int .i64 at_, .slice B m d] 27)).alloc (.cells #[.slice none 0 0, .int .i64 0, .slice none 0 0] 27)) := ((Kp.refl _).alloc _).alloc _
  refine (past_line F F F F2 A B C n c m d k e at_ i L st now _ (hT.kp KP) (hS.kp KP) (hN.kp KP) hn hm hk HL.out).mono ?_
  rintro e w1 ⟨A1, n1, c1, rfl, hr1, hk1⟩
  rw [HO.out] at hr1 ⊢
  obtain ⟨hc1, hf1⟩ := hk1.cells
  have hz1 : w.heap.size + 1 < w1.heap.size := by have := hk1.size; simp at this; omega
  have hy1 : w.heap.size < w1.heap.size := by omega
  have KP1 := KP.trans hk1
  have hr1f : Ru w1 (fun k => w.heap.size ≤ k ∧ k ≠ w.heap.size ∧ k ≠ w.heap.size + 1) A1 n1 c1 s := hr1.weak (fun k _ hk => by unfold From at hk; simp at hk; omega)
  have e0 : ∀ i, i < 3 → (w1.cell? ⟨w.heap.size + 1, i, none⟩).isSome = true := fun i hi => by
    rw [hc1 _ _ (by simp)]
    match i, hi with
    | 0, _ => simp
    | 1, _ => simp
    | 2, _ => simp
  have e1 := e0 0 (by omega)
  have e2 := e0 1 (by omega)
  have e3 := e0 2 (by omega)
  clear e0
  go_wp2_with fail
  refine (clone32_any F2 C k e now _ (hN.kp KP1) hk).mono ?_
  rintro e w2 ⟨A2, n2, c2, rfl, hr2, hk2⟩
  obtain ⟨hc2, hf2⟩ := hk2.cells
  have hz2 : w.heap.size + 1 < w2.heap.size := by have := hk2.size; omega
  have hy2 : w.heap.size < w2.heap.size := by omega
  have KP2 := KP1.trans hk2
  clear e1 e2 e3
  have p0 : w2.cell? ⟨w.heap.size, 0, none⟩ = some (.slice A n c) := by rw [hc2 _ _ hy1, hc1 _ _ (by simp; omega)]; simp
  have q0 : w2.cell? ⟨w.heap.size + 1, 0, none⟩ = some (.slice none 0 0) := by rw [hc2 _ _ hz1, hc1 _ _ (by simp)]; simp
  have f0 : w2.frozen? ⟨w.heap.size, 0, none⟩ = false := by rw [hf2 _ _ hy1, hf1 _ _ (by simp; omega)]; simp
  have g0 : w2.frozen? ⟨w.heap.size + 1, 0, none⟩ = false := by rw [hf2 _ _ hz1, hf1 _ _ (by simp)]; simp
  have p1 : w2.cell? ⟨w.heap.size, 1, none⟩ = some (.int .i64 at_) := by rw [hc2 _ _ hy1, hc1 _ _ (by simp; omega)]; simp
  have q1 : w2.cell? ⟨w.heap.size + 1, 1, none⟩ = some (.int .i64 0) := by rw [hc2 _ _ hz1, hc1 _ _ (by simp)]; simp
  have f1 : w2.frozen? ⟨w.heap.size, 1, none⟩ = false := by rw [hf2 _ _ hy1, hf1 _ _ (by simp; omega)]; simp
  have g1 : w2.frozen? ⟨w.heap.size + 1, 1, none⟩ = false := by rw [hf2 _ _ hz1, hf1 _ _ (by simp)]; simp
  have p2 : w2.cell? ⟨w.heap.size, 2, none⟩ = some (.slice B m d) := by rw [hc2 _ _ hy1, hc1 _ _ (by simp; omega)]; simp
  have q2 : w2.cell? ⟨w.heap.size + 1, 2, none⟩ = some (.slice none 0 0) := by rw [hc2 _ _ hz1, hc1 _ _ (by simp)]; simp
  have f2 : w2.frozen? ⟨w.heap.size, 2, none⟩ = false := by rw [hf2 _ _ hy1, hf1 _ _ (by simp; omega)]; simp
  have g2 : w2.frozen? ⟨w.heap.size + 1, 2, none⟩ = false := by rw [hf2 _ _ hz1, hf1 _ _ (by simp)]; simp
  clear hc1 hf1 hc2 hf2
  go_wp2_with fail
  refine bodyPost_ret (v := .tuple #[.agg #[.slice A n c, .int .i64 i, .slice none 0 0], .slice A1 n1 c1, .bool true]) (by simp [results, Try.results17, go_sem, q0, q1, q2]) rfl ?_
  have KF := ((((((KP2.setCell (p := ⟨w.heap.size, 2, none⟩) (by simp) (.slice A2 n2 c2)).setCell (p := ⟨w.heap.size, 1, none⟩) (by simp) (.int .i64 i)).setCell (p := ⟨w.heap.size, 2, none⟩) (by simp) (.slice none 0 0)).setCell (p := ⟨w.heap.size + 1, 0, none⟩) (by simp) (.slice A n c)).setCell (p := ⟨w.heap.size + 1, 1, none⟩) (by simp) (.int .i64 i)).setCell (p := ⟨w.heap.size + 1, 2, none⟩) (by simp) (.slice none 0 0))
  have hold : ∀ k, k ≠ w.heap.size → k ≠ w.heap.size + 1 → ((((((w2.setCell ⟨w.heap.size, 2, none⟩ (.slice A2 n2 c2)).setCell ⟨w.heap.size, 1, none⟩ (.int .i64 i)).setCell ⟨w.heap.size, 2, none⟩ (.slice none 0 0)).setCell ⟨w.heap.size + 1, 0, none⟩ (.slice A n c)).setCell ⟨w.heap.size + 1, 1, none⟩ (.int .i64 i)).setCell ⟨w.heap.size + 1, 2, none⟩ (.slice none 0 0)).heap[k]? = w2.heap[k]? := fun k h1 h2 => by
    rw [Below.heap_setCell _ _ _ _ h2, Below.heap_setCell _ _ _ _ h2, Below.heap_setCell _ _ _ _ h2, Below.heap_setCell _ _ _ _ h1, Below.heap_setCell _ _ _ _ h1, Below.heap_setCell _ _ _ _ h1]
  have hsz : w2.heap.size ≤ ((((((w2.setCell ⟨w.heap.size, 2, none⟩ (.slice A2 n2 c2)).setCell ⟨w.heap.size, 1, none⟩ (.int .i64 i)).setCell ⟨w.heap.size, 2, none⟩ (.slice none 0 0)).setCell ⟨w.heap.size + 1, 0, none⟩ (.slice A n c)).setCell ⟨w.heap.size + 1, 1, none⟩ (.int .i64 i)).setCell ⟨w.heap.size + 1, 2, none⟩ (.slice none 0 0)).heap.size := by simp [World.setCell]
  have hs1 : Ru ((((((w2.setCell ⟨w.heap.size, 2, none⟩ (.slice A2 n2 c2)).setCell ⟨w.heap.size, 1, none⟩ (.int .i64 i)).setCell ⟨w.heap.size, 2, none⟩ (.slice none 0 0)).setCell ⟨w.heap.size + 1, 0, none⟩ (.slice A n c)).setCell ⟨w.heap.size + 1, 1, none⟩ (.int .i64 i)).setCell ⟨w.heap.size + 1, 2, none⟩ (.slice none 0 0)) F A1 n1 c1 s := Sl.weak (F := fun k => w.heap.size ≤ k ∧ k ≠ w.heap.size ∧ k ≠ w.heap.size + 1) (Sl.frame (hr1f.kp hk2) hsz fun k hk _ => hold k hk.2.1 hk.2.2) (fun k _ hk => HF.out k hk.1)
  refine ⟨A, n, c, none, 0, 0, A1, n1, c1, rfl, hT.kp KF, ?_, hs1, KF⟩
  exact Ru.nil _ _

set_option maxHeartbeats 800000 in
theorem past_go_a1 (F F2 : Nat → Prop) (A B C : Option Addr) (n c m d k e : Nat) (at_ i : Int) (L : List (List Int)) (st now : List Int) (w : World)
    (hF : ∀ k, w.heap.size ≤ k → F k) (hT : Txs w F F A n c L) (hS : Ru w F B m d st) (hN : Ru w F2 C k e now) (hn : n ≤ 2000) (hm : m ≤ 1099511627776) (hk : k ≤ 1099511627776) (hL : ∀ x ∈ L, x.length ≤ 1099511627776)
    (ha : (at_ == 0) = true) (hi : (i == 0) = false) (s : List Int) (ho : lineM L at_ st i now = some s) :
    Calls Try.prog 17 #[.agg #[.slice A n c, .int .i64 at_, .slice B m d], .int .i64 i, .slice C k e] w (RetGo F L i now (some s) w) := by
  have HO := Lib.hid ho
  have HL := Lib.hid hL
  have HF := Lib.hid hF
  clear ho hL hF
  go_enter Try.func17, Try.ntmps17
  go_wp2_with fail
  have KP : Kp w ((w.alloc (.cells #[.slice A n c, .int .i64 at_, .slice B m d] 27)).alloc (.cells #[.slice none 0 0, .int .i64 0, .slice none 0 0] 27)) := ((Kp.refl _).alloc _).alloc _
  refine (past_line F F F F2 A B C n c m d k e at_ i L st now _ (hT.kp KP) (hS.kp KP) (hN.kp KP) hn hm hk HL.out).mono ?_
  rintro e w1 ⟨A1, n1, c1, rfl, hr1, hk1⟩
  rw [HO.out] at hr1 ⊢
  obtain ⟨hc1, hf1⟩ := hk1.cells
  have hz1 : w.heap.size + 1 < w1.heap.size := by have := hk1.size; simp at this; omega
  have hy1 : w.heap.size < w1.heap.size := by omega
  have KP1 := KP.trans hk1
  have hr1f : Ru w1 (fun k => w.heap.size ≤ k ∧ k ≠ w.heap.size ∧ k ≠ w.heap.size + 1) A1 n1 c1 s := hr1.weak (fun k _ hk => by unfold From at hk; simp at hk; omega)
  have e0 : ∀ i, i < 3 → (w1.cell? ⟨w.heap.size + 1, i, none⟩).isSome = true := fun i hi => by
    rw [hc1 _ _ (by simp)]
    match i, hi with
    | 0, _ => simp
    | 1, _ => simp
    | 2, _ => simp
  have e1 := e0 0 (by omega)
  have e2 := e0 1 (by omega)
  have e3 := e0 2 (by omega)
  clear e0
  go_wp2_with fail
  refine (clone32_any F2 C k e now _ (hN.kp KP1) hk).mono ?_
  rintro e w2 ⟨A2, n2, c2, rfl, hr2, hk2⟩
  obtain ⟨hc2, hf2⟩ := hk2.cells
  have hz2 : w.heap.size + 1 < w2.heap.size := by have := hk2.size; omega
  have hy2 : w.heap.size < w2.heap.size := by omega
  have KP2 := KP1.trans hk2
  clear e1 e2 e3
  have p0 : w2.cell? ⟨w.heap.size, 0, none⟩ = some (.slice A n c) := by rw [hc2 _ _ hy1, hc1 _ _ (by simp; omega)]; simp
  have q0 : w2.cell? ⟨w.heap.size + 1, 0, none⟩ = some (.slice none 0 0) := by rw [hc2 _ _ hz1, hc1 _ _ (by simp)]; simp
  have f0 : w2.frozen? ⟨w.heap.size, 0, none⟩ = false := by rw [hf2 _ _ hy1, hf1 _ _ (by simp; omega)]; simp
  have g0 : w2.frozen? ⟨w.heap.size + 1, 0, none⟩ = false := by rw [hf2 _ _ hz1, hf1 _ _ (by simp)]; simp
  have p1 : w2.cell? ⟨w.heap.size, 1, none⟩ = some (.int .i64 at_) := by rw [hc2 _ _ hy1, hc1 _ _ (by simp; omega)]; simp
  have q1 : w2.cell? ⟨w.heap.size + 1, 1, none⟩ = some (.int .i64 0) := by rw [hc2 _ _ hz1, hc1 _ _ (by simp)]; simp
  have f1 : w2.frozen? ⟨w.heap.size, 1, none⟩ = false := by rw [hf2 _ _ hy1, hf1 _ _ (by simp; omega)]; simp
  have g1 : w2.frozen? ⟨w.heap.size + 1, 1, none⟩ = false := by rw [hf2 _ _ hz1, hf1 _ _ (by simp)]; simp
  have p2 : w2.cell? ⟨w.heap.size, 2, none⟩ = some (.slice B m d) := by rw [hc2 _ _ hy1, hc1 _ _ (by simp; omega)]; simp
  have q2 : w2.cell? ⟨w.heap.size + 1, 2, none⟩ = some (.slice none 0 0) := by rw [hc2 _ _ hz1, hc1 _ _ (by simp)]; simp
  have f2 : w2.frozen? ⟨w.heap.size, 2, none⟩ = false := by rw [hf2 _ _ hy1, hf1 _ _ (by simp; omega)]; simp
  have g2 : w2.frozen? ⟨w.heap.size + 1, 2, none⟩ = false := by rw [hf2 _ _ hz1, hf1 _ _ (by simp)]; simp
  clear hc1 hf1 hc2 hf2
  go_wp2_with fail
  refine bodyPost_ret (v := .tuple #[.agg #[.slice A n c, .int .i64 i, .slice A2 n2 c2], .slice A1 n1 c1, .bool true]) (by simp [results, Try.results17, go_sem, q0, q1, q2]) rfl ?_
  have KF := (((((KP2.setCell (p := ⟨w.heap.size, 2, none⟩) (by simp) (.slice A2 n2 c2)).setCell (p := ⟨w.heap.size, 1, none⟩) (by simp) (.int .i64 i)).setCell (p := ⟨w.heap.size + 1, 0, none⟩) (by simp) (.slice A n c)).setCell (p := ⟨w.heap.size + 1, 1, none⟩) (by simp) (.int .i64 i)).setCell (p := ⟨w.heap.size + 1, 2, none⟩) (by simp) (.slice A2 n2 c2))
  have hold : ∀ k, k ≠ w.heap.size → k ≠ w.heap.size + 1 → (((((w2.setCell ⟨w.heap.size, 2, none⟩ (.slice A2 n2 c2)).setCell ⟨w.heap.size, 1, none⟩ (.int .i64 i)).setCell ⟨w.heap.size + 1, 0, none⟩ (.slice A n c)).setCell ⟨w.heap.size + 1, 1, none⟩ (.int .i64 i)).setCell ⟨w.heap.size + 1, 2, none⟩ (.slice A2 n2 c2)).heap[k]? = w2.heap[k]? := fun k h1 h2 => by
    rw [Below.heap_setCell _ _ _ _ h2, Below.heap_setCell _ _ _ _ h2, Below.heap_setCell _ _ _ _ h2, Below.heap_setCell _ _ _ _ h1, Below.heap_setCell _ _ _ _ h1]
  have hsz : w2.heap.size ≤ (((((w2.setCell ⟨w.heap.size, 2, none⟩ (.slice A2 n2 c2)).setCell ⟨w.heap.size, 1, none⟩ (.int .i64 i)).setCell ⟨w.heap.size + 1, 0, none⟩ (.slice A n c)).setCell ⟨w.heap.size + 1, 1, none⟩ (.int .i64 i)).setCell ⟨w.heap.size + 1, 2, none⟩ (.slice A2 n2 c2)).heap.size := by simp [World.setCell]
  have hs1 : Ru (((((w2.setCell ⟨w.heap.size, 2, none⟩ (.slice A2 n2 c2)).setCell ⟨w.heap.size, 1, none⟩ (.int .i64 i)).setCell ⟨w.heap.size + 1, 0, none⟩ (.slice A n c)).setCell ⟨w.heap.size + 1, 1, none⟩ (.int .i64 i)).setCell ⟨w.heap.size + 1, 2, none⟩ (.slice A2 n2 c2)) F A1 n1 c1 s := Sl.weak (F := fun k => w.heap.size ≤ k ∧ k ≠ w.heap.size ∧ k ≠ w.heap.size + 1) (Sl.frame (hr1f.kp hk2) hsz fun k hk _ => hold k hk.2.1 hk.2.2) (fun k _ hk => HF.out k hk.1)
  refine ⟨A, n, c, A2, n2, c2, A1, n1, c1, rfl, hT.kp KF, ?_, hs1, KF⟩
  exact Sl.weak (F := From w1.heap.size) (Sl.frame hr2 hsz fun k hk _ => hold k (by unfold From at hk; omega) (by unfold From at hk; omega)) (fun k _ hk => HF.out k (by unfold From at hk; omega))

set_option maxHeartbeats 800000 in
theorem past_go_b0 (F F2 : Nat → Prop) (A B C : Option Addr) (n c m d k e : Nat) (at_ i : Int) (L : List (List Int)) (st now : List Int) (w : World)
    (hF : ∀ k, w.heap.size ≤ k → F k) (hT : Txs w F F A n c L) (hS : Ru w F B m d st) (hN : Ru w F2 C k e now) (hn : n ≤ 2000) (hm : m ≤ 1099511627776) (hk : k ≤ 1099511627776) (hL : ∀ x ∈ L, x.length ≤ 1099511627776)
    (ha : (at_ == 0) = false) (hi : (i == 0) = true) (s : List Int) (ho : lineM L at_ st i now = some s) :
    Calls Try.prog 17 #[.agg #[.slice A n c, .int .i64 at_, .slice B m d], .int .i64 i, .slice C k e] w (RetGo F L i [] (some s) w) := by
  have HO := Lib.hid ho
  have HL := Lib.hid hL
  have HF := Lib.hid hF
  clear ho hL hF
  go_enter Try.func17, Try.ntmps17
  go_wp2_with fail
  have KP : Kp w ((w.alloc (.cells #[.slice A n c, .int .i64 at_, .slice B m d] 27)).alloc (.cells #[.slice none 0 0, .int .i64 0, .slice none 0 0] 27)) := ((Kp.refl _).alloc _).alloc _
  refine (past_line F F F F2 A B C n c m d k e at_ i L st now _ (hT.kp KP) (hS.kp KP) (hN.kp KP) hn hm hk HL.out).mono ?_
  rintro e w1 ⟨A1, n1, c1, rfl, hr1, hk1⟩
  rw [HO.out] at hr1 ⊢
  obtain ⟨hc1, hf1⟩ := hk1.cells
  have hz1 : w.heap.size + 1 < w1.heap.size := by have := hk1.size; simp at this; omega
  have hy1 : w.heap.size < w1.heap.size := by omega
  have KP1 := KP.trans hk1
  have hr1f : Ru w1 (fun k => w.heap.size ≤ k ∧ k ≠ w.heap.size ∧ k ≠ w.heap.size + 1) A1 n1 c1 s := hr1.weak (fun k _ hk => by unfold From at hk; simp at hk; omega)
  have e0 : ∀ i, i < 3 → (w1.cell? ⟨w.heap.size + 1, i, none⟩).isSome = true := fun i hi => by
    rw [hc1 _ _ (by simp)]
    match i, hi with
    | 0, _ => simp
    | 1, _ => simp
    | 2, _ => simp
  have e1 := e0 0 (by omega)
  have e2 := e0 1 (by omega)
  have e3 := e0 2 (by omega)
  clear e0
  clear e1 e2 e3
  have p0 : w1.cell? ⟨w.heap.size, 0, none⟩ = some (.slice A n c) := by rw [hc1 _ _ (by simp; omega)]; simp
  have q0 : w1.cell? ⟨w.heap.size + 1, 0, none⟩ = some (.slice none 0 0) := by rw [hc1 _ _ (by simp)]; simp
  have f0 : w1.frozen? ⟨w.heap.size, 0, none⟩ = false := by rw [hf1 _ _ (by simp; omega)]; simp
  have g0 : w1.frozen? ⟨w.heap.size + 1, 0, none⟩ = false := by rw [hf1 _ _ (by simp)]; simp
  have p1 : w1.cell? ⟨w.heap.size, 1, none⟩ = some (.int .i64 at_) := by rw [hc1 _ _ (by simp; omega)]; simp
  have q1 : w1.cell? ⟨w.heap.size + 1, 1, none⟩ = some (.int .i64 0) := by rw [hc1 _ _ (by simp)]; simp
  have f1 : w1.frozen? ⟨w.heap.size, 1, none⟩ = false := by rw [hf1 _ _ (by simp; omega)]; simp
  have g1 : w1.frozen? ⟨w.heap.size + 1, 1, none⟩ = false := by rw [hf1 _ _ (by simp)]; simp
  have p2 : w1.cell? ⟨w.heap.size, 2, none⟩ = some (.slice B m d) := by rw [hc1 _ _ (by simp; omega)]; simp
  have q2 : w1.cell? ⟨w.heap.size + 1, 2, none⟩ = some (.slice none 0 0) := by rw [hc1 _ _ (by simp)]; simp
  have f2 : w1.frozen? ⟨w.heap.size, 2, none⟩ = false := by rw [hf1 _ _ (by simp; omega)]; simp
  have g2 : w1.frozen? ⟨w.heap.size + 1, 2, none⟩ = false := by rw [hf1 _ _ (by simp)]; simp
  clear hc1 hf1
  go_wp2_with fail
  refine bodyPost_ret (v := .tuple #[.agg #[.slice A n c, .int .i64 i, .slice none 0 0], .slice A1 n1 c1, .bool true]) (by simp [results, Try.results17, go_sem, q0, q1, q2]) rfl ?_
  have KF := (((((KP1.setCell (p := ⟨w.heap.size, 1, none⟩) (by simp) (.int .i64 i)).setCell (p := ⟨w.heap.size, 2, none⟩) (by simp) (.slice none 0 0)).setCell (p := ⟨w.heap.size + 1, 0, none⟩) (by simp) (.slice A n c)).setCell (p := ⟨w.heap.size + 1, 1, none⟩) (by simp) (.int .i64 i)).setCell (p := ⟨w.heap.size + 1, 2, none⟩) (by simp) (.slice none 0 0))
  have hold : ∀ k, k ≠ w.heap.size → k ≠ w.heap.size + 1 → (((((w1.setCell ⟨w.heap.size, 1, none⟩ (.int .i64 i)).setCell ⟨w.heap.size, 2, none⟩ (.slice none 0 0)).setCell ⟨w.heap.size + 1, 0, none⟩ (.slice A n c)).setCell ⟨w.heap.size + 1, 1, none⟩ (.int .i64 i)).setCell ⟨w.heap.size + 1, 2, none⟩ (.slice none 0 0)).heap[k]? = w1.heap[k]? := fun k h1 h2 => by
    rw [Below.heap_setCell _ _ _ _ h2, Below.heap_setCell _ _ _ _ h2, Below.heap_setCell _ _ _ _ h2, Below.heap_setCell _ _ _ _ h1, Below.heap_setCell _ _ _ _ h1]
  have hsz : w1.heap.size ≤ (((((w1.setCell ⟨w.heap.size, 1, none⟩ (.int .i64 i)).setCell ⟨w.heap.size, 2, none⟩ (.slice none 0 0)).setCell ⟨w.heap.size + 1, 0, none⟩ (.slice A n c)).setCell ⟨w.heap.size + 1, 1, none⟩ (.int .i64 i)).setCell ⟨w.heap.size + 1, 2, none⟩ (.slice none 0 0)).heap.size := by simp [World.setCell]
  have hs1 : Ru (((((w1.setCell ⟨w.heap.size, 1, none⟩ (.int .i64 i)).setCell ⟨w.heap.size, 2, none⟩ (.slice none 0 0)).setCell ⟨w.heap.size + 1, 0, none⟩ (.slice A n c)).setCell ⟨w.heap.size + 1, 1, none⟩ (.int .i64 i)).setCell ⟨w.heap.size + 1, 2, none⟩ (.slice none 0 0)) F A1 n1 c1 s := Sl.weak (F := fun k => w.heap.size ≤ k ∧ k ≠ w.heap.size ∧ k ≠ w.heap.size + 1) (Sl.frame (hr1f) hsz fun k hk _ => hold k hk.2.1 hk.2.2) (fun k _ hk => HF.out k hk.1)
  refine ⟨A, n, c, none, 0, 0, A1, n1, c1, rfl, hT.kp KF, ?_, hs1, KF⟩
  exact Ru.nil _ _

set_option maxHeartbeats 800000 in
theorem past_go_b1 (F F2 : Nat → Prop) (A B C : Option Addr) (n c m d k e : Nat) (at_ i : Int) (L : List (List Int)) (st now : List Int) (w : World)
    (hF : ∀ k, w.heap.size ≤ k → F k) (hT : Txs w F F A n c L) (hS : Ru w F B m d st) (hN : Ru w F2 C k e now) (hn : n ≤ 2000) (hm : m ≤ 1099511627776) (hk : k ≤ 1099511627776) (hL : ∀ x ∈ L, x.length ≤ 1099511627776)
    (ha : (at_ == 0) = false) (hi : (i == 0) = false) (s : List Int) (ho : lineM L at_ st i now = some s) :
    Calls Try.prog 17 #[.agg #[.slice A n c, .int .i64 at_, .slice B m d], .int .i64 i, .slice C k e] w (RetGo F L i st (some s) w) := by
  have HO := Lib.hid ho
  have HL := Lib.hid hL
  have HF := Lib.hid hF
  clear ho hL hF
  go_enter Try.func17, Try.ntmps17
  go_wp2_with fail
  have KP : Kp w ((w.alloc (.cells #[.slice A n c, .int .i64 at_, .slice B m d] 27)).alloc (.cells #[.slice none 0 0, .int .i64 0, .slice none 0 0] 27)) := ((Kp.refl _).alloc _).alloc _
  refine (past_line F F F F2 A B C n c m d k e at_ i L st now _ (hT.kp KP) (hS.kp KP) (hN.kp KP) hn hm hk HL.out).mono ?_
  rintro e w1 ⟨A1, n1, c1, rfl, hr1, hk1⟩
  rw [HO.out] at hr1 ⊢
  obtain ⟨hc1, hf1⟩ := hk1.cells
  have hz1 : w.heap.size + 1 < w1.heap.size := by have := hk1.size; simp at this; omega
  have hy1 : w.heap.size < w1.heap.size := by omega
  have KP1 := KP.trans hk1
  have hr1f : Ru w1 (fun k => w.heap.size ≤ k ∧ k ≠ w.heap.size ∧ k ≠ w.heap.size + 1) A1 n1 c1 s := hr1.weak (fun k _ hk => by unfold From at hk; simp at hk; omega)
  have e0 : ∀ i, i < 3 → (w1.cell? ⟨w.heap.size + 1, i, none⟩).isSome = true := fun i hi => by
    rw [hc1 _ _ (by simp)]
    match i, hi with
    | 0, _ => simp
    | 1, _ => simp
    | 2, _ => simp
  have e1 := e0 0 (by omega)
  have e2 := e0 1 (by omega)
  have e3 := e0 2 (by omega)
  clear e0
  clear e1 e2 e3
  have p0 : w1.cell? ⟨w.heap.size, 0, none⟩ = some (.slice A n c) := by rw [hc1 _ _ (by simp; omega)]; simp
  have q0 : w1.cell? ⟨w.heap.size + 1, 0, none⟩ = some (.slice none 0 0) := by rw [hc1 _ _ (by simp)]; simp
  have f0 : w1.frozen? ⟨w.heap.size, 0, none⟩ = false := by rw [hf1 _ _ (by simp; omega)]; simp
  have g0 : w1.frozen? ⟨w.heap.size + 1, 0, none⟩ = false := by rw [hf1 _ _ (by simp)]; simp
  have p1 : w1.cell? ⟨w.heap.size, 1, none⟩ = some (.int .i64 at_) := by rw [hc1 _ _ (by simp; omega)]; simp
  have q1 : w1.cell? ⟨w.heap.size + 1, 1, none⟩ = some (.int .i64 0) := by rw [hc1 _ _ (by simp)]; simp
  have f1 : w1.frozen? ⟨w.heap.size, 1, none⟩ = false := by rw [hf1 _ _ (by simp; omega)]; simp
  have g1 : w1.frozen? ⟨w.heap.size + 1, 1, none⟩ = false := by rw [hf1 _ _ (by simp)]; simp
  have p2 : w1.cell? ⟨w.heap.size, 2, none⟩ = some (.slice B m d) := by rw [hc1 _ _ (by simp; omega)]; simp
  have q2 : w1.cell? ⟨w.heap.size + 1, 2, none⟩ = some (.slice none 0 0) := by rw [hc1 _ _ (by simp)]; simp
  have f2 : w1.frozen? ⟨w.heap.size, 2, none⟩ = false := by rw [hf1 _ _ (by simp; omega)]; simp
  have g2 : w1.frozen? ⟨w.heap.size + 1, 2, none⟩ = false := by rw [hf1 _ _ (by simp)]; simp
  clear hc1 hf1
  go_wp2_with fail
  refine bodyPost_ret (v := .tuple #[.agg #[.slice A n c, .int .i64 i, .slice B m d], .slice A1 n1 c1, .bool true]) (by simp [results, Try.results17, go_sem, q0, q1, q2]) rfl ?_
  have KF := ((((KP1.setCell (p := ⟨w.heap.size, 1, none⟩) (by simp) (.int .i64 i)).setCell (p := ⟨w.heap.size + 1, 0, none⟩) (by simp) (.slice A n c)).setCell (p := ⟨w.heap.size + 1, 1, none⟩) (by simp) (.int .i64 i)).setCell (p := ⟨w.heap.size + 1, 2, none⟩) (by simp) (.slice B m d))
  have hold : ∀ k, k ≠ w.heap.size → k ≠ w.heap.size + 1 → ((((w1.setCell ⟨w.heap.size, 1, none⟩ (.int .i64 i)).setCell ⟨w.heap.size + 1, 0, none⟩ (.slice A n c)).setCell ⟨w.heap.size + 1, 1, none⟩ (.int .i64 i)).setCell ⟨w.heap.size + 1, 2, none⟩ (.slice B m d)).heap[k]? = w1.heap[k]? := fun k h1 h2 => by
    rw [Below.heap_setCell _ _ _ _ h2, Below.heap_setCell _ _ _ _ h2, Below.heap_setCell _ _ _ _ h2, Below.heap_setCell _ _ _ _ h1]
  have hsz : w1.heap.size ≤ ((((w1.setCell ⟨w.heap.size, 1, none⟩ (.int .i64 i)).setCell ⟨w.heap.size + 1, 0, none⟩ (.slice A n c)).setCell ⟨w.heap.size + 1, 1, none⟩ (.int .i64 i)).setCell ⟨w.heap.size + 1, 2, none⟩ (.slice B m d)).heap.size := by simp [World.setCell]
  have hs1 : Ru ((((w1.setCell ⟨w.heap.size, 1, none⟩ (.int .i64 i)).setCell ⟨w.heap.size + 1, 0, none⟩ (.slice A n c)).setCell ⟨w.heap.size + 1, 1, none⟩ (.int .i64 i)).setCell ⟨w.heap.size + 1, 2, none⟩ (.slice B m d)) F A1 n1 c1 s := Sl.weak (F := fun k => w.heap.size ≤ k ∧ k ≠ w.heap.size ∧ k ≠ w.heap.size + 1) (Sl.frame (hr1f) hsz fun k hk _ => hold k hk.2.1 hk.2.2) (fun k _ hk => HF.out k hk.1)
  refine ⟨A, n, c, B, m, d, A1, n1, c1, rfl, hT.kp KF, ?_, hs1, KF⟩
  exact hS.kp KF

/-- Go, whatever came of it. -/
theorem past_go (F F2 : Nat → Prop) (A B C : Option Addr) (n c m d k e : Nat) (at_ i : Int) (L : List (List Int)) (st now : List Int) (w : World)
    (hF : ∀ k, w.heap.size ≤ k → F k) (hT : Txs w F F A n c L) (hS : Ru w F B m d st) (hN : Ru w F2 C k e now) (hn : n ≤ 2000) (hm : m ≤ 1099511627776) (hk : k ≤ 1099511627776) (hL : ∀ x ∈ L, x.length ≤ 1099511627776)
    :
    Calls Try.prog 17 #[.agg #[.slice A n c, .int .i64 at_, .slice B m d], .int .i64 i, .slice C k e] w
      (RetGo F L (if (lineM L at_ st i now).isSome then i else at_) (if (lineM L at_ st i now).isSome then stashM at_ st i now else st) (lineM L at_ st i now) w) := by
  cases ho : lineM L at_ st i now with
  | none => exact past_go_none F F2 A B C n c m d k e at_ i L st now w hF hT hS hN hn hm hk hL ho
  | some s =>
    by_cases ha : at_ = 0
    · by_cases hi : i = 0
      · have := past_go_a0 F F2 A B C n c m d k e at_ i L st now w hF hT hS hN hn hm hk hL (by simpa using ha) (by simpa using hi) s ho
        simpa [stashM, hi, ho] using this
      · have := past_go_a1 F F2 A B C n c m d k e at_ i L st now w hF hT hS hN hn hm hk hL (by simpa using ha) (by simpa using hi) s ho
        simpa [stashM, hi, ha] using this
    · by_cases hi : i = 0
      · have := past_go_b0 F F2 A B C n c m d k e at_ i L st now w hF hT hS hN hn hm hk hL (by simpa using ha) (by simpa using hi) s ho
        simpa [stashM, hi] using this
      · have := past_go_b1 F F2 A B C n c m d k e at_ i L st now w hF hT hS hN hn hm hk hL (by simpa using ha) (by simpa using hi) s ho
        simpa [stashM, hi, ha] using this
/-- Go, where there is such a line. -/
theorem past_go_some (F F2 : Nat → Prop) (A B C : Option Addr) (n c m d k e : Nat) (at_ i : Int) (L : List (List Int)) (st now : List Int) (w : World)
    (hF : ∀ k, w.heap.size ≤ k → F k) (hT : Txs w F F A n c L) (hS : Ru w F B m d st) (hN : Ru w F2 C k e now) (hn : n ≤ 2000) (hm : m ≤ 1099511627776) (hk : k ≤ 1099511627776) (hL : ∀ x ∈ L, x.length ≤ 1099511627776)
    (s : List Int) (ho : lineM L at_ st i now = some s) :
    Calls Try.prog 17 #[.agg #[.slice A n c, .int .i64 at_, .slice B m d], .int .i64 i, .slice C k e] w (RetGo F L i (stashM at_ st i now) (some s) w) := by
  have := past_go F F2 A B C n c m d k e at_ i L st now w hF hT hS hN hn hm hk hL
  simpa [ho] using this
end Go.Proofs.Ytcbachblhfkcoaa
