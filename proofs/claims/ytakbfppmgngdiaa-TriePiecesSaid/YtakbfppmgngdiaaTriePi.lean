/-
  Trie.Pieces: what all numbers have, rising, in as few pieces as can be. Conditions: the trie came from Build, or is nil.
-/
import Derived.Test.YtakbfppmgngdiaaTrieR
namespace Go.Proofs.Ytakbfppmgngdiaa
open Go.RowKit Go.Shelf
attribute [local go_sem] Oper.semAt_some wide_fn

section
variable {P : Program} {w w' : World} {F : Nat → Prop} {size n c : Nat} {A : Option Addr} {vs : List Value}
theorem Sl.cells_kept {row : Option Nat} (h : Sl w F size A n c vs) (hg : w.grownBy w' row) (hr : ∀ r, row = some r → ∃ o : Obj, w.heap[r]? = some o ∧ o.isCells = false) : Sl w' F size A n c vs :=
  ⟨h.le, h.cap, h.len, fun hn => by
    obtain ⟨ad, e, hF, hb, hc⟩ := h.at_ hn
    exact ⟨ad, e, hF, Nat.lt_of_lt_of_le hb hg.size, fun j u hu => cell_kept (hc j u hu) hg hr⟩⟩
theorem Bx.cells_kept {b : Nat} {cs : Array Value} {t : TypeId} {row : Option Nat} (h : Bx w b cs t) (hg : w.grownBy w' row) (hr : ∀ r, row = some r → ∃ o : Obj, w.heap[r]? = some o ∧ o.isCells = false) : Bx w' b cs t :=
  h.grown hg fun e => by
    obtain ⟨o, ho, hc⟩ := hr b e
    rw [show w.heap[b]? = _ from h] at ho; cases ho; cases hc
theorem Own.cells_kept {base : Nat} {e : TypeId} {row : Option Nat} (h : Own w base e size A n c vs) (hg : w.grownBy w' row) (hr : ∀ r, row = some r → ∃ o : Obj, w.heap[r]? = some o ∧ o.isCells = false) : Own w' base e size A n c vs := by
  refine Own.grown h hg fun g hA e' => ?_
  rcases h.2 with ⟨h0, _⟩ | ⟨g', cap, cur, hv, _, hgb, _⟩
  · cases h0; cases hA
  · cases hv
    cases hA
    obtain ⟨o, ho, hc⟩ := hr _ e'
    rw [hgb] at ho; cases ho; cases hc

/-- append in a fenced walk, the source whatever slice. -/
theorem wpListIn_append_sl {F' : Fence} {N : Nat} (w : World) {ops : Array Oper} {rest : List Oper} {o : Oper} {a : Act} {Q : Exit → Act → World → Prop} (hgd : o.guard = none) (s x : Operand) (t : TypeId)
    (ho : o.op = .call { callee := .builtin .append, args := #[s, x], argTypes := #[t, t] })
    (base : Nat) (e : TypeId) (z : Value) (size bytes : Nat) (ht : P.underlying t = some (.slice e)) (hI : (P.info? e).map (fun i => (i.zero, i.size, i.bytes)) = some (some z, size, bytes))
    (hzs : z.cells.size = size) (hsz : 0 < size)
    (A : Option Addr) (n c : Nat) (xs : List Value) (hs : a.eval s = .slice A n c) (hown : Own w base e size A n c xs)
    (F : Nat → Prop) (B : Option Addr) (m d : Nat) (news : List Value) (hx : a.eval x = .slice B m d) (hr : Sl w F size B m d news) (h1 : ∀ u ∈ news, u.oneCell' = true)
    (h63 : n + m ≤ maxLen) (hbytes : (n + m) * bytes ≤ 140737488355328) (hbase : base ≤ w.heap.size)
    (h : ∀ A' c' w', Own w' base e size A' (n + m) c' (xs ++ news) → w.grownBy w' (rowOf A) → (rowOf A' = rowOf A ∨ rowOf A' = some w.heap.size) → wpListIn F' N P ops Q rest (a.put o.dst (.slice A' (n + m) c')) w') :
    wpListIn F' N P ops Q (o :: rest) a w := by
  refine wpListIn_plain hgd fun K hK' => ?_
  obtain ⟨i, hi, hz, hsize, hby⟩ := info_parts hI
  obtain ⟨A', c', w', hrun, h2, h3, h4⟩ := run_append_sl (P := P) w base t o.type e i z size bytes ht hi hz hsize hby hzs hsz A n c xs hown F B m d news hr h1 h63 hbytes hbase
  unfold Oper.wpIn
  refine ⟨?_, ?_⟩
  · simp [Oper.about, ho, resolve, Target.leads, Sem.run_pure]
  · rw [Oper.semAt_plain F' _ _ (by rw [ho]; intro c hc'; cases hc')]
    simp [execOp, ho, resolve, invoke, builtin, hs, hx, hrun, Result.andThen]
    exact hK' _ _ (h A' c' w' h2 h3 h4)
end

theorem Kp.others {w w' : World} (h : Kp w w') : KeepsOthers w w' := ⟨h.size, fun k _ hk _ => (h.block k (Array.getElem?_eq_some_iff.1 hk).1).trans hk⟩
theorem Own.is_cells {w : World} {base : Nat} {e : TypeId} {size n c : Nat} {A : Option Addr} {vs : List Value} (h : Own w base e size A n c vs) : ∀ (j : Nat) (o : Obj), rowOf A = some j → w.heap[j]? = some o → o.isCells = true := by
  intro j o hj ho
  rcases h.2 with ⟨h0, _⟩ | ⟨g', cap, cur, hv, _, hgb, _⟩
  · cases h0; cases hj
  · cases hv
    cases hj
    rw [hgb] at ho; cases ho; rfl


theorem cellsP_snoc (l : List (Pc Int)) (p : Pc Int) : cellsP (Value.int .i64) (l ++ [p]) = cellsP (Value.int .i64) l ++ [.int .i64 p.fr, .int .i64 p.to, .int .i64 p.v] := by simp [cellsP]

theorem runs_in (n : Nat) (p : Option Addr) (w : World) :
    CallsIn Fence.wide n Try.prog 66 #[.pointer p] w fun e w' => e = .returned (.func (.func 73) #[] #[.pointer (some ⟨w.heap.size, 0, none⟩)]) ∧ w' = w.alloc (.cells #[.pointer p] 83) := by
  refine callsIn_of_wp Try.func66 rfl trivial ?_ rfl
  simp only [Try.ntmps66, List.size_toArray, List.length_cons, List.length_nil, Nat.reduceAdd, Nat.reduceSub, Array.replicate_succ, Array.replicate_zero, List.push_toArray, List.append_toArray, List.nil_append, List.cons_append]
  gi_wp2
  go_ret
  exact ⟨rfl, rfl⟩

theorem runs_stops (n : Nat) (hn : 1 ≤ n) (Bs lb N : Nat) (p : Option Addr) (f : Int → Int) (wb w : World) (hk : Kp wb w) (hN : N ≤ 1024) (hT : TrO wb p N f) (hBs : Bx w Bs #[.pointer p] 83) (hl : Bx w lb #[.slice none 0 0] 98) :
    SeqStopsK Fence.wide n Try.prog 73 #[.pointer (some ⟨Bs, 0, none⟩)] (fun x : Pc Int => #[.agg #[.int .i64 x.fr, .int .i64 x.to, .int .i64 x.v]]) (PKp wb.heap.size Bs lb) (fun ys => Cov f N 0 ys N) (fun _ => True) N w := fun l J Jx W hW hJ _ hY h0 => by
  have hl2 : Bx W lb #[.slice none 0 0] 98 := (hW.block _ hl.lt).trans hl
  exact runs1_in n hn l Bs wb.heap.size lb N p f J Jx W hJ hN (by have := hk.size; have := hW.size; omega) hl2.lt hY ((hW.block _ hBs.lt).trans hBs) (fun W' h => hT.kp (hk.below.trans ((hW.mono hk.size).trans h)))
    (fun r hr => by rw [rowW_bx hl2] at hr; cases hr) h0

/-- Between two rounds: the pieces that have come. -/
def PieI (s : Nat) (w : World) (pre : List (Pc Int)) (W : World) : Prop :=
  ∃ A c, Bx W s #[.slice A pre.length c] 98 ∧ Own W (s + 2) 101 3 A pre.length c (cellsP (Value.int .i64) pre) ∧ Below s w W ∧ s + 2 ≤ W.heap.size
theorem pieI_own (s B : Nat) (w : World) (hs : s ≤ w.heap.size) (hB : s ≤ B) : OwnFrom B (fun (pre : List (Pc Int)) W => PieI s w pre W) := by
  rintro pre X Y row ⟨A, c, hb, ho, hbel, hz⟩ hg hr
  have hr' : ∀ r, row = some r → ∃ o : Obj, X.heap[r]? = some o ∧ o.isCells = false := fun r e => (hr r e).2
  exact ⟨A, c, hb.cells_kept hg hr', ho.cells_kept hg hr', ownFrom_below (β := Unit) hs hB () X Y row hbel hg hr, Nat.le_trans hz hg.size⟩
/-- A round's own piece lies in a box. -/
def PieAx (s : Nat) (x : Pc Int) (mk : Value → Act) (a' : Act) (W : World) : Prop := ∃ b, s + 2 ≤ b ∧ Bx W b #[.int .i64 x.fr, .int .i64 x.to, .int .i64 x.v] 101 ∧ a' = mk (.pointer (some ⟨b, 0, none⟩))
theorem pieAx_own (s B : Nat) (x : Pc Int) (mk : Value → Act) (a' : Act) : OwnFrom B (fun (_ : Unit) W => PieAx s x mk a' W) := by
  rintro _ X Y row ⟨b, hb, hB, ha⟩ hg hrow
  exact ⟨b, hb, hB.cells_kept hg fun r e => (hrow r e).2, ha⟩

/-- What a round leaves. -/
theorem pie_end {w W w4 : World} {s B c c4 : Nat} {A A4 : Option Addr} {pre : List (Pc Int)} {x : Pc Int} {o : Obj} (hb : Bx W s #[.slice A pre.length c] 98) (ho : Own W (s + 2) 101 3 A pre.length c (cellsP (Value.int .i64) pre)) (hbel : Below s w W)
    (hz : s + 2 ≤ W.heap.size) (hown4 : Own w4 (s + 2) 101 3 A4 (pre.length + 1) c4 (cellsP (Value.int .i64) pre ++ [.int .i64 x.fr, .int .i64 x.to, .int .i64 x.v])) (hg4 : (W.alloc o).grownBy w4 (rowOf A)) (hat4 : rowOf A4 = rowOf A ∨ rowOf A4 = some (W.alloc o).heap.size) :
    KeepsFrom B W (w4.setCell ⟨s, 0, none⟩ (.slice A4 (pre.length + 1) c4)) ∧ PKp s (s + 1) s W (w4.setCell ⟨s, 0, none⟩ (.slice A4 (pre.length + 1) c4)) ∧ PieI s w (pre ++ [x]) (w4.setCell ⟨s, 0, none⟩ (.slice A4 (pre.length + 1) c4)) := by
  have hka : Kp W (W.alloc o) := (Kp.refl W).alloc _
  have hrow : ∀ k, rowOf A = some k → s + 2 ≤ k ∧ k < W.heap.size := ho.lt
  have hb2 := hb.kp hka
  have ho2 := ho.kp hka
  have hb4 : Bx w4 s #[.slice A pre.length c] 98 := hb2.grown hg4 fun e => by have := hrow _ e; omega
  have hz4 : W.heap.size ≤ w4.heap.size := Nat.le_trans hka.size hg4.size
  have hsz : (w4.setCell ⟨s, 0, none⟩ (.slice A4 (pre.length + 1) c4)).heap.size = w4.heap.size := by simp [World.setCell]
  have bs := hb4.set 0 (.slice A4 (pre.length + 1) c4)
  have hbel4 : Below s W w4 := (hka.below.mono (by omega)).grown hg4 (by have := hka.size; omega) fun k e => by have := hrow k e; omega
  have hbelW : Below s W (w4.setCell ⟨s, 0, none⟩ (.slice A4 (pre.length + 1) c4)) := hbel4.setCell (p := ⟨s, 0, none⟩) (Nat.le_refl _) _
  have hfar : ∀ k, k < W.heap.size → k ≠ s → rowOf A ≠ some k → (w4.setCell ⟨s, 0, none⟩ (.slice A4 (pre.length + 1) c4)).heap[k]? = W.heap[k]? := fun k hk h1 h2 => by
    rw [Below.heap_setCell _ _ _ _ (by dsimp only; omega), hg4.block k (by have := hka.size; omega) (fun e => h2 e.symm), hka.block k hk]
  have hrW := rowW_bx hb
  have hrW4 := rowW_bx bs
  refine ⟨(((hka.others.trans (KeepsOthers.of_grownBy hg4 ho2.is_cells)).trans (KeepsOthers.setCell _ _ _)).from B), ⟨hbelW, hfar _ (by omega) (by omega) (fun e => by have := hrow _ e; omega), by omega, fun k cs t h hk hl hr => ?_, ?_, fun _ r hr => ?_⟩, A4, c4, ?_, ?_, hbel.trans hbelW, by omega⟩
  · rw [hrW] at hr
    rw [hfar k (Array.getElem?_eq_some_iff.1 hk).1 (by omega) hr]
    exact hk
  · rw [hrW, hrW4]
    rcases hat4 with h | h
    · exact .inl h
    · refine .inr fun r hr => ?_
      rw [h] at hr
      cases hr
      exact hka.size
  · rw [hrW4] at hr
    rw [hsz]
    exact (hown4.lt r hr).2
  · rw [List.length_append]
    exact bs
  · rw [List.length_append, cellsP_snoc]
    exact hown4.setCell (fun e => by have := (hown4.lt _ e).1; dsimp only at this; omega) _

set_option maxRecDepth 100000 in
set_option maxHeartbeats 3200000 in
theorem pieces_o (p : Option Addr) (N : Nat) (f : Int → Int) (w : World) (hT : TrO w p N f) (hN : N ≤ 1024) :
    Calls Try.prog 51 #[.pointer p] w fun e w' => ∃ A n c l, e = .returned (.slice A n c) ∧ Pcs (Value.int .i64) w' A n c l ∧ Cov f N 0 l N ∧ Kp w w' := by
  have HT := Lib.hid hT
  clear hT
  refine (callsIn_wide (n := 3)).1 ?_
  refine callsIn_of_wp_marks Try.func51 rfl trivial ?_ rfl
  simp only [Try.ntmps51, List.size_toArray, List.length_cons, List.length_nil, Nat.reduceAdd, Nat.reduceSub, Array.replicate_succ, Array.replicate_zero, List.push_toArray, List.append_toArray, List.nil_append, List.cons_append]
  gi_wp2_with (gi_at_call 66; refine (runs_in _ _ _).mono ?_; rintro e w' ⟨rfl, rfl⟩)
  have bO := Bx.new w #[.slice none 0 0] 98
  have bS := Bx.new (w.alloc (.cells #[.slice none 0 0] 98)) #[.pointer p] 83
  rw [World.size_alloc] at bS
  have hB0 : Kp w ((w.alloc (.cells #[.slice none 0 0] 98)).alloc (.cells #[.pointer p] 83)) := ((Kp.refl w).alloc _).alloc _
  have bO' := bO.alloc (.cells #[.pointer p] 83)
  generalize hw0 : ((w.alloc (.cells #[.slice none 0 0] 98)).alloc (.cells #[.pointer p] 83)) = w0 at *
  have hsz : w0.heap.size = w.heap.size + 2 := by rw [← hw0]; simp
  clear hw0 bO
  refine wpIn_rangeFunc_ownH rfl (by omega) (gf := 73) (lb := #[.pointer (some ⟨w.heap.size + 1, 0, none⟩)]) rfl trivial (enters_of Try.func73 (by kernel_rfl) rfl)
    (runs_stops (3 - 1) (by omega) (w.heap.size + 1) w.heap.size N p f w w0 hB0 hN HT.out bS bO') PKp.trans (PKp.b (by omega) (by omega) (by omega)) (Below.refl _ _) (fun _ => rfl)
    (fun pre W => PieI w.heap.size w pre W) (fun _ _ _ => False) (pieI_own _ _ _ (Nat.le_refl _) (by omega)) (fun _ _ _ _ _ hs _ _ => hs)
    ⟨none, 0, bO', Own.nil _ _ _ _, hB0, by omega⟩
    (fun x a' W => PieAx w.heap.size x (fun b => { tmps := #[.pointer p, undef, .slice none 0 0, .pointer (some ⟨w.heap.size, 0, none⟩), b, .pointer p, .func (.func 73) #[] #[.pointer (some ⟨w.heap.size + 1, 0, none⟩)], .agg #[.int .i64 x.fr, .int .i64 x.to, .int .i64 x.v], undef, undef, undef, undef, undef], defers := [] }) a' W) (fun x a' => pieAx_own _ _ _ _ _) ?assign ?body ?done ?stop
  case assign =>
    intro l pre x W K hI hK
    gi_wp2
    have ka := (Kp.refl W).alloc (.cells #[.int .i64 x.fr, .int .i64 x.to, .int .i64 x.v] 101)
    have hz : w.heap.size + 2 ≤ W.heap.size := by obtain ⟨_, _, _, _, _, hz⟩ := hI; exact hz
    exact hK _ _ (ka.others.from _) (PKp.of_kp ka (by omega) (by omega) (by omega)) (OwnFrom.alloc (pieI_own w.heap.size w0.heap.size w (Nat.le_refl _) (by omega)) _ hI) ⟨W.heap.size, hz, Bx.new W _ _, rfl⟩
  case body =>
    rintro l pre x a' W hl hr ⟨A, c, hb, ho, hbel, hz⟩ ⟨b, hb2, hBx, rfl⟩ hlt
    obtain ⟨s0, s1, s2, _, _, _⟩ := hBx.three
    obtain ⟨p0, p1⟩ := hb.one
    have hd : 1 ≤ 3 - 1 - 1 := by omega
    have leaf := fun (A4 : Option Addr) (c4 : Nat) (w4 : World) => Lib.hid (@pie_end w W w4 w.heap.size w0.heap.size c c4 A A4 pre x (.cells #[.int .i64 x.fr, .int .i64 x.to, .int .i64 x.v] 101) hb ho hbel hz)
    have HO := Lib.hid ho
    clear ho
    gi_wp2_with (gi_at_builtin; refine wpListIn_append_sl _ rfl _ _ _ rfl (w.heap.size + 2) 101 _ 3 24 Try.underlying98 infoPc rfl (by omega) A pre.length c (cellsP (Value.int .i64) pre) rfl (HO.out.alloc _) Any _ 1 1 [.int .i64 x.fr, .int .i64 x.to, .int .i64 x.v] rfl (Sl.new _ _ _ _ _ trivial rfl (by omega)) (by simp [Value.oneCell']) (by simp only [maxLen]; omega) (by omega) (by rw [World.size_alloc]; omega) ?_; intro A4 c4 w4 hown4 hg4 hat4; have hb4 : Bx w4 w.heap.size #[.slice A pre.length c] 98 := (hb.alloc _).grown hg4 (fun e => by have := (HO.out.lt _ e).1; omega); obtain ⟨q0, q1⟩ := hb4.one)
    exact (leaf A4 c4 w4).out hown4 hg4 hat4
  case done =>
    rintro D ys W hD hys ⟨A, c, hb, ho, hbel, hz⟩ hK
    obtain ⟨p0, p1⟩ := hb.one
    gi_wp2
    refine ⟨by simp, .inl ⟨_, _, rfl, run_takeDeferred hK, ?_⟩⟩
    have hnc : ∀ r, some D = some r → ∃ o : Obj, W.heap[r]? = some o ∧ o.isCells = false := fun r e => by cases e; exact ⟨_, hK, rfl⟩
    have g2 := ho.cells_kept (grownBy_putObj' W D (.deferred none)) hnc
    have k6 := hbel.trans (belowK_b (w := w) (Nat.le_refl _) W D _ (.deferred none) (by omega) hK rfl rfl)
    exact ⟨_, results_tmp rfl _ _ _, A, ys.length, c, ys, rfl, g2.sl.any, hys, k6⟩
  case stop =>
    rintro D c' pre W hD _ h _
    exact h.elim
end Go.Proofs.Ytakbfppmgngdiaa
