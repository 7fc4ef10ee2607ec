/-
  Texts of the call's own: a row of slices of runes that is appended to again and again; what it says behind an append, and behind the turn of a block that is no cells. No conditions.
-/
import Derived.RangeFuncWrites
import Derived.OwnWalkIn
import Derived.Test.YtcbachblhfkcoaaPast
namespace Go.Proofs.Ytcbachblhfkcoaa
open Go.RowKit

section
variable {P : Program} {w w' : World} {F : Nat → Prop} {size n c : Nat} {A : Option Addr} {vs : List Value}
theorem Sl.cells_kept {row : Option Nat} (h : Sl w F size A n c vs) (hg : w.grownBy w' row) (hr : ∀ r, row = some r → ∃ o : Obj, w.heap[r]? = some o ∧ o.isCells = false) : Sl w' F size A n c vs :=
  ⟨h.le, h.cap, h.len, fun hn => by
    obtain ⟨ad, e, hF, hb, hc⟩ := h.at_ hn
    exact ⟨ad, e, hF, Nat.lt_of_lt_of_le hb hg.size, fun j u hu => cell_kept (hc j u hu) hg hr⟩⟩
theorem Bx.cells_kept {b : Nat} {cs : Array Value} {t : TypeId} {row : Option Nat} (h : Bx w b cs t) (hg : w.grownBy w' row) (hr : ∀ r, row = some r → ∃ o : Obj, w.heap[r]? = some o ∧ o.isCells = false) : Bx w' b cs t :=
  h.grown hg fun e => by
    obtain ⟨o, ho, hc⟩ := hr b e
    rw [show w.heap[b]? = _ from h] at ho; cases ho; cases hc
theorem Own.cells_kept {base : Nat} {e : TypeId} {row : Option Nat} (h : Own w base e size A n c vs) (hg : w.grownBy w' row) (hr : ∀ r, row = some r → ∃ o : Obj, w.heap[r]? = some o ∧ o.isCells = false) : Own w' base e size A n c vs := by
  refine Own.grown h hg fun g hA e' => ?_
  rcases h.2 with ⟨h0, _⟩ | ⟨g', cap, cur, hv, _, hgb, _⟩
  · cases h0; cases hA
  · cases hv
    cases hA
    obtain ⟨o, ho, hc⟩ := hr _ e'
    rw [hgb] at ho; cases ho; cases hc

/-- append in a fenced walk, the source whatever slice. -/
theorem wpListIn_append_sl {F' : Fence} {N : Nat} (w : World) {ops : Array Oper} {rest : List Oper} {o : Oper} {a : Act} {Q : Exit → Act → World → Prop} (hgd : o.guard = none) (s x : Operand) (t : TypeId)
    (ho : o.op = .call { callee := .builtin .append, args := #[s, x], argTypes := #[t, t] })
    (base : Nat) (e : TypeId) (z : Value) (size bytes : Nat) (ht : P.underlying t = some (.slice e)) (hI : (P.info? e).map (fun i => (i.zero, i.size, i.bytes)) = some (some z, size, bytes))
    (hzs : z.cells.size = size) (hsz : 0 < size)
    (A : Option Addr) (n c : Nat) (xs : List Value) (hs : a.eval s = .slice A n c) (hown : Own w base e size A n c xs)
    (F : Nat → Prop) (B : Option Addr) (m d : Nat) (news : List Value) (hx : a.eval x = .slice B m d) (hr : Sl w F size B m d news) (h1 : ∀ u ∈ news, u.oneCell' = true)
    (h63 : n + m ≤ maxLen) (hbytes : (n + m) * bytes ≤ 140737488355328) (hbase : base ≤ w.heap.size)
    (h : ∀ A' c' w', Own w' base e size A' (n + m) c' (xs ++ news) → w.grownBy w' (rowOf A) → (rowOf A' = rowOf A ∨ rowOf A' = some w.heap.size) → wpListIn F' N P ops Q rest (a.put o.dst (.slice A' (n + m) c')) w') :
    wpListIn F' N P ops Q (o :: rest) a w := by
  refine wpListIn_plain hgd fun K hK' => ?_
  obtain ⟨i, hi, hz, hsize, hby⟩ := info_parts hI
  obtain ⟨A', c', w', hrun, h2, h3, h4⟩ := run_append_sl (P := P) w base t o.type e i z size bytes ht hi hz hsize hby hzs hsz A n c xs hown F B m d news hr h1 h63 hbytes hbase
  unfold Oper.wpIn
  refine ⟨?_, ?_⟩
  · simp [Oper.about, ho, resolve, Target.leads, Sem.run_pure]
  · rw [Oper.semAt_plain F' _ _ (by rw [ho]; intro c hc'; cases hc')]
    simp [execOp, ho, resolve, invoke, builtin, hs, hx, hrun, Result.andThen]
    exact hK' _ _ (h A' c' w' h2 h3 h4)
end

theorem stepIn_append_sl {P : Program} {F' : Fence} {N : Nat} (w : World) {ops : Array Oper} {o : Oper} {a : Act} {K : Act → World → Prop} {Q : Exit → Act → World → Prop} {E : Prop} (hgd : o.guard = none) (s x : Operand) (t : TypeId)
    (ho : o.op = .call { callee := .builtin .append, args := #[s, x], argTypes := #[t, t] })
    (base : Nat) (e : TypeId) (z : Value) (size bytes : Nat) (ht : P.underlying t = some (.slice e)) (hI : (P.info? e).map (fun i => (i.zero, i.size, i.bytes)) = some (some z, size, bytes))
    (hzs : z.cells.size = size) (hsz : 0 < size)
    (A : Option Addr) (n c : Nat) (xs : List Value) (hs : a.eval s = .slice A n c) (hown : Own w base e size A n c xs)
    (F : Nat → Prop) (B : Option Addr) (m d : Nat) (news : List Value) (hx : a.eval x = .slice B m d) (hr : Sl w F size B m d news) (h1 : ∀ u ∈ news, u.oneCell' = true)
    (h63 : n + m ≤ maxLen) (hbytes : (n + m) * bytes ≤ 140737488355328) (hbase : base ≤ w.heap.size)
    (h : ∀ A' c' w', Own w' base e size A' (n + m) c' (xs ++ news) → w.grownBy w' (rowOf A) → (rowOf A' = rowOf A ∨ rowOf A' = some w.heap.size) → K (a.put o.dst (.slice A' (n + m) c')) w') :
    if Region.wanted o (yielded ops a.tmps) = true then Oper.wpIn F' N P o a w K Q else E := by
  have hw : Region.wanted o (yielded ops a.tmps) = true := by simp [Region.wanted, hgd]
  rw [if_pos hw]
  obtain ⟨i, hi, hz, hsize, hby⟩ := info_parts hI
  obtain ⟨A', c', w', hrun, h2, h3, h4⟩ := run_append_sl (P := P) w base t o.type e i z size bytes ht hi hz hsize hby hzs hsz A n c xs hown F B m d news hr h1 h63 hbytes hbase
  unfold Oper.wpIn
  refine ⟨?_, ?_⟩
  · simp [Oper.about, ho, resolve, Target.leads, Sem.run_pure]
  · rw [Oper.semAt_plain F' _ _ (by rw [ho]; intro c hc'; cases hc')]
    simp [execOp, ho, resolve, invoke, builtin, hs, hx, hrun, Result.andThen]
    exact h A' c' w' h2 h3 h4

theorem Kp.others {w w' : World} (h : Kp w w') : KeepsOthers w w' := ⟨h.size, fun k _ hk _ => (h.block k (Array.getElem?_eq_some_iff.1 hk).1).trans hk⟩
theorem Own.is_cells {w : World} {base : Nat} {e : TypeId} {size n c : Nat} {A : Option Addr} {vs : List Value} (h : Own w base e size A n c vs) : ∀ (j : Nat) (o : Obj), rowOf A = some j → w.heap[j]? = some o → o.isCells = true := by
  intro j o hj ho
  rcases h.2 with ⟨h0, _⟩ | ⟨g', cap, cur, hv, _, hgb, _⟩
  · cases h0; cases hj
  · cases hv
    cases hj
    rw [hgb] at ho; cases ho; rfl

/-- A row of the call's own, of the texts L; the texts lie in blocks that G lets, and not in the row. -/
def OTx (w : World) (base : Nat) (G : Nat → Prop) (A : Option Addr) (n c : Nat) (L : List (List Int)) (vs : List Value) : Prop :=
  Own w base 23 1 A n c vs ∧ L.length = n ∧ ∀ (k : Nat) (x : List Int), L[k]? = some x → ∃ (B : Option Addr) (m d : Nat), vs[k]? = some (Value.slice B m d) ∧ Ru w (fun g => G g ∧ rowOf A ≠ some g) B m d x

section
variable {w w' : World} {base n c : Nat} {G : Nat → Prop} {A : Option Addr} {L : List (List Int)} {vs : List Value}
theorem OTx.nil (w : World) (base : Nat) (G : Nat → Prop) : OTx w base G none 0 0 [] [] := ⟨Own.nil _ _ _ _, rfl, fun k x h => by simp at h⟩
theorem OTx.txs (h : OTx w base G A n c L vs) : Txs w (From base) G A n c L := by
  obtain ⟨h1, h2, h3⟩ := h
  refine ⟨vs, h1.sl, h2, fun k x hx => ?_⟩
  obtain ⟨B, m, d, hv, hr⟩ := h3 k x hx
  exact ⟨B, m, d, hv, hr.weak fun _ _ h => h.1⟩
theorem OTx.kp (h : OTx w base G A n c L vs) (k : Kp w w') : OTx w' base G A n c L vs := by
  obtain ⟨h1, h2, h3⟩ := h
  refine ⟨h1.kp k, h2, fun i x hx => ?_⟩
  obtain ⟨B, m, d, hv, hr⟩ := h3 i x hx
  exact ⟨B, m, d, hv, hr.kp k⟩
theorem OTx.cells_kept {row : Option Nat} (h : OTx w base G A n c L vs) (hg : w.grownBy w' row) (hr : ∀ r, row = some r → ∃ o : Obj, w.heap[r]? = some o ∧ o.isCells = false) : OTx w' base G A n c L vs := by
  obtain ⟨h1, h2, h3⟩ := h
  refine ⟨h1.cells_kept hg hr, h2, fun i x hx => ?_⟩
  obtain ⟨B, m, d, hv, hx'⟩ := h3 i x hx
  exact ⟨B, m, d, hv, Sl.cells_kept hx' hg hr⟩
theorem OTx.far (h : OTx w base G A n c L vs) {b : Nat} (hb : ¬ G b) (hA : b < base) (u : Value) (i : Nat) : OTx (w.setCell ⟨b, i, none⟩ u) base G A n c L vs := by
  obtain ⟨h1, h2, h3⟩ := h
  refine ⟨h1.setCell (fun e => by have := h1.lt _ e; simp at this; omega) u, h2, fun k x hx => ?_⟩
  obtain ⟨B, m, d, hv, hr⟩ := h3 k x hx
  exact ⟨B, m, d, hv, Sl.setCell hr (fun h => hb h.1) u⟩
theorem OTx.app {B : Option Addr} {m d : Nat} {x : List Int} {A' : Option Addr} {c' : Nat} (h : OTx w base G A n c L vs) (hN : Ru w (fun g => G g ∧ rowOf A ≠ some g) B m d x)
    (hown : Own w' base 23 1 A' (n + 1) c' (vs ++ [.slice B m d])) (hg : w.grownBy w' (rowOf A)) (hat : rowOf A' = rowOf A ∨ rowOf A' = some w.heap.size) :
    OTx w' base G A' (n + 1) c' (L ++ [x]) (vs ++ [.slice B m d]) := by
  obtain ⟨h1, h2, h3⟩ := h
  have mv : ∀ {B' : Option Addr} {m' d' : Nat} {y : List Int}, Ru w (fun g => G g ∧ rowOf A ≠ some g) B' m' d' y → Ru w' (fun g => G g ∧ rowOf A' ≠ some g) B' m' d' y := by
    intro B' m' d' y hy
    have h5 : Ru w (fun g => (G g ∧ rowOf A ≠ some g) ∧ g < w.heap.size) B' m' d' y := hy.weak fun k hk h => ⟨h, hk⟩
    have h6 : Ru w' (fun g => (G g ∧ rowOf A ≠ some g) ∧ g < w.heap.size) B' m' d' y := Sl.grown h5 hg fun g e h => h.1.2 e
    refine h6.weak fun k _ h => ⟨h.1.1, fun e => ?_⟩
    rcases hat with ha | ha
    · exact h.1.2 (ha ▸ e)
    · rw [ha] at e; cases e; exact absurd h.2 (Nat.lt_irrefl _)
  have hvl : vs.length = n := by have := h1.len; omega
  refine ⟨hown, by simp [h2], fun k y hy => ?_⟩
  by_cases hk : k < n
  · rw [List.getElem?_append_left (by omega)] at hy
    obtain ⟨B', m', d', hv, hr⟩ := h3 k y hy
    exact ⟨B', m', d', by rw [List.getElem?_append_left (by omega)]; exact hv, mv hr⟩
  · have hk' : k = n := by
      have := (List.getElem?_eq_some_iff.1 hy).1
      simp at this; omega
    subst hk'
    rw [List.getElem?_append_right (by omega), h2] at hy
    simp at hy
    subst hy
    exact ⟨B, m, d, by rw [List.getElem?_append_right (by omega), hvl]; simp, mv hN⟩
end
end Go.Proofs.Ytcbachblhfkcoaa
