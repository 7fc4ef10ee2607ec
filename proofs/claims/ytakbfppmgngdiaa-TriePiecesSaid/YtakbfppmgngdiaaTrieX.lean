/-
  Package trie, words for memory: maps that the call makes and whose keys are blocks of 128 values, or values; what a maker holds. No conditions: plain lemmas over the model's worlds.
-/
import Derived.Test.YtakbfppmgngdiaaTrieM
import Derived.Test.YtakbfppmgngdiaaArgsL
import Derived.Maps.OwnSet
import Derived.BigQuiet
import Derived.Laws.Rows
import Derived.Deep.MidRow
import Derived.Great.BuildSlice
import Derived.Deep.CutBlock
import Derived.Deep.DeepCutAuto
import Derived.Deep.LoopGhost
import Derived.IntWalk
namespace Go.Proofs.Ytakbfppmgngdiaa
open Go.RowKit Go.Maps

instance decBytes : DecidableEq ByteArray := fun a b => decidable_of_iff (a.data = b.data) ⟨fun h => by cases a; cases b; simp_all, fun h => by rw [h]⟩

instance (priority := high) beqBytes : BEq ByteArray := instBEqOfDecidableEq

theorem wrapS {x : Int} (h1 : -9223372036854775808 ≤ x) (h2 : x ≤ 9223372036854775807) : IntKind.i64.wrap x = x := by rw [IntKind.wrap_i64]; omega

theorem wfI64 {x : Int} (h1 : -9223372036854775808 ≤ x) (h2 : x ≤ 9223372036854775807) : (Lit.int .i64 x).wf = true := by
  simp [Lit.wf, IntKind.min, IntKind.max, IntKind.signed, IntKind.bits]
  omega

/-- The index so far. -/
def ixs (f : Nat → Nat) (a : Nat) : List Value := (List.range a).map fun q => .int .i64 (f q : Int)
theorem ixs_succ (f : Nat → Nat) (a : Nat) : ixs f (a + 1) = ixs f a ++ [.int .i64 (f a : Int)] := by simp [ixs, List.range_succ]
/-- Nothing that was there has turned, but blocks of X. -/
structure FrX (X : Nat → Prop) (w w' : World) : Prop where
  os : w'.os = w.os
  tape : w'.tape = w.tape
  output : w'.output = w.output
  size : w.heap.size ≤ w'.heap.size
  block : ∀ k, k < w.heap.size → ¬ X k → w'.heap[k]? = w.heap[k]?

section
variable {X Y : Nat → Prop} {w w' w'' : World}
theorem FrX.of_kp (h : Kp w w') : FrX X w w' := ⟨h.os, h.tape, h.output, h.size, fun k hk _ => h.block k hk⟩
theorem FrX.refl (w : World) : FrX X w w := .of_kp (Kp.refl w)
theorem FrX.trans (h : FrX X w w') (k : FrX Y w' w'') (hY : ∀ b, b < w.heap.size → Y b → X b) : FrX X w w'' :=
  ⟨k.os.trans h.os, k.tape.trans h.tape, k.output.trans h.output, Nat.le_trans h.size k.size, fun b hb hX => (k.block b (Nat.lt_of_lt_of_le hb h.size) (fun hy => hX (hY b hb hy))).trans (h.block b hb hX)⟩
theorem FrX.weak (h : FrX X w w') (hY : ∀ b, b < w.heap.size → X b → Y b) : FrX Y w w' := (FrX.refl w).trans h hY
theorem FrX.kp {w0 : World} (h : FrX X w w') (k : Kp w0 w) (hX : ∀ b, X b → w0.heap.size ≤ b) : Kp w0 w' :=
  ⟨h.os.trans k.os, h.tape.trans k.tape, h.output.trans k.output, Nat.le_trans k.size h.size, fun b hb => (h.block b (Nat.lt_of_lt_of_le hb k.size) (fun hx => by have := hX b hx; omega)).trans (k.block b hb)⟩
theorem FrX.of_grown {row : Option Nat} (h : w.grownBy w' row) (hX : ∀ k, row = some k → k < w.heap.size → X k) : FrX X w w' :=
  ⟨h.os, h.tape, h.output, h.size, fun b hb hb' => h.block b hb (fun e => hb' (hX b e.symm hb))⟩
theorem FrX.of_setCell (w : World) {p : Addr} (hp : X p.block) (u : Value) : FrX X w (w.setCell p u) :=
  ⟨rfl, rfl, rfl, by simp [World.setCell], fun b _ hb => Below.heap_setCell w p u b (by rintro rfl; exact hb hp)⟩
theorem FrX.bx {b : Nat} {cs : Array Value} {t : TypeId} (h : FrX X w w') (hb : Bx w b cs t) (hX : ¬ X b) : Bx w' b cs t := (h.block b hb.lt hX).trans hb
theorem FrX.own {base : Nat} {e : TypeId} {size n c : Nat} {A : Option Addr} {xs : List Value} (h : FrX X w w') (ho : Own w base e size A n c xs) (hX : ∀ k, rowOf A = some k → ¬ X k) : Own w' base e size A n c xs :=
  ho.frame fun k hk => h.block k (ho.lt k hk).2 (hX k hk)
theorem FrX.map {H : Type} {P : Program} {k : TypeId} {R : Value → Option (DataW H × List MemPlace)} {b n : Nat} {D : DataW H} (h : FrX X w w') (ho : w.ownsMap P k R b n D) (hX : ¬ X b) : w'.ownsMap P k R b n D := by
  have hlt := ho.lt
  obtain ⟨es, clock, hb, F, hs, hD⟩ := ho
  exact ⟨es, clock, (h.block b hlt hX).trans hb, F, hs, hD⟩
end

section
variable {P : Program}

/-- 'v, ok := m[k]'. -/
theorem look_run {w : World} {t k e : TypeId} (KK : Keyed P k) (ht : P.underlying t = some (.map k e)) (he : P.underlying e = some (.int .i64)) (hz : (zeroValue e).run P w = .ok (.int .i64 0) w) {b n : Nat} {D : DataW Unit}
    (hown : w.ownsMap P k (plainElem P e) b n D) {key : Value} {kl : Lit} (hkey : keyOf P k key = some kl) {c : Int} {β : Bool} (hc : D.atKey kl (.lit (.int .i64 0)) = .lit (.int .i64 c)) (hβ : Maps.has D kl = β) :
    (Instr.lookup t (.map (some b)) key true).run P w = .ok (.tuple #[.int .i64 c, .bool β]) w := by
  obtain ⟨v, ps, hrun, hv⟩ := hown.look_ok KK ht hz (plainElem_int he (by decide)) hkey
  obtain ⟨c', rfl, hc', _⟩ := plainElem_int_inv he hv
  have h2 := congrArg Prod.fst hc'
  dsimp only at h2
  rw [hc] at h2
  cases h2
  rw [hβ] at hrun
  exact hrun

/-- A whole array is read. -/
theorem step_row {ops : Array Oper} {o : Oper} {a : Act} {w : World} {K : Act → World → Prop} {Q : Exit → Act → World → Prop} {E : Prop} (hg : o.guard = none) (ty : TypeId) (x : Operand) (ho : o.op = .load ty x)
    (g : Nat) (hx : a.eval x = .pointer (some ⟨g, 0, none⟩)) (t : TypeId) (cs : Array Value) (n : Nat) (e : TypeId) (hb : Bx w g cs t)
    (hu : P.underlying ty = some (.array n e)) (hi : (P.info? ty).map (·.size) = some cs.size)
    (h : K (a.put o.dst (.agg cs)) w) : if Region.wanted o (yielded ops a.tmps) = true then Oper.wp P o a w K Q else E := by
  rw [if_pos (by simp [Region.wanted, hg])]
  exact wp_load_row ty x ho g hx t cs (0, 0) _ hb hu rfl hi h

/-- A slice of one array. -/
theorem build_one {w : World} {t e : TypeId} {z : Value} {size bytes : Nat} (hu : P.underlying t = some (.slice e)) (hI : (P.info? e).map (fun i => (i.zero, i.size, i.bytes)) = some (some z, size, bytes)) (hs : 0 < size) (hs2 : size ≤ 1000000)
    (l : List Value) (hl : l.length = size) : (Instr.buildSlice t 1 #[(0, .agg l.toArray)]).run P w = .ok (.slice (some ⟨w.heap.size, 0, none⟩) 1 1) (w.alloc (.cells l.toArray e)) := by
  obtain ⟨i, hi, hz, hsize, hby⟩ := info_parts hI
  refine run_buildSlice w t e 1 _ l.toArray i z hu hi hz (by rw [hsize]; omega) (by rw [hsize]; omega) ?_
  rw [hsize]
  obtain ⟨r, hr, hsz, hk⟩ := Great.fill_dense hs [Value.agg l.toArray] 0 ((Array.range (1 * size)).map (z.cells[· % z.cells.size]!)) (fun v hv => by
    rw [List.mem_singleton] at hv
    rw [hv]
    simp [Value.cells, hl]) (by simp)
  have e1 : (#[((0 : Nat), Value.agg l.toArray)] : Array (Nat × Value)).toList = ([Value.agg l.toArray].zipIdx 0).map fun x => (x.2, x.1) := rfl
  rw [e1, hr]
  congr 1
  apply Array.ext_getElem?
  intro k
  rw [hk k]
  by_cases hlt : k < size
  · rw [if_pos (by simp; omega), Nat.div_eq_of_lt hlt, Nat.mod_eq_of_lt hlt]
    simp [Value.cells]
  · rw [if_neg (by simp; omega), Array.getElem?_eq_none (by simp; omega), Array.getElem?_eq_none (by simp; omega)]

theorem step_build {ops : Array Oper} {o : Oper} {a : Act} {w : World} {K : Act → World → Prop} {Q : Exit → Act → World → Prop} {E : Prop} (hg : o.guard = none) (t e : TypeId) (x : Operand) (ho : o.op = .buildSlice t 1 #[(0, x)])
    (z : Value) (size bytes : Nat) (hu : P.underlying t = some (.slice e)) (hI : (P.info? e).map (fun i => (i.zero, i.size, i.bytes)) = some (some z, size, bytes)) (hs : 0 < size) (hs2 : size ≤ 1000000)
    (l : List Value) (hl : l.length = size) (hx : a.eval x = .agg l.toArray)
    (h : K (a.put o.dst (.slice (some ⟨w.heap.size, 0, none⟩) 1 1)) (w.alloc (.cells l.toArray e))) : if Region.wanted o (yielded ops a.tmps) = true then Oper.wp P o a w K Q else E := by
  rw [if_pos (by simp [Region.wanted, hg])]
  unfold Oper.wp execOp
  have hx' : (#[((0 : Nat), x)].map fun (i, x) => (i, a.eval x)) = #[(0, Value.agg l.toArray)] := by simp [hx]
  simp only [ho, Sem.run_bind, hx', build_one (w := w) hu hI hs hs2 l hl, Result.andThen_ok]
  exact h

theorem Bx.range {w : World} {g : Nat} {l : List Value} {t : TypeId} (h : Bx w g l.toArray t) : w.rangeAt g 0 l := fun j v hv => by
  rw [Nat.zero_add, h.cell j]
  simpa using hv

theorem mapM_some {α β : Type} {f : α → Option β} {g : α → β} : ∀ (l : List α), (∀ x ∈ l, f x = some (g x)) → l.mapM f = some (l.map g)
  | [], _ => rfl
  | x :: l, h => by
    rw [List.mapM_cons, h x (by simp), mapM_some l fun y hy => h y (by simp [hy])]
    rfl

/-- What an array reads as, as a key. -/
theorem keyOf_arr {α : Type} {k e n : Nat} {enc : α → Value} {lit : α → Lit} (hu : P.underlying k = some (.array n e)) (hk : P.keyType k = true) (hc : P.cellsOf k = n) (h1 : P.cellsOf e = 1) (hts : ∃ m, P.types.size = m + 1)
    (b : List α) (hb : b.length = n) (hlit : ∀ d, ∀ x ∈ b, P.keyLits (d + 1) e [enc x] = some [lit x]) :
    keyOf P k (.agg (b.map enc).toArray) = some (.string (keyBytes (b.map lit))) := by
  obtain ⟨m, hm⟩ := hts
  unfold keyOf
  simp only [hu]
  rw [if_pos (by simp [hk, Value.formed, hu, hc, hb]), hm]
  unfold Program.keyLits
  simp only [hu, Value.cells]
  rw [if_pos (by simp [hc, hb]), h1]
  rw [mapM_some (g := fun i => (b[i]?.map lit).toList) (List.range n) fun i hi => ?_]
  · simp only [Option.map_some]
    congr 3
    have : ∀ (l : List α), ((List.range l.length).map fun i => (l[i]?.map lit).toList).flatten = l.map lit := by
      intro l
      induction l with
      | nil => rfl
      | cons x l ih =>
        rw [List.length_cons, List.range_succ_eq_map, List.map_cons, List.flatten_cons, List.map_map]
        simp only [Function.comp_def, List.getElem?_cons_succ, List.getElem?_cons_zero, Option.map_some, Option.toList_some, List.map_cons]
        rw [ih]
        rfl
    rw [← hb]
    exact this b
  · have hi' : i < b.length := by rw [hb]; exact List.mem_range.1 hi
    rw [Nat.mul_one]
    have e1 : ((b.map enc).toArray.toList.drop i).take 1 = [enc b[i]] := by
      rw [List.drop_eq_getElem_cons (by simpa using hi')]
      simp
    rw [e1, hlit m _ (List.getElem_mem hi'), List.getElem?_eq_getElem hi']
    rfl
end

section
variable {α : Type} [DecidableEq α] {P : Program} {w w' : World}

/-- Where a block stands already. -/
def Kno (P : Program) (kA eI : TypeId) (enc : α → Value) (wf : α → Prop) (w : World) (B n : Nat) (bs : List (List α)) : Prop :=
  ∃ D : DataW Unit, w.ownsMap P kA (plainElem P eI) B n D ∧ ∀ b : List α, b.length = 128 → (∀ x ∈ b, wf x) → ∀ kl, keyOf P kA (.agg (b.map enc).toArray) = some kl →
    Maps.has D kl = decide (b ∈ bs) ∧ D.atKey kl (.lit (.int .i64 0)) = .lit (.int .i64 (if b ∈ bs then (atB bs b : Int) else 0))

/-- Likewise, of blocks of one value. -/
def Eve (P : Program) (kT eI : TypeId) (enc : α → Value) (wf : α → Prop) (w : World) (B n : Nat) (bs : List (List α)) : Prop :=
  ∃ D : DataW Unit, w.ownsMap P kT (plainElem P eI) B n D ∧ ∀ v : α, wf v → ∀ kl, keyOf P kT (enc v) = some kl →
    (Maps.has D kl = false ∧ D.atKey kl (.lit (.int .i64 0)) = .lit (.int .i64 0)) ∨ (Maps.has D kl = true ∧ List.replicate 128 v ∈ bs ∧ D.atKey kl (.lit (.int .i64 0)) = .lit (.int .i64 (atB bs (List.replicate 128 v) : Int)))

omit [DecidableEq α] in
theorem enc_inj {enc : α → Value} (hi : ∀ x y, enc x = enc y → x = y) {b c : List α} (h : (Value.agg (b.map enc).toArray) = .agg (c.map enc).toArray) : b = c := by
  have h1 : b.map enc = c.map enc := by simpa using h
  exact (List.map_inj_right fun x y => hi x y).1 h1

theorem Kno.made (w : World) (P : Program) (kA eI : TypeId) (enc : α → Value) (wf : α → Prop) : Kno P kA eI enc wf (w.alloc (.map #[] 0)) w.heap.size 0 [] :=
  ⟨.map [], World.ownsMap_made w P kA _, fun b _ _ kl _ => by simp [Maps.has, DataW.atKey]⟩
theorem Eve.made (w : World) (P : Program) (kT eI : TypeId) (enc : α → Value) (wf : α → Prop) : Eve P kT eI enc wf (w.alloc (.map #[] 0)) w.heap.size 0 [] :=
  ⟨.map [], World.ownsMap_made w P kT _, fun v _ kl _ => .inl (by simp [Maps.has, DataW.atKey])⟩

/-- A block more. -/
theorem kno_put {kA eI : TypeId} {enc : α → Value} {wf : α → Prop} (KK : Keyed P kA) (hi : ∀ x y, enc x = enc y → x = y) {B n : Nat} {bs : List (List α)} {D : DataW Unit} (hown : w.ownsMap P kA (plainElem P eI) B n D)
    (hD : ∀ b : List α, b.length = 128 → (∀ x ∈ b, wf x) → ∀ kl, keyOf P kA (.agg (b.map enc).toArray) = some kl → Maps.has D kl = decide (b ∈ bs) ∧ D.atKey kl (.lit (.int .i64 0)) = .lit (.int .i64 (if b ∈ bs then (atB bs b : Int) else 0)))
    {b : List α} (hb : b ∉ bs) {kl : Lit} (hkl : keyOf P kA (.agg (b.map enc).toArray) = some kl) {n' : Nat} (hown' : w'.ownsMap P kA (plainElem P eI) B n' (D.put kl (.lit (.int .i64 (bs.length : Int))))) :
    Kno P kA eI enc wf w' B n' (addB bs b) := by
  have hmap := hown.isMap
  refine ⟨_, hown', fun b' hl hw kl' hkl' => ?_⟩
  by_cases he : b' = b
  · subst he
    rw [hkl] at hkl'
    cases hkl'
    rw [has_put_same hmap (KK.key hkl), atKey_put_same hmap (KK.key hkl)]
    simp [addB_mem, atB_new hb]
  · have hne : kl' ≠ kl := fun e => he (enc_inj hi (KK.inj hkl' (e ▸ hkl)))
    rw [has_put_other hne, atKey_put_other hne]
    obtain ⟨h1, h2⟩ := hD b' hl hw kl' hkl'
    have hm : b' ∈ addB bs b ↔ b' ∈ bs := by rw [mem_addB]; simp [he]
    refine ⟨by rw [h1]; simp [hm], ?_⟩
    rw [h2]
    by_cases hin : b' ∈ bs
    · rw [if_pos hin, if_pos (hm.2 hin), atB_add b hin]
    · rw [if_neg hin, if_neg (fun h => hin (hm.1 h))]

/-- Blocks were added. -/
theorem Eve.add {kT eI : TypeId} {enc : α → Value} {wf : α → Prop} {B n : Nat} {bs : List (List α)} (h : Eve P kT eI enc wf w B n bs) (b : List α) : Eve P kT eI enc wf w B n (addB bs b) := by
  obtain ⟨D, ho, hD⟩ := h
  refine ⟨D, ho, fun v hv kl hkl => ?_⟩
  rcases hD v hv kl hkl with h1 | ⟨h1, h2, h3⟩
  · exact .inl h1
  · exact .inr ⟨h1, mem_addB.2 (.inl h2), by rw [atB_add b h2]; exact h3⟩

/-- A value more. -/
theorem eve_put {kT eI : TypeId} {enc : α → Value} {wf : α → Prop} (KK : Keyed P kT) (hi : ∀ x y, enc x = enc y → x = y) {B n : Nat} {bs : List (List α)} {D : DataW Unit} (hown : w.ownsMap P kT (plainElem P eI) B n D)
    (hD : ∀ v : α, wf v → ∀ kl, keyOf P kT (enc v) = some kl →
      (Maps.has D kl = false ∧ D.atKey kl (.lit (.int .i64 0)) = .lit (.int .i64 0)) ∨ (Maps.has D kl = true ∧ List.replicate 128 v ∈ bs ∧ D.atKey kl (.lit (.int .i64 0)) = .lit (.int .i64 (atB bs (List.replicate 128 v) : Int))))
    {v : α} (hv : List.replicate 128 v ∈ bs) {kl : Lit} (hkl : keyOf P kT (enc v) = some kl) {n' : Nat} (hown' : w'.ownsMap P kT (plainElem P eI) B n' (D.put kl (.lit (.int .i64 (atB bs (List.replicate 128 v) : Int))))) :
    Eve P kT eI enc wf w' B n' bs := by
  have hmap := hown.isMap
  refine ⟨_, hown', fun v' hw kl' hkl' => ?_⟩
  by_cases he : v' = v
  · subst he
    rw [hkl] at hkl'
    cases hkl'
    exact .inr ⟨has_put_same hmap (KK.key hkl) _, hv, atKey_put_same hmap (KK.key hkl) _ _⟩
  · have hne : kl' ≠ kl := fun e => he (hi _ _ (KK.inj hkl' (e ▸ hkl)))
    rw [has_put_other hne, atKey_put_other hne]
    exact hD v' hw kl' hkl'

theorem Kno.frame {X : Nat → Prop} {kA eI : TypeId} {enc : α → Value} {wf : α → Prop} {B n : Nat} {bs : List (List α)} (h : Kno P kA eI enc wf w B n bs) (f : FrX X w w') (hX : ¬ X B) : Kno P kA eI enc wf w' B n bs := by
  obtain ⟨D, ho, hD⟩ := h
  exact ⟨D, f.map ho hX, hD⟩
theorem Eve.frame {X : Nat → Prop} {kT eI : TypeId} {enc : α → Value} {wf : α → Prop} {B n : Nat} {bs : List (List α)} (h : Eve P kT eI enc wf w B n bs) (f : FrX X w w') (hX : ¬ X B) : Eve P kT eI enc wf w' B n bs := by
  obtain ⟨D, ho, hD⟩ := h
  exact ⟨D, f.map ho hX, hD⟩
theorem Kno.lt {kA eI : TypeId} {enc : α → Value} {wf : α → Prop} {B n : Nat} {bs : List (List α)} (h : Kno P kA eI enc wf w B n bs) : B < w.heap.size := by obtain ⟨D, ho, _⟩ := h; exact ho.lt
theorem Eve.lt {kT eI : TypeId} {enc : α → Value} {wf : α → Prop} {B n : Nat} {bs : List (List α)} (h : Eve P kT eI enc wf w B n bs) : B < w.heap.size := by obtain ⟨D, ho, _⟩ := h; exact ho.lt
theorem Kno.mono {kA eI : TypeId} {enc : α → Value} {wf : α → Prop} {B n n' : Nat} {bs : List (List α)} (h : Kno P kA eI enc wf w B n bs) (hn : n ≤ n') : Kno P kA eI enc wf w B n' bs := by
  obtain ⟨D, ho, hD⟩ := h
  exact ⟨D, ho.mono hn, hD⟩
theorem Eve.mono {kT eI : TypeId} {enc : α → Value} {wf : α → Prop} {B n n' : Nat} {bs : List (List α)} (h : Eve P kT eI enc wf w B n bs) (hn : n ≤ n') : Eve P kT eI enc wf w B n' bs := by
  obtain ⟨D, ho, hD⟩ := h
  exact ⟨D, ho.mono hn, hD⟩

/-- Pieces, cell by cell. -/
def cellsP (enc : α → Value) (l : List (Pc α)) : List Value := l.flatMap fun p => [.int .i64 p.fr, .int .i64 p.to, enc p.v]
omit [DecidableEq α] in
theorem cellsP_length (enc : α → Value) (l : List (Pc α)) : (cellsP enc l).length = l.length * 3 := by
  induction l with
  | nil => rfl
  | cons p l ih => simp only [cellsP, List.flatMap_cons, List.length_append, List.length_cons, List.length_nil] at ih ⊢; omega
omit [DecidableEq α] in
theorem cellsP_get (enc : α → Value) : ∀ (l : List (Pc α)) (k : Nat) (p : Pc α), l[k]? = some p → (cellsP enc l)[k * 3]? = some (.int .i64 p.fr) ∧ (cellsP enc l)[k * 3 + 1]? = some (.int .i64 p.to) ∧ (cellsP enc l)[k * 3 + 2]? = some (enc p.v)
  | [], k, p, h => by simp at h
  | q :: l, 0, p, h => by
    simp at h
    subst h
    simp [cellsP]
  | q :: l, k + 1, p, h => by
    obtain ⟨h1, h2, h3⟩ := cellsP_get enc l k p (by simpa using h)
    have e : cellsP enc (q :: l) = [.int .i64 q.fr, .int .i64 q.to, enc q.v] ++ cellsP enc l := rfl
    rw [e]
    refine ⟨?_, ?_, ?_⟩
    · rw [List.getElem?_append_right (by simp; omega)]; simpa [show (k + 1) * 3 - 3 = k * 3 by omega] using h1
    · rw [List.getElem?_append_right (by simp; omega)]; simpa [show (k + 1) * 3 + 1 - 3 = k * 3 + 1 by omega] using h2
    · rw [List.getElem?_append_right (by simp; omega)]; simpa [show (k + 1) * 3 + 2 - 3 = k * 3 + 2 by omega] using h3

/-- A slice of pieces. -/
def Pcs (enc : α → Value) (w : World) (A : Option Addr) (n c : Nat) (l : List (Pc α)) : Prop := Sl w Any 3 A n c (cellsP enc l)
omit [DecidableEq α] in
theorem Pcs.len {enc : α → Value} {A : Option Addr} {n c : Nat} {l : List (Pc α)} (h : Pcs enc w A n c l) : l.length = n := by have := Sl.len h; rw [cellsP_length] at this; omega
omit [DecidableEq α] in
theorem Pcs.le {enc : α → Value} {A : Option Addr} {n c : Nat} {l : List (Pc α)} (h : Pcs enc w A n c l) : n ≤ c := Sl.le h
omit [DecidableEq α] in
theorem Pcs.cap {enc : α → Value} {A : Option Addr} {n c : Nat} {l : List (Pc α)} (h : Pcs enc w A n c l) : c ≤ maxLen := Sl.cap h
omit [DecidableEq α] in
theorem Pcs.kp {enc : α → Value} {A : Option Addr} {n c : Nat} {l : List (Pc α)} (h : Pcs enc w A n c l) (k : Kp w w') : Pcs enc w' A n c l := Sl.kp h k
omit [DecidableEq α] in
theorem Pcs.get {enc : α → Value} {A : Option Addr} {n c : Nat} {l : List (Pc α)} (h : Pcs enc w A n c l) {k : Nat} {p : Pc α} (hp : l[k]? = some p) :
    ∃ ad, A = some ad ∧ w.cell? (ad.add (k * 3)) = some (.int .i64 p.fr) ∧ w.cell? ⟨(ad.add (k * 3)).block, (ad.add (k * 3)).off + 1, none⟩ = some (.int .i64 p.to) ∧ w.cell? ⟨(ad.add (k * 3)).block, (ad.add (k * 3)).off + 2, none⟩ = some (enc p.v) := by
  have hk := (List.getElem?_eq_some_iff.1 hp).1
  have hl := h.len
  obtain ⟨ad, e, _, _, hc⟩ := Sl.at_ h (by omega)
  obtain ⟨h1, h2, h3⟩ := cellsP_get enc l k p hp
  refine ⟨ad, e, hc _ _ h1, ?_, ?_⟩
  · have := hc _ _ h2; rwa [add_spell _ _ 0] at this
  · have := hc _ _ h3; rwa [add_spell _ _ 1] at this

/-- Blocks, cell by cell. -/
def cellsB (enc : α → Value) (bs : List (List α)) : List Value := bs.flatten.map enc
omit [DecidableEq α] in
theorem cellsB_add (enc : α → Value) (bs : List (List α)) (b : List α) : cellsB enc (bs ++ [b]) = cellsB enc bs ++ b.map enc := by simp [cellsB]

/-- What the types of a trie are: the trie, its maker, the block, the value. -/
structure TrTy where
  trie : TypeId
  maker : TypeId
  arr : TypeId
  val : TypeId
  int : TypeId

/-- What a maker holds: the trie in block tB, the maker in block mB, its maps in kB, eB; the trie's blocks are bs, in a row of its own from block base on. -/
structure TrB (P : Program) (T : TrTy) (enc : α → Value) (wf : α → Prop) (w : World) (n base tB mB kB eB : Nat) (size : Int) (I : Value) (A : Option Addr) (c : Nat) (bs : List (List α)) : Prop where
  tb : Bx w tB #[.int .i64 size, I, .slice A bs.length c] T.trie
  mb : Bx w mB #[.pointer (some ⟨tB, 0, none⟩), .map (some kB), .map (some eB)] T.maker
  row : Own w base T.arr 128 A bs.length c (cellsB enc bs)
  known : Kno P T.arr T.int enc wf w kB n bs
  even : Eve P T.val T.int enc wf w eB n bs
  lt : tB < base ∧ mB < base ∧ kB < base ∧ eB < base ∧ base ≤ w.heap.size
  ne : tB ≠ mB ∧ kB ≠ tB ∧ kB ≠ mB ∧ eB ≠ tB ∧ eB ≠ mB ∧ kB ≠ eB

/-- The blocks that a maker writes to. -/
def TrOwn (tB kB eB : Nat) (A : Option Addr) (k : Nat) : Prop := k = tB ∨ k = kB ∨ k = eB ∨ rowOf A = some k

variable {T : TrTy} {enc : α → Value} {wf : α → Prop} {n base tB mB kB eB c : Nat} {size : Int} {I : Value} {A : Option Addr} {bs : List (List α)}
theorem TrB.fr {X : Nat → Prop} (h : TrB P T enc wf w n base tB mB kB eB size I A c bs) (f : FrX X w w') (h1 : ¬ X tB) (h2 : ¬ X mB) (h3 : ¬ X kB) (h4 : ¬ X eB) (h5 : ∀ k, rowOf A = some k → ¬ X k) : TrB P T enc wf w' n base tB mB kB eB size I A c bs :=
  ⟨f.bx h.tb h1, f.bx h.mb h2, f.own h.row h5, h.known.frame f h3, h.even.frame f h4, ⟨h.lt.1, h.lt.2.1, h.lt.2.2.1, h.lt.2.2.2.1, Nat.le_trans h.lt.2.2.2.2 f.size⟩, h.ne⟩
theorem TrB.kp (h : TrB P T enc wf w n base tB mB kB eB size I A c bs) (k : Kp w w') : TrB P T enc wf w' n base tB mB kB eB size I A c bs :=
  h.fr (X := fun _ => False) (.of_kp k) id id id id (fun _ _ => id)
theorem TrB.mono {n' : Nat} (h : TrB P T enc wf w n base tB mB kB eB size I A c bs) (hn : n ≤ n') : TrB P T enc wf w n' base tB mB kB eB size I A c bs :=
  ⟨h.tb, h.mb, h.row, h.known.mono hn, h.even.mono hn, h.lt, h.ne⟩
theorem TrB.even_put {n' : Nat} (h : TrB P T enc wf w n base tB mB kB eB size I A c bs) (f : FrX (fun k => k = eB) w w') (he : Eve P T.val T.int enc wf w' eB n' bs) (hn : n ≤ n') : TrB P T enc wf w' n' base tB mB kB eB size I A c bs :=
  ⟨f.bx h.tb h.ne.2.2.2.1.symm, f.bx h.mb h.ne.2.2.2.2.1.symm, f.own h.row (fun k hk e => by have h1 := h.row.lt k hk; have h2 := h.lt; omega), (h.known.frame f h.ne.2.2.2.2.2).mono hn, he, ⟨h.lt.1, h.lt.2.1, h.lt.2.2.1, h.lt.2.2.2.1, Nat.le_trans h.lt.2.2.2.2 f.size⟩, h.ne⟩
end
end Go.Proofs.Ytakbfppmgngdiaa
