/-
  package undo: Group.Undo: a line ahead of a group. Conditions: the edits and the line can be read, and are not too long.
-/
import Derived.Test.YtakbfppmgngdiaaUndoF
namespace Go.Proofs.Ytakbfppmgngdiaa
open Go.RowKit Go.Shelf
attribute [local go_sem] Oper.semAt_some

section
variable {P : Program} {w w' : World} {F : Nat → Prop} {size n c : Nat} {A : Option Addr} {vs : List Value}
theorem Sl.cells_kept {row : Option Nat} (h : Sl w F size A n c vs) (hg : w.grownBy w' row) (hr : ∀ r, row = some r → ∃ o : Obj, w.heap[r]? = some o ∧ o.isCells = false) : Sl w' F size A n c vs :=
  ⟨h.le, h.cap, h.len, fun hn => by
    obtain ⟨ad, e, hF, hb, hc⟩ := h.at_ hn
    exact ⟨ad, e, hF, Nat.lt_of_lt_of_le hb hg.size, fun j u hu => cell_kept (hc j u hu) hg hr⟩⟩
theorem Bx.cells_kept {b : Nat} {cs : Array Value} {t : TypeId} {row : Option Nat} (h : Bx w b cs t) (hg : w.grownBy w' row) (hr : ∀ r, row = some r → ∃ o : Obj, w.heap[r]? = some o ∧ o.isCells = false) : Bx w' b cs t :=
  h.grown hg fun e => by
    obtain ⟨o, ho, hc⟩ := hr b e
    rw [show w.heap[b]? = _ from h] at ho; cases ho; cases hc
end
theorem Kp.others {w w' : World} (h : Kp w w') : KeepsOthers w w' := ⟨h.size, fun k _ hk _ => (h.block k (Array.getElem?_eq_some_iff.1 hk).1).trans hk⟩

theorem undoL_append (p q : List Ed) (l : List Int) : undoL (p ++ q) l = (undoL p l).bind (undoL q) := by
  induction p generalizing l with
  | nil => rfl
  | cons e r ih =>
    simp only [List.cons_append, undoL]
    cases doM e.back l with
    | none => rfl
    | some l' => exact ih l'
instance : Inhabited Ed := ⟨⟨0, [], []⟩⟩
def edAt (es : List Ed) (i : Nat) : Ed := es[i]?.getD default
theorem edAt_downs (es : List Ed) : (downs es.length 0).map (edAt es) = es.reverse := by
  unfold downs
  rw [List.drop_zero, List.map_reverse]
  congr 1
  apply List.ext_getElem
  · simp
  · intro i h1 h2
    rw [List.getElem_map, List.getElem_range]
    unfold edAt
    rw [List.getElem?_eq_getElem h2]
    rfl
theorem downs_split (len k : Nat) (h : k ≤ len) : downs len 0 = downs len k ++ (List.range k).reverse := by
  unfold downs
  rw [List.drop_zero, ← List.reverse_append]
  congr 1
  have h1 : (List.range len).take k = List.range k := by rw [List.take_range, Nat.min_eq_left h]
  rw [← h1, List.take_append_drop]
theorem doM_len {e : Ed} {l l' : List Int} (h : doM e l = some l') : l'.length ≤ l.length + e.new.length := by
  unfold doM at h
  split at h
  · cases h
    simp
    omega
  · cases h
theorem edv_of {w : World} {es : List Ed} {ess : List (List Value)} (hR : RelL (EdV w) es ess) {i : Nat} (hi : i < es.length) : ∃ A n c B m d, edv ess.flatten i = .agg #[.int .i64 (edAt es i).at_, .slice A n c, .slice B m d] ∧ Ru w Any A n c (edAt es i).old ∧ Ru w Any B m d (edAt es i).new := by
  have he : es[i]? = some (edAt es i) := by unfold edAt; rw [List.getElem?_eq_getElem hi]; rfl
  obtain ⟨cs, hc, A, n, c, B, m, d, rfl, h1, h2⟩ := hR.get he
  have hl := hR.all EdV.len
  have g0 := flat_get (r := 0) hl hc (by omega)
  have g1 := flat_get (r := 1) hl hc (by omega)
  have g2 := flat_get (r := 2) hl hc (by omega)
  refine ⟨A, n, c, B, m, d, ?_, h1, h2⟩
  unfold edv
  rw [Nat.add_zero] at g0
  rw [g0, g1, g2]
  rfl

/-- A line comes back, wherever it lies, or none. -/
def RetAny (F : Nat → Prop) (o : Option (List Int)) (w : World) (e : Ending) (w' : World) : Prop :=
  match o with
  | some l => ∃ A n c, e = .returned (.tuple #[.slice A n c, .bool true]) ∧ Ru w' (fun g => F g ∨ w.heap.size ≤ g) A n c l ∧ Kp w w'
  | none => e = .returned (.tuple #[.slice none 0 0, .bool false]) ∧ Kp w w'
def Mid (F : Nat → Prop) (s g : Nat) : Prop := (g < s ∧ F g) ∨ s + 6 ≤ g
theorem Mid.no {F : Nat → Prop} {s g : Nat} (h1 : s ≤ g) (h2 : g < s + 6) : ¬ Mid F s g := by rintro (⟨h, _⟩ | h) <;> omega
/-- Between two rounds: what has been undone. -/
def UndoI (F : Nat → Prop) (s : Nat) (w : World) (es : List Ed) (line : List Int) (pre : List Nat) (W : World) : Prop :=
  ∃ A n c l, Bx W (s + 1) #[.slice A n c] 49 ∧ Bx W (s + 1 + 1) #[.slice none 0 0] 49 ∧ Bx W (s + 1 + 1 + 1) #[.bool false] 4 ∧ Bx W (s + 1 + 1 + 1 + 1) #[.bool true] 4 ∧ Ru W (Mid F s) A n c l ∧
    undoL (pre.map (edAt es)) line = some l ∧ l.length ≤ line.length + 1000 * pre.length ∧ Below s w W ∧ s + 6 ≤ W.heap.size
/-- What does not fit has been met. -/
def UndoX (s : Nat) (w : World) (es : List Ed) (line : List Int) (pre : List Nat) (W : World) : Prop :=
  Bx W (s + 1 + 1) #[.slice none 0 0] 49 ∧ Bx W (s + 1 + 1 + 1) #[.bool false] 4 ∧ undoL (pre.map (edAt es)) line = none ∧ Below s w W ∧ s + 6 ≤ W.heap.size
theorem undoI_own {α : Type} (F : Nat → Prop) (f : α → Nat) (s B : Nat) (w : World) (es : List Ed) (line : List Int) (hs : s ≤ w.heap.size) (hB : s ≤ B) : OwnFrom B (fun (pre : List α) W => UndoI F s w es line (pre.map f) W) := by
  rintro pre X Y row ⟨A, n, c, l, h1, h2, h3, h4, hr, hu, hl, hbel, hz⟩ hg hrow
  have hr' : ∀ r, row = some r → ∃ o : Obj, X.heap[r]? = some o ∧ o.isCells = false := fun r e => (hrow r e).2
  exact ⟨A, n, c, l, h1.cells_kept hg hr', h2.cells_kept hg hr', h3.cells_kept hg hr', h4.cells_kept hg hr', Sl.cells_kept hr hg hr', hu, hl, ownFrom_below (β := Unit) hs hB () X Y row hbel hg hrow, Nat.le_trans hz hg.size⟩
theorem undoX_own {α : Type} (f : α → Nat) (s B : Nat) (w : World) (es : List Ed) (line : List Int) (hs : s ≤ w.heap.size) (hB : s ≤ B) : OwnFrom B (fun (pre : List α) W => UndoX s w es line (pre.map f) W) := by
  rintro pre X Y row ⟨h2, h3, hu, hbel, hz⟩ hg hrow
  have hr' : ∀ r, row = some r → ∃ o : Obj, X.heap[r]? = some o ∧ o.isCells = false := fun r e => (hrow r e).2
  exact ⟨h2.cells_kept hg hr', h3.cells_kept hg hr', hu, ownFrom_below (β := Unit) hs hB () X Y row hbel hg hrow, Nat.le_trans hz hg.size⟩

/-- A round's own edit lies in a box. -/
def UndoAx (s : Nat) (v : Value) (mk : Value → Act) (a' : Act) (W : World) : Prop := ∃ b cs, s + 6 ≤ b ∧ v = .agg cs ∧ Bx W b cs 56 ∧ a' = mk (.pointer (some ⟨b, 0, none⟩))
theorem undoAx_own (s B : Nat) (v : Value) (mk : Value → Act) (a' : Act) : OwnFrom B (fun (_ : Unit) W => UndoAx s v mk a' W) := by
  rintro _ X Y row ⟨b, cs, hb, hv, hB, ha⟩ hg hrow
  exact ⟨b, cs, hb, hv, hB.cells_kept hg fun r e => (hrow r e).2, ha⟩

set_option maxRecDepth 100000 in
set_option maxHeartbeats 3200000 in
theorem undo_undo (F : Nat → Prop) (A B : Option Addr) (n c m d : Nat) (g : Grp) (line : List Int) (w : World) (hE : Eds w A n c g.es) (hL : Ru w F B m d line) (hn : n ≤ 2000) (hm : m ≤ 100000000)
    (hb : ∀ e ∈ g.es, e.old.length ≤ 1000 ∧ e.new.length ≤ 1000 ∧ e.at_ ≤ 9223372036854775807) :
    Calls Try.prog 57 #[.agg #[.slice A n c, .int .i64 g.cur], .slice B m d] w (RetAny F (undoM g line) w) := by
  have hlen := hE.len
  have HB := Lib.hid hb
  have HLL := Lib.hid hL.len
  obtain ⟨ess, hS, hR, _⟩ := hE
  have HR := Lib.hid hR
  have HLEN := Lib.hid hlen
  have hS' : Sl w (To w.heap.size) 3 A n c ess.flatten := Sl.weak hS fun k hk _ => hk
  have hL' : Ru w (Mid F w.heap.size) B m d line := Sl.weak hL fun k hk h => .inl ⟨hk, h⟩
  clear hb hR hlen hS hL
  refine (callsIn_wide (n := 3)).1 ?_
  refine callsIn_of_wp_marks Try.func57 rfl trivial ?_ rfl
  simp only [Try.ntmps57, List.size_toArray, List.length_cons, List.length_nil, Nat.reduceAdd, Nat.reduceSub, Array.replicate_succ, Array.replicate_zero, List.push_toArray, List.append_toArray, List.nil_append, List.cons_append]
  gi_wp2_with (refine ⟨trivial, ?_⟩; gi_at_call 70; refine (back_in Fence.wide _ trivial rfl _ _ _ _).mono ?_; rintro e w' ⟨rfl, rfl⟩)
  have bb1 := (Bx.new (w.alloc (.cells #[.slice A n c, .int .i64 g.cur] 62)) #[.slice B m d] 49)
  repeat rw [World.size_alloc] at bb1
  have bb1 := bb1.alloc (.cells #[.slice none 0 0] 49)
  have bb1 := bb1.alloc (.cells #[.bool false] 4)
  have bb1 := bb1.alloc (.cells #[.bool true] 4)
  have bb1 := bb1.alloc (.cells #[.slice A n c] 60)
  have bb2 := (Bx.new ((w.alloc (.cells #[.slice A n c, .int .i64 g.cur] 62)).alloc (.cells #[.slice B m d] 49)) #[.slice none 0 0] 49)
  repeat rw [World.size_alloc] at bb2
  have bb2 := bb2.alloc (.cells #[.bool false] 4)
  have bb2 := bb2.alloc (.cells #[.bool true] 4)
  have bb2 := bb2.alloc (.cells #[.slice A n c] 60)
  have bb3 := (Bx.new (((w.alloc (.cells #[.slice A n c, .int .i64 g.cur] 62)).alloc (.cells #[.slice B m d] 49)).alloc (.cells #[.slice none 0 0] 49)) #[.bool false] 4)
  repeat rw [World.size_alloc] at bb3
  have bb3 := bb3.alloc (.cells #[.bool true] 4)
  have bb3 := bb3.alloc (.cells #[.slice A n c] 60)
  have bb4 := (Bx.new ((((w.alloc (.cells #[.slice A n c, .int .i64 g.cur] 62)).alloc (.cells #[.slice B m d] 49)).alloc (.cells #[.slice none 0 0] 49)).alloc (.cells #[.bool false] 4)) #[.bool true] 4)
  repeat rw [World.size_alloc] at bb4
  have bb4 := bb4.alloc (.cells #[.slice A n c] 60)
  have bb5 := (Bx.new (((((w.alloc (.cells #[.slice A n c, .int .i64 g.cur] 62)).alloc (.cells #[.slice B m d] 49)).alloc (.cells #[.slice none 0 0] 49)).alloc (.cells #[.bool false] 4)).alloc (.cells #[.bool true] 4)) #[.slice A n c] 60)
  repeat rw [World.size_alloc] at bb5
  have hB0 : Below w.heap.size w ((((((w.alloc (.cells #[.slice A n c, .int .i64 g.cur] 62)).alloc (.cells #[.slice B m d] 49)).alloc (.cells #[.slice none 0 0] 49)).alloc (.cells #[.bool false] 4)).alloc (.cells #[.bool true] 4)).alloc (.cells #[.slice A n c] 60)) := ((((((Kp.refl w).alloc _).alloc _).alloc _).alloc _).alloc _).alloc _
  have hS0 := Sl.kp hS' hB0
  have hL0 := Sl.kp hL' hB0
  generalize hw0 : ((((((w.alloc (.cells #[.slice A n c, .int .i64 g.cur] 62)).alloc (.cells #[.slice B m d] 49)).alloc (.cells #[.slice none 0 0] 49)).alloc (.cells #[.bool false] 4)).alloc (.cells #[.bool true] 4)).alloc (.cells #[.slice A n c] 60)) = w0 at *
  have hsz : w0.heap.size = w.heap.size + 6 := by rw [← hw0]; simp
  clear hw0
  refine wpIn_rangeFunc_ownH rfl (by omega) (gf := 74) (lb := #[.pointer (some ⟨w.heap.size + 1 + 1 + 1 + 1 + 1, 0, none⟩)]) rfl trivial (enters_of Try.func74 (by kernel_rfl) rfl)
    (back_stops Fence.wide _ trivial rfl (by omega) (w.heap.size + 1 + 1 + 1 + 1 + 1) w.heap.size A n c ess.flatten w0 (by omega) bb5 hS0) KpB.trans (KpB.b (by omega) (by omega)) (Below.refl _ _) (fun _ => rfl)
    (fun pre W => UndoI F w.heap.size w g.es line (pre.map (·.1)) W) (fun c pre W => c = .ret ∧ UndoX w.heap.size w g.es line (pre.map (·.1)) W) (undoI_own F _ _ _ _ _ _ (Nat.le_refl _) (by omega))
    (fun c => by intro pre X Y row h hg hr; exact ⟨h.1, undoX_own (·.1) _ _ _ _ _ (Nat.le_refl _) (by omega) pre X Y row h.2 hg hr⟩)
    ⟨B, m, d, line, bb1, bb2, bb3, bb4, hL0, rfl, by simp, hB0, by omega⟩
    (fun x a' W => UndoAx w.heap.size (edv ess.flatten x.1) (fun p => { tmps := #[.agg #[.slice A n c, .int .i64 g.cur], .slice B m d, .pointer (some ⟨w.heap.size, 0, none⟩), .pointer (some ⟨w.heap.size + 1, 0, none⟩), .pointer (some ⟨w.heap.size + 1 + 1, 0, none⟩), .pointer (some ⟨w.heap.size + 1 + 1 + 1, 0, none⟩), .pointer (some ⟨w.heap.size + 1 + 1 + 1 + 1, 0, none⟩), undef, p, .pointer (some ⟨w.heap.size, 0, none⟩), .slice A n c, .func (.func 74) #[] #[.pointer (some ⟨w.heap.size + 1 + 1 + 1 + 1 + 1, 0, none⟩)], .int .i64 (x.1 : Int), edv ess.flatten x.1, undef, undef, undef, undef, undef, undef, undef, undef, undef, undef], defers := [] }) a' W) (fun x a' => undoAx_own _ _ _ _ _) ?assign ?body ?done ?stop
  case assign =>
    intro l pre x W K hI hK
    obtain ⟨A1, n1, c1, B1, m1, d1, hv, _, _⟩ := edv_of HR.out (i := x.1) (by rw [HLEN.out]; exact x.2)
    simp only [hv]
    gi_wp2
    have ka := (Kp.refl W).alloc (.cells #[.int .i64 (edAt g.es x.1).at_, .slice A1 n1 c1, .slice B1 m1 d1] 56)
    have hz : w.heap.size + 6 ≤ W.heap.size := by obtain ⟨_, _, _, _, _, _, _, _, _, _, _, _, hz⟩ := hI; exact hz
    refine hK _ _ (ka.others.from _) ⟨ka.below.mono (by omega), ka.block (w.heap.size + 1 + 1 + 1 + 1 + 1) (by omega)⟩ (OwnFrom.alloc (undoI_own F (fun y : Fin n => y.1) w.heap.size w0.heap.size w g.es line (Nat.le_refl _) (by omega)) _ hI) ⟨W.heap.size, _, hz, hv, Bx.new W _ _, ?_⟩
    rw [hv]
  case body =>
    rintro l pre ⟨i, hi⟩ a' W hl hr ⟨A1, n1, c1, cur, h1, h2, h3, h4, hru, hu, hlb, hbel, hz⟩ ⟨b, cs, hb6, hv, hBx, rfl⟩ hlt
    obtain ⟨A2, n2, c2, B2, m2, d2, hv2, hr1, hr2⟩ := edv_of HR.out (i := i) (by rw [HLEN.out]; exact hi)
    have hcs := hv.symm.trans hv2
    injection hcs with hcs
    subst hcs
    have hei : edAt g.es i ∈ g.es := by unfold edAt; rw [List.getElem?_eq_getElem (by rw [HLEN.out]; exact hi)]; exact List.getElem_mem _
    obtain ⟨he1, he2, he3⟩ := HB.out _ hei
    obtain ⟨ed, hed⟩ : ∃ ed, ed = edAt g.es i := ⟨_, rfl⟩
    rw [← hed] at hr1 hr2 hv2 hBx he1 he2 he3
    have HED := Lib.hid hed
    clear hv hei hed
    have hd : 1 ≤ 3 - 1 - 1 := by omega
    have hmx : Try.prog.follows .mixedOrders = true := by kernel_rfl
    obtain ⟨s0, s1, s2, _, _, _⟩ := hBx.three
    obtain ⟨p0, p1⟩ := h1.one
    obtain ⟨q0, q1⟩ := h4.one
    have hrk := hr1.kp hbel
    have hrk2 := hr2.kp hbel
    have hnl := hru.len
    have hpl : pre.length ≤ 2000 := by omega
    rw [List.length_map] at hlb
    have hp9 : n1 ≤ 1000000000 := by have := HLL.out; omega
    have hn9 : n2 ≤ 1000000000 := by have := hr1.len; omega
    have hm9 : m2 ≤ 1000000000 := by have := hr2.len; omega
    dsimp only
    rw [hv2]
    cases hdo : doM ed.back cur with
    | none =>
      have HDO := Lib.hid hdo
      clear hdo
      have HC : ∀ w2, Kp W w2 → Calls Try.prog 38 #[.agg #[.int .i64 ed.at_, .slice B2 m2 d2, .slice A2 n2 c2], .slice A1 n1 c1] w2 (fun e w' => e = .returned (.tuple #[.slice none 0 0, .bool false]) ∧ Kp w2 w') := fun w2 k2 => by
        have h5 := do_any ed.back B2 A2 A1 m2 d2 n2 c2 n1 c1 cur w2 (hrk2.kp k2) (hrk.kp k2) (hru.any.kp k2) hm9 hn9 hp9 he3
        rw [HDO.out] at h5
        exact h5
      gi_wp2
      gi_region_with_o (first
        | (refine ⟨trivial, ?_⟩; gi_at_call 71; refine (CallsIn.inRound l (callsIn_wide.2 (back_any ed.at_ A2 B2 n2 c2 m2 d2 _))).mono ?_; rintro e w2 ⟨rfl, k2'⟩; have k2 := (Kp.refl W).drew.trans k2'; have p0' := cell_kp k2 p0)
        | (refine ⟨trivial, ?_⟩; gi_at_call 38; refine (CallsIn.inRound l (callsIn_wide.2 (HC _ k2))).mono ?_; rintro e w3 ⟨rfl, k3'⟩; have k3 := k2.trans k3'; have g1 := h1.kp k3; have g4 := h4.kp k3; obtain ⟨v0, v1⟩ := g1.one; obtain ⟨y0, y1⟩ := g4.one))
      all_goals
        have f2 := (((h2.kp k3).far (p := ⟨w.heap.size + 1, 0, none⟩) (by dsimp only; omega) (.slice none 0 0)).far (p := ⟨w.heap.size + 1 + 1 + 1 + 1, 0, none⟩) (by dsimp only; omega) (.bool false))
        have f3 := (((h3.kp k3).far (p := ⟨w.heap.size + 1, 0, none⟩) (by dsimp only; omega) (.slice none 0 0)).far (p := ⟨w.heap.size + 1 + 1 + 1 + 1, 0, none⟩) (by dsimp only; omega) (.bool false))
        have f4 := (g4.far (p := ⟨w.heap.size + 1, 0, none⟩) (by dsimp only; omega) (.slice none 0 0)).set 0 (.bool false)
        have kb := (((hbel.trans (k3.below.mono (by omega))).setCell (p := ⟨w.heap.size + 1, 0, none⟩) (by dsimp only; omega) (.slice none 0 0)).setCell (p := ⟨w.heap.size + 1 + 1 + 1 + 1, 0, none⟩) (by simp; omega) (.bool false))
        have ko := ((k3.others.trans (KeepsOthers.setCell w3 ⟨w.heap.size + 1, 0, none⟩ (.slice none 0 0))).trans (KeepsOthers.setCell _ ⟨w.heap.size + 1 + 1 + 1 + 1, 0, none⟩ (.bool false)))
        have hz5 : w.heap.size + 6 ≤ ((w3.setCell ⟨w.heap.size + 1, 0, none⟩ (.slice none 0 0)).setCell ⟨w.heap.size + 1 + 1 + 1 + 1, 0, none⟩ (.bool false)).heap.size := by have := k3.size; simp [World.setCell]; omega
        clear k2 k2' k3' k3 g1 g4 v0 v1 y0 y1 p0 p1 q0 q1 s0 s1 s2 p0' h1 h2 h3 h4 HC
        generalize ((w3.setCell ⟨w.heap.size + 1, 0, none⟩ (.slice none 0 0)).setCell ⟨w.heap.size + 1 + 1 + 1 + 1, 0, none⟩ (.bool false)) = w5 at *
        obtain ⟨z0, z1⟩ := Bx.one f2
        obtain ⟨z2, z3⟩ := Bx.one f3
        obtain ⟨z4, z5⟩ := Bx.one f4
        gi_wp2
        have f2' := ((Bx.set f2 0 (.slice none 0 0)).far (p := ⟨w.heap.size + 1 + 1 + 1, 0, none⟩) (by dsimp only; omega) (.bool false))
        have f3' := (f3.far (p := ⟨w.heap.size + 1 + 1, 0, none⟩) (by dsimp only; omega) (.slice none 0 0)).set 0 (.bool false)
        refine ⟨((ko.trans (KeepsOthers.setCell _ ⟨w.heap.size + 1 + 1, 0, none⟩ (.slice none 0 0))).trans (KeepsOthers.setCell _ ⟨w.heap.size + 1 + 1 + 1, 0, none⟩ (.bool false))).from _, rfl, f2', f3', ?_, (kb.setCell (p := ⟨w.heap.size + 1 + 1, 0, none⟩) (by dsimp only; omega) _).setCell (p := ⟨w.heap.size + 1 + 1 + 1, 0, none⟩) (by dsimp only; omega) _, by simpa [World.setCell] using hz5⟩
        rw [List.map_append, List.map_append, undoL_append, hu]
        show undoL [edAt g.es i] cur = none
        rw [← HED.out]
        unfold undoL
        rw [HDO.out]
    | some l2 =>
      have HDO := Lib.hid hdo
      have hl2 := doM_len hdo
      clear hdo
      have HC : ∀ w2, Kp W w2 → Calls Try.prog 38 #[.agg #[.int .i64 ed.at_, .slice B2 m2 d2, .slice A2 n2 c2], .slice A1 n1 c1] w2 (fun e w' => ∃ A3 n3 c3, e = .returned (.tuple #[.slice A3 n3 c3, .bool true]) ∧ Ru w' (From w2.heap.size) A3 n3 c3 l2 ∧ Kp w2 w') := fun w2 k2 => by
        have h5 := do_any ed.back B2 A2 A1 m2 d2 n2 c2 n1 c1 cur w2 (hrk2.kp k2) (hrk.kp k2) (hru.any.kp k2) hm9 hn9 hp9 he3
        rw [HDO.out] at h5
        exact h5
      gi_wp2
      gi_region_with_o (first
        | (refine ⟨trivial, ?_⟩; gi_at_call 71; refine (CallsIn.inRound l (callsIn_wide.2 (back_any ed.at_ A2 B2 n2 c2 m2 d2 _))).mono ?_; rintro e w2 ⟨rfl, k2'⟩; have k2 := (Kp.refl W).drew.trans k2'; have p0' := cell_kp k2 p0)
        | (refine ⟨trivial, ?_⟩; gi_at_call 38; refine (CallsIn.inRound l (callsIn_wide.2 (HC _ k2))).mono ?_; rintro e w3 ⟨A3, n3, c3, rfl, hr3, k3'⟩; have k3 := k2.trans k3'; have g1 := h1.kp k3; have g4 := h4.kp k3; obtain ⟨v0, v1⟩ := g1.one; obtain ⟨y0, y1⟩ := g4.one))
      all_goals
        have f1 := ((Bx.set g1 0 (.slice A3 n3 c3)).far (p := ⟨w.heap.size + 1 + 1 + 1 + 1, 0, none⟩) (by dsimp only; omega) (.bool true))
        have f2 := (((h2.kp k3).far (p := ⟨w.heap.size + 1, 0, none⟩) (by dsimp only; omega) (.slice A3 n3 c3)).far (p := ⟨w.heap.size + 1 + 1 + 1 + 1, 0, none⟩) (by dsimp only; omega) (.bool true))
        have f3 := (((h3.kp k3).far (p := ⟨w.heap.size + 1, 0, none⟩) (by dsimp only; omega) (.slice A3 n3 c3)).far (p := ⟨w.heap.size + 1 + 1 + 1 + 1, 0, none⟩) (by dsimp only; omega) (.bool true))
        have f4 := (g4.far (p := ⟨w.heap.size + 1, 0, none⟩) (by dsimp only; omega) (.slice A3 n3 c3)).set 0 (.bool true)
        have kb := (((hbel.trans (k3.below.mono (by omega))).setCell (p := ⟨w.heap.size + 1, 0, none⟩) (by dsimp only; omega) (.slice A3 n3 c3)).setCell (p := ⟨w.heap.size + 1 + 1 + 1 + 1, 0, none⟩) (by dsimp only; omega) (.bool true))
        have kw := (((k3.below.mono (show w.heap.size ≤ W.heap.size by omega))).setCell (p := ⟨w.heap.size + 1, 0, none⟩) (by dsimp only; omega) (.slice A3 n3 c3)).setCell (p := ⟨w.heap.size + 1 + 1 + 1 + 1, 0, none⟩) (by dsimp only; omega) (.bool true)
        have kB : ((w3.setCell ⟨w.heap.size + 1, 0, none⟩ (.slice A3 n3 c3)).setCell ⟨w.heap.size + 1 + 1 + 1 + 1, 0, none⟩ (.bool true)).heap[w.heap.size + 1 + 1 + 1 + 1 + 1]? = W.heap[w.heap.size + 1 + 1 + 1 + 1 + 1]? := by
          rw [Below.heap_setCell _ _ _ _ (by dsimp only; omega), Below.heap_setCell _ _ _ _ (by dsimp only; omega)]
          exact k3.block _ (by omega)
        have ko := ((k3.others.trans (KeepsOthers.setCell w3 ⟨w.heap.size + 1, 0, none⟩ (.slice A3 n3 c3))).trans (KeepsOthers.setCell _ ⟨w.heap.size + 1 + 1 + 1 + 1, 0, none⟩ (.bool true)))
        have hz5 : w.heap.size + 6 ≤ ((w3.setCell ⟨w.heap.size + 1, 0, none⟩ (.slice A3 n3 c3)).setCell ⟨w.heap.size + 1 + 1 + 1 + 1, 0, none⟩ (.bool true)).heap.size := by have := k3.size; simp [World.setCell]; omega
        have hr4 : Ru w3 (Mid F w.heap.size) A3 n3 c3 l2 := Sl.weak hr3 fun k _ h => .inr (by have := k2.size; unfold From at h; omega)
        have hr5 := Sl.setCell (Sl.setCell hr4 (p := ⟨w.heap.size + 1, 0, none⟩) (Mid.no (by dsimp only; omega) (by dsimp only; omega)) (.slice A3 n3 c3)) (p := ⟨w.heap.size + 1 + 1 + 1 + 1, 0, none⟩) (Mid.no (by dsimp only; omega) (by dsimp only; omega)) (.bool true)
        clear k2 k2' k3' k3 g1 g4 v0 v1 y0 y1 p0 p1 q0 q1 s0 s1 s2 p0' h1 h2 h3 h4 HC hr3 hr4
        generalize ((w3.setCell ⟨w.heap.size + 1, 0, none⟩ (.slice A3 n3 c3)).setCell ⟨w.heap.size + 1 + 1 + 1 + 1, 0, none⟩ (.bool true)) = w5 at *
        obtain ⟨z4, z5⟩ := Bx.one f4
        gi_wp2
        refine ⟨ko.from _, ⟨kw, kB⟩, A3, n3, c3, l2, f1, f2, f3, f4, hr5, ?_, ?_, kb, hz5⟩
        · rw [List.map_append, List.map_append, undoL_append, hu]
          show undoL [edAt g.es i] cur = some l2
          rw [← HED.out]
          unfold undoL
          rw [HDO.out]
          rfl
        · have hnn : ed.back.new = ed.old := rfl
          rw [hnn] at hl2
          simp
          omega
  case done =>
    rintro D ys W hD hys ⟨A1, n1, c1, l2, h1, h2, h3, h4, hr, hu, hl, hbel, hz⟩ hK
    have hm : undoM g line = some l2 := by
      rw [hys, ← HLEN.out, edAt_downs] at hu
      exact hu
    obtain ⟨p0, p1⟩ := h1.one
    obtain ⟨q0, q1⟩ := h2.one
    obtain ⟨y0, y1⟩ := h3.one
    have HM := Lib.hid hm
    clear hm
    gi_wp2
    have f2 := (h2.set 0 (.slice A1 n1 c1)).far (p := ⟨w.heap.size + 1 + 1 + 1, 0, none⟩) (by dsimp only; omega) (.bool true)
    have f3 := (h3.far (p := ⟨w.heap.size + 1 + 1, 0, none⟩) (by dsimp only; omega) (.slice A1 n1 c1)).set 0 (.bool true)
    have kb := (hbel.setCell (p := ⟨w.heap.size + 1 + 1, 0, none⟩) (by dsimp only; omega) (.slice A1 n1 c1)).setCell (p := ⟨w.heap.size + 1 + 1 + 1, 0, none⟩) (by dsimp only; omega) (.bool true)
    have hr5 := Sl.setCell (Sl.setCell hr (p := ⟨w.heap.size + 1 + 1, 0, none⟩) (Mid.no (by dsimp only; omega) (by dsimp only; omega)) (.slice A1 n1 c1)) (p := ⟨w.heap.size + 1 + 1 + 1, 0, none⟩) (Mid.no (by dsimp only; omega) (by dsimp only; omega)) (.bool true)
    have hK5 : ((W.setCell ⟨w.heap.size + 1 + 1, 0, none⟩ (.slice A1 n1 c1)).setCell ⟨w.heap.size + 1 + 1 + 1, 0, none⟩ (.bool true)).heap[D]? = some (.deferred (some [])) := by
      rw [Below.heap_setCell _ _ _ _ (by dsimp only; omega), Below.heap_setCell _ _ _ _ (by dsimp only; omega)]
      exact hK
    clear p0 p1 q0 q1 y0 y1 h1 h2 h3 h4 hr hK
    generalize ((W.setCell ⟨w.heap.size + 1 + 1, 0, none⟩ (.slice A1 n1 c1)).setCell ⟨w.heap.size + 1 + 1 + 1, 0, none⟩ (.bool true)) = w5 at *
    refine ⟨by simp, .inl ⟨_, _, rfl, run_takeDeferred hK5, ?_⟩⟩
    have hnc : ∀ r, some D = some r → ∃ o : Obj, w5.heap[r]? = some o ∧ o.isCells = false := fun r e => by cases e; exact ⟨_, hK5, rfl⟩
    have g2 := f2.cells_kept (grownBy_putObj' w5 D (.deferred none)) hnc
    have g3 := f3.cells_kept (grownBy_putObj' w5 D (.deferred none)) hnc
    have hr6 := Sl.cells_kept hr5 (grownBy_putObj' w5 D (.deferred none)) hnc
    have k6 := kb.trans (belowK_b (w := w) (Nat.le_refl _) w5 D _ (.deferred none) (by omega) hK5 rfl rfl)
    generalize w5.putObj D (.deferred none) = w6 at *
    obtain ⟨q0, q1⟩ := Bx.one g2
    obtain ⟨y0, y1⟩ := Bx.one g3
    refine ⟨.tuple #[.slice A1 n1 c1, .bool true], by simp [results, Try.results57, go_sem, q0, y0], ?_⟩
    rw [HM.out]
    exact ⟨A1, n1, c1, rfl, Sl.weak hr6 fun k _ h => h.elim (fun h => .inl h.2) (fun h => .inr (by omega)), k6⟩
  case stop =>
    rintro D c' pre W hD ⟨k, hk, hpre⟩ ⟨rfl, h2, h3, hu, hbel, hz⟩ hK
    have hm : undoM g line = none := by
      have e1 : undoM g line = undoL ((downs n 0).map (edAt g.es)) line := by rw [← HLEN.out, edAt_downs]; rfl
      rw [e1, downs_split n k hk, ← hpre, List.map_append, undoL_append, hu]
      rfl
    obtain ⟨q0, q1⟩ := h2.one
    obtain ⟨y0, y1⟩ := h3.one
    have HM := Lib.hid hm
    clear hm
    gi_wp2
    refine ⟨by simp, .inl ⟨_, _, rfl, run_takeDeferred hK, ?_⟩⟩
    have hnc : ∀ r, some D = some r → ∃ o : Obj, W.heap[r]? = some o ∧ o.isCells = false := fun r e => by cases e; exact ⟨_, hK, rfl⟩
    have g2 := h2.cells_kept (grownBy_putObj' W D (.deferred none)) hnc
    have g3 := h3.cells_kept (grownBy_putObj' W D (.deferred none)) hnc
    have k6 := hbel.trans (belowK_b (w := w) (Nat.le_refl _) W D _ (.deferred none) (by omega) hK rfl rfl)
    clear q0 q1 y0 y1
    generalize W.putObj D (.deferred none) = w6 at *
    obtain ⟨q0, q1⟩ := Bx.one g2
    obtain ⟨y0, y1⟩ := Bx.one g3
    refine ⟨.tuple #[.slice none 0 0, .bool false], by simp [results, Try.results57, go_sem, q0, y0], ?_⟩
    rw [HM.out]
    exact ⟨rfl, k6⟩
end Go.Proofs.Ytakbfppmgngdiaa
