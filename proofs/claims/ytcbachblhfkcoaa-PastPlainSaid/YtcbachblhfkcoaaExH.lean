/-
  package past: newest: the newest line that fits, whatever the test is that comes in. Conditions: the test reads alone; the lines can be read.
-/
import Derived.Test.YtcbachblhfkcoaaExA
import Derived.Test.YtcbachblhfkcoaaAll
import Derived.Test.YtcbachblhfkcoaaExD
namespace Go.Proofs.Ytcbachblhfkcoaa
open Go.RowKit Go.Shelf
attribute [local go_sem] Oper.semAt_some

theorem downs_split (len k : Nat) (h : k ≤ len) : downs len 0 = downs len k ++ (List.range k).reverse := by
  unfold downs
  rw [List.drop_zero, ← List.reverse_append]
  congr 1
  have h1 : (List.range len).take k = List.range k := by rw [List.take_range, Nat.min_eq_left h]
  rw [← h1, List.take_append_drop]
/-- The first that fits, of all that come. -/
theorem find_map (L : List (List Int)) (f : List Int → Bool) : L.reverse.find? f = ((downs L.length 0).find? fun i => f (L[i]?.getD [])).map fun i => L[i]?.getD [] := by
  rw [← downs_map, List.find?_map]
  rfl

/-- Between two rounds: none that has come fits. -/
def NewI (s : Nat) (w : World) (fv : Value) (f : Nat → Bool) (pre : List Nat) (W : World) : Prop :=
  Bx W (s + 1) #[fv] 93 ∧ Bx W (s + 1 + 1) #[.slice none 0 0] 23 ∧ Bx W (s + 1 + 1 + 1) #[.bool false] 4 ∧ (∀ i ∈ pre, f i = false) ∧ Below s w W ∧ s + 5 ≤ W.heap.size
/-- One fits. -/
def NewX (s : Nat) (w : World) (f : Nat → Bool) (vs : List Value) (pre : List Nat) (W : World) : Prop :=
  ∃ pre' i, pre = pre' ++ [i] ∧ (∀ i ∈ pre', f i = false) ∧ f i = true ∧ Bx W (s + 1 + 1) #[vs[i]?.getD undef] 23 ∧ Bx W (s + 1 + 1 + 1) #[.bool true] 4 ∧ Below s w W ∧ s + 5 ≤ W.heap.size
theorem newI_own {α : Type} (g : α → Nat) (s B : Nat) (w : World) (fv : Value) (f : Nat → Bool) (hs : s ≤ w.heap.size) (hB : s ≤ B) : OwnFrom B (fun (pre : List α) W => NewI s w fv f (pre.map g) W) := by
  rintro pre X Y row ⟨h1, h2, h3, hu, hbel, hz⟩ hg hrow
  have hr' : ∀ r, row = some r → ∃ o : Obj, X.heap[r]? = some o ∧ o.isCells = false := fun r e => (hrow r e).2
  exact ⟨h1.cells_kept hg hr', h2.cells_kept hg hr', h3.cells_kept hg hr', hu, ownFrom_below (β := Unit) hs hB () X Y row hbel hg hrow, Nat.le_trans hz hg.size⟩
theorem newX_own {α : Type} (g : α → Nat) (s B : Nat) (w : World) (f : Nat → Bool) (vs : List Value) (hs : s ≤ w.heap.size) (hB : s ≤ B) : OwnFrom B (fun (pre : List α) W => NewX s w f vs (pre.map g) W) := by
  rintro pre X Y row ⟨pre', i, e, h1, h2, h3, h4, hbel, hz⟩ hg hrow
  have hr' : ∀ r, row = some r → ∃ o : Obj, X.heap[r]? = some o ∧ o.isCells = false := fun r e => (hrow r e).2
  exact ⟨pre', i, e, h1, h2, h3.cells_kept hg hr', h4.cells_kept hg hr', ownFrom_below (β := Unit) hs hB () X Y row hbel hg hrow, Nat.le_trans hz hg.size⟩

set_option maxRecDepth 100000 in
set_option maxHeartbeats 3200000 in
theorem newest_any (F G : Nat → Prop) (A B : Option Addr) (n c m d gf : Nat) (caps : Array Value) (at_ : Int) (L : List (List Int)) (f : List Int → Bool) (w : World) (hT : Txs w F G A n c L) (eg : ∀ args w, (callFunc gf args).run Try.prog w = .ok (.enter gf args) w)
    (hf : ∀ (W : World) (C : Option Addr) (k e : Nat) (x : List Int), x ∈ L → Below w.heap.size w W → Ru W G C k e x → Calls Try.prog gf (#[.slice C k e] ++ caps) W fun e W' => e = .returned (.bool (f x)) ∧ Dr W W') :
    Calls Try.prog 62 #[.agg #[.slice A n c, .int .i64 at_, .slice B m d], .func (.func gf) #[] caps] w (RetL G (L.reverse.find? f) w) := by
  have hlen := hT.len
  obtain ⟨vs, hS, _, hX⟩ := hT
  have HXX := Lib.hid hX
  have HLEN := Lib.hid hlen
  have HF := Lib.hid hf
  have HEG := Lib.hid eg
  clear hX hlen hf eg
  have hS' : Sl w (To w.heap.size) 1 A n c vs := Sl.weak hS fun k hk _ => hk
  refine (callsIn_wide (n := 3)).1 ?_
  refine callsIn_of_wp_marks Try.func62 rfl trivial ?_ rfl
  simp only [Try.ntmps62, List.size_toArray, List.length_cons, List.length_nil, Nat.reduceAdd, Nat.reduceSub, Array.replicate_succ, Array.replicate_zero, List.push_toArray, List.append_toArray, List.nil_append, List.cons_append]
  gi_wp2_with (refine ⟨trivial, ?_⟩; gi_at_call 47; refine (back_in Fence.wide _ trivial rfl _ _ _ _).mono ?_; rintro e w' ⟨rfl, rfl⟩)
  have bb1 := (Bx.new (w.alloc (.cells #[.slice A n c, .int .i64 at_, .slice B m d] 27)) #[.func (.func gf) #[] caps] 93)
  repeat rw [World.size_alloc] at bb1
  have bb1 := bb1.alloc (.cells #[.slice none 0 0] 23)
  have bb1 := bb1.alloc (.cells #[.bool false] 4)
  have bb1 := bb1.alloc (.cells #[.slice A n c] 22)
  have bb2 := (Bx.new ((w.alloc (.cells #[.slice A n c, .int .i64 at_, .slice B m d] 27)).alloc (.cells #[.func (.func gf) #[] caps] 93)) #[.slice none 0 0] 23)
  repeat rw [World.size_alloc] at bb2
  have bb2 := bb2.alloc (.cells #[.bool false] 4)
  have bb2 := bb2.alloc (.cells #[.slice A n c] 22)
  have bb3 := (Bx.new (((w.alloc (.cells #[.slice A n c, .int .i64 at_, .slice B m d] 27)).alloc (.cells #[.func (.func gf) #[] caps] 93)).alloc (.cells #[.slice none 0 0] 23)) #[.bool false] 4)
  repeat rw [World.size_alloc] at bb3
  have bb3 := bb3.alloc (.cells #[.slice A n c] 22)
  have bb4 := (Bx.new ((((w.alloc (.cells #[.slice A n c, .int .i64 at_, .slice B m d] 27)).alloc (.cells #[.func (.func gf) #[] caps] 93)).alloc (.cells #[.slice none 0 0] 23)).alloc (.cells #[.bool false] 4)) #[.slice A n c] 22)
  repeat rw [World.size_alloc] at bb4
  have hB0 : Below w.heap.size w (((((w.alloc (.cells #[.slice A n c, .int .i64 at_, .slice B m d] 27)).alloc (.cells #[.func (.func gf) #[] caps] 93)).alloc (.cells #[.slice none 0 0] 23)).alloc (.cells #[.bool false] 4)).alloc (.cells #[.slice A n c] 22)) := (((((Kp.refl w).alloc _).alloc _).alloc _).alloc _).alloc _
  have hS0 := Sl.kp hS' hB0
  generalize hw0 : (((((w.alloc (.cells #[.slice A n c, .int .i64 at_, .slice B m d] 27)).alloc (.cells #[.func (.func gf) #[] caps] 93)).alloc (.cells #[.slice none 0 0] 23)).alloc (.cells #[.bool false] 4)).alloc (.cells #[.slice A n c] 22)) = w0 at *
  have hsz : w0.heap.size = w.heap.size + 5 := by rw [← hw0]; simp
  clear hw0
  obtain ⟨fi, hfi⟩ : ∃ fi : Nat → Bool, fi = fun i => f (L[i]?.getD []) := ⟨_, rfl⟩
  have HFI := Lib.hid hfi
  clear hfi
  refine wpIn_rangeFunc_ownG rfl (by omega) (gf := 58) (lb := #[.pointer (some ⟨w.heap.size + 1 + 1 + 1 + 1, 0, none⟩)]) rfl trivial (enters_of Try.func58 (by kernel_rfl) rfl)
    (back_stops Fence.wide _ trivial rfl (by omega) (w.heap.size + 1 + 1 + 1 + 1) w.heap.size A n c vs w0 (by omega) bb4 hS0) KpB.trans (KpB.b (by omega) (by omega)) (Below.refl _ _) (fun _ => rfl)
    (fun pre W => NewI w.heap.size w (.func (.func gf) #[] caps) fi (pre.map (·.1)) W) (fun c pre W => c = .ret ∧ NewX w.heap.size w fi vs (pre.map (·.1)) W) (newI_own _ _ _ _ _ _ (Nat.le_refl _) (by omega))
    (fun c => by intro pre X Y row h hg hr; exact ⟨h.1, newX_own (·.1) _ _ _ _ _ (Nat.le_refl _) (by omega) pre X Y row h.2 hg hr⟩)
    ⟨bb1, bb2, bb3, by simp, hB0, by omega⟩
    (fun x => { tmps := #[.agg #[.slice A n c, .int .i64 at_, .slice B m d], .func (.func gf) #[] caps, .pointer (some ⟨w.heap.size, 0, none⟩), .pointer (some ⟨w.heap.size + 1, 0, none⟩), .pointer (some ⟨w.heap.size + 1 + 1, 0, none⟩), .pointer (some ⟨w.heap.size + 1 + 1 + 1, 0, none⟩), undef, vs[x.1]?.getD undef, .pointer (some ⟨w.heap.size, 0, none⟩), .slice A n c, .func (.func 58) #[] #[.pointer (some ⟨w.heap.size + 1 + 1 + 1 + 1, 0, none⟩)], .int .i64 (x.1 : Int), vs[x.1]?.getD undef, undef, undef, undef, undef], defers := [] }) ?assign ?body ?done ?stop
  case assign =>
    intro l x W K hK
    gi_wp2
    exact hK
  case body =>
    rintro l pre ⟨i, hi⟩ W ⟨h1, h2, h3, hu, hbel, hz⟩ hlt
    have hd : 1 ≤ 3 - 1 - 1 := by omega
    have hx0 : L[i]? = some (L[i]?.getD []) := by rw [List.getElem?_eq_getElem (by rw [HLEN.out]; exact hi)]; rfl
    obtain ⟨B2, m2, d2, hv, hr2⟩ := HXX.out i _ hx0
    have hxm := List.mem_of_getElem? hx0
    obtain ⟨x, hx⟩ : ∃ x, x = L[i]?.getD [] := ⟨_, rfl⟩
    rw [← hx] at hr2 hxm
    have hff : f x = fi i := by rw [HFI.out, hx]
    clear hx0 hx
    have hr2' : Ru W G B2 m2 d2 x := Sl.kp hr2 hbel
    have HC := Lib.hid (HF.out W B2 m2 d2 x hxm hbel hr2')
    rw [hff] at HC
    clear hff
    dsimp only
    rw [hv, Option.getD_some]
    have hp1 := h1.cell 0
    have hf1 := h1.frozen 0
    cases hfi : fi i with
    | true =>
      have HFI1 := Lib.hid hfi
      rw [hfi] at HC
      clear hfi
      gi_wp2_with (refine ⟨trivial, ?_⟩; rw [HEG.out, Oper.uponIn_enter]; refine ⟨fun _ => by omega, ?_⟩; refine (CallsIn.inRound l (callsIn_wide.2 HC.out)).mono ?_; rintro e w2 ⟨rfl, dd⟩; have g2 := h2.kp dd.kp; have g3 := h3.kp dd.kp; obtain ⟨p0, p1⟩ := g2.one; obtain ⟨q0, q1⟩ := g3.one)
      have f2 := (g2.set 0 (.slice B2 m2 d2)).far (p := ⟨w.heap.size + 1 + 1 + 1, 0, none⟩) (by dsimp only; omega) (.bool true)
      have f3 := (g3.far (p := ⟨w.heap.size + 1 + 1, 0, none⟩) (by dsimp only; omega) (.slice B2 m2 d2)).set 0 (.bool true)
      have kb := ((hbel.trans (dd.kp.below.mono (by omega))).setCell (p := ⟨w.heap.size + 1 + 1, 0, none⟩) (by dsimp only; omega) (.slice B2 m2 d2)).setCell (p := ⟨w.heap.size + 1 + 1 + 1, 0, none⟩) (by dsimp only; omega) (.bool true)
      have ko := ((dd.kp.others.trans (KeepsOthers.setCell w2 ⟨w.heap.size + 1 + 1, 0, none⟩ (.slice B2 m2 d2))).trans (KeepsOthers.setCell _ ⟨w.heap.size + 1 + 1 + 1, 0, none⟩ (.bool true)))
      refine ⟨ko.from _, rfl, pre.map (·.1), i, by simp, hu, HFI1.out, ?_, f3, kb, ?_⟩
      · rw [hv]; exact f2
      · have := dd.kp.size; simp [World.setCell]; omega
    | false =>
      have HFI1 := Lib.hid hfi
      rw [hfi] at HC
      clear hfi
      gi_wp2_with (refine ⟨trivial, ?_⟩; rw [HEG.out, Oper.uponIn_enter]; refine ⟨fun _ => by omega, ?_⟩; refine (CallsIn.inRound l (callsIn_wide.2 HC.out)).mono ?_; rintro e w2 ⟨rfl, dd⟩)
      refine ⟨dd.kp.others.from _, ⟨dd.kp.below.mono (by omega), dd.kp.block _ (by omega)⟩, h1.kp dd.kp, h2.kp dd.kp, h3.kp dd.kp, ?_, hbel.trans (dd.kp.below.mono (by omega)), by have := dd.kp.size; omega⟩
      intro j hj
      rw [List.map_append, List.mem_append] at hj
      rcases hj with hj | hj
      · exact hu j hj
      · simp at hj
        rw [hj]
        exact HFI1.out
  case done =>
    rintro D ys W hD hys ⟨h1, h2, h3, hu, hbel, hz⟩ hK
    have hm : L.reverse.find? f = none := by
      rw [find_map, HLEN.out, ← hys, ← HFI.out, List.find?_eq_none.2 (fun i hi => by rw [hu i hi]; simp)]
      rfl
    obtain ⟨p0, p1⟩ := h2.one
    obtain ⟨q0, q1⟩ := h3.one
    have HM := Lib.hid hm
    clear hm
    gi_wp2
    have f2 := (h2.set 0 (.slice none 0 0)).far (p := ⟨w.heap.size + 1 + 1 + 1, 0, none⟩) (by dsimp only; omega) (.bool false)
    have f3 := (h3.far (p := ⟨w.heap.size + 1 + 1, 0, none⟩) (by dsimp only; omega) (.slice none 0 0)).set 0 (.bool false)
    have kb := (hbel.setCell (p := ⟨w.heap.size + 1 + 1, 0, none⟩) (by dsimp only; omega) (.slice none 0 0)).setCell (p := ⟨w.heap.size + 1 + 1 + 1, 0, none⟩) (by dsimp only; omega) (.bool false)
    have hK5 : ((W.setCell ⟨w.heap.size + 1 + 1, 0, none⟩ (.slice none 0 0)).setCell ⟨w.heap.size + 1 + 1 + 1, 0, none⟩ (.bool false)).heap[D]? = some (.deferred (some [])) := by
      rw [Below.heap_setCell _ _ _ _ (by dsimp only; omega), Below.heap_setCell _ _ _ _ (by dsimp only; omega)]
      exact hK
    clear p0 p1 q0 q1 h2 h3 hK
    generalize ((W.setCell ⟨w.heap.size + 1 + 1, 0, none⟩ (.slice none 0 0)).setCell ⟨w.heap.size + 1 + 1 + 1, 0, none⟩ (.bool false)) = w5 at *
    refine ⟨by simp, .inl ⟨_, _, rfl, run_takeDeferred hK5, ?_⟩⟩
    have hnc : ∀ r, some D = some r → ∃ o : Obj, w5.heap[r]? = some o ∧ o.isCells = false := fun r e => by cases e; exact ⟨_, hK5, rfl⟩
    have g2 := f2.cells_kept (grownBy_putObj' w5 D (.deferred none)) hnc
    have g3 := f3.cells_kept (grownBy_putObj' w5 D (.deferred none)) hnc
    have k6 := kb.trans (belowK_b (w := w) (Nat.le_refl _) w5 D _ (.deferred none) (by omega) hK5 rfl rfl)
    generalize w5.putObj D (.deferred none) = w6 at *
    obtain ⟨q0, q1⟩ := Bx.one g2
    obtain ⟨y0, y1⟩ := Bx.one g3
    refine ⟨.tuple #[.slice none 0 0, .bool false], by simp [results, Try.results62, go_sem, q0, y0], ?_⟩
    rw [HM.out]
    exact ⟨none, 0, 0, rfl, Ru.nil _ _, k6⟩
  case stop =>
    rintro D c' pre W hD ⟨k, hk, hpre⟩ ⟨rfl, pre', i, he, hu, hfi, h2, h3, hbel, hz⟩ hK
    have hin : i < n := by
      have h1 : i ∈ downs n k := by rw [← hpre, he]; simp
      unfold downs at h1
      have := List.mem_of_mem_drop (List.mem_reverse.1 h1)
      exact List.mem_range.1 this
    have hm : L.reverse.find? f = some (L[i]?.getD []) := by
      rw [find_map, HLEN.out, ← HFI.out, downs_split n k hk, ← hpre, he, List.append_assoc, List.find?_append, List.find?_eq_none.2 (fun i hi => by rw [hu i hi]; simp)]
      simp [hfi]
    obtain ⟨B2, m2, d2, hv, hr2⟩ := HXX.out i (L[i]?.getD []) (by rw [List.getElem?_eq_getElem (by rw [HLEN.out]; exact hin)]; rfl)
    rw [hv, Option.getD_some] at h2
    obtain ⟨q0, q1⟩ := h2.one
    obtain ⟨y0, y1⟩ := h3.one
    have HM := Lib.hid hm
    clear hm hv
    gi_wp2
    refine ⟨by simp, .inl ⟨_, _, rfl, run_takeDeferred hK, ?_⟩⟩
    have hnc : ∀ r, some D = some r → ∃ o : Obj, W.heap[r]? = some o ∧ o.isCells = false := fun r e => by cases e; exact ⟨_, hK, rfl⟩
    have g2 := h2.cells_kept (grownBy_putObj' W D (.deferred none)) hnc
    have g3 := h3.cells_kept (grownBy_putObj' W D (.deferred none)) hnc
    have k6 := hbel.trans (belowK_b (w := w) (Nat.le_refl _) W D _ (.deferred none) (by omega) hK rfl rfl)
    clear q0 q1 y0 y1
    generalize W.putObj D (.deferred none) = w6 at *
    obtain ⟨q0, q1⟩ := Bx.one g2
    obtain ⟨y0, y1⟩ := Bx.one g3
    refine ⟨.tuple #[.slice B2 m2 d2, .bool true], by simp [results, Try.results62, go_sem, q0, y0], ?_⟩
    rw [HM.out]
    exact ⟨B2, m2, d2, rfl, Sl.kp hr2 k6, k6⟩
end Go.Proofs.Ytcbachblhfkcoaa
