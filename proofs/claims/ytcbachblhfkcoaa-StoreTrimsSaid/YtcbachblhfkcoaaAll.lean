/-
  package past: All: the lines, the newest one first, in memory of the call's own. Conditions: not more than 2000 lines, of bounded length.
-/
import Derived.Maps.AppendAt
import Derived.Test.YtcbachblhfkcoaaBack
import Derived.Test.YtcbachblhfkcoaaOTx
import Derived.Test.YtcbachblhfkcoaaWords2
namespace Go.Proofs.Ytcbachblhfkcoaa
open Go.RowKit Go.Shelf
attribute [local go_sem] Oper.semAt_some

/-- Between two rounds: the lines that have come are told. -/
def AllI (s : Nat) (w : World) (L : List (List Int)) (pre : List Nat) (W : World) : Prop :=
  (∃ A c vs, Bx W (s + 1) #[.slice A pre.length c] 22 ∧ OTx W (s + 3) (From (s + 3)) A pre.length c (pre.map fun i => L[i]?.getD []) vs) ∧ Below s w W ∧ s + 3 ≤ W.heap.size

theorem allI_own {α : Type} (f : α → Nat) (s B : Nat) (w : World) (L : List (List Int)) (hs : s ≤ w.heap.size) (hB : s ≤ B) : OwnFrom B (fun (pre : List α) W => AllI s w L (pre.map f) W) := by
  rintro pre X Y row ⟨⟨A, c, vs, hb, ho⟩, hbel, hz⟩ hg hr
  have hr' : ∀ r, row = some r → ∃ o : Obj, X.heap[r]? = some o ∧ o.isCells = false := fun r e => (hr r e).2
  exact ⟨⟨A, c, vs, hb.cells_kept hg hr', ho.cells_kept hg hr'⟩, ownFrom_below (β := Unit) hs hB () X Y row hbel hg hr, Nat.le_trans hz hg.size⟩

theorem downs_map (L : List (List Int)) : (downs L.length 0).map (fun i => L[i]?.getD []) = L.reverse := by
  unfold downs
  rw [List.drop_zero, List.map_reverse]
  congr 1
  apply List.ext_getElem
  · simp
  · intro i h1 h2
    rw [List.getElem_map, List.getElem_range, List.getElem?_eq_getElem h2]
    rfl

/-- What a round leaves. -/
theorem all_end {w W w2 w4 : World} {s B p c1 n3 c3 c4 : Nat} {A1 A3 A4 : Option Addr} {Lp : List (List Int)} {x : List Int} {vs1 : List Value} (hbel : Below s w W) (hsz : s + 3 ≤ W.heap.size)
    (ho1 : OTx W (s + 3) (From (s + 3)) A1 p c1 Lp vs1) (hb1 : Bx W (s + 1) #[.slice A1 p c1] 22) (hk3 : Kp W.drew w2) (hr3 : Ru w2 (From W.drew.heap.size) A3 n3 c3 x)
    (hown4 : Own w4 (s + 3) 23 1 A4 (p + 1) c4 (vs1 ++ [.slice A3 n3 c3])) (hg4 : (w2.alloc (.cells #[.slice A3 n3 c3] 23)).grownBy w4 (rowOf A1))
    (hat4 : rowOf A4 = rowOf A1 ∨ rowOf A4 = some (w2.alloc (.cells #[.slice A3 n3 c3] 23)).heap.size) :
    KeepsFrom B W (w4.setCell ⟨s + 1, 0, none⟩ (.slice A4 (p + 1) c4)) ∧ KpB s (s + 2) W (w4.setCell ⟨s + 1, 0, none⟩ (.slice A4 (p + 1) c4)) ∧
      Bx (w4.setCell ⟨s + 1, 0, none⟩ (.slice A4 (p + 1) c4)) (s + 1) #[.slice A4 (p + 1) c4] 22 ∧
      OTx (w4.setCell ⟨s + 1, 0, none⟩ (.slice A4 (p + 1) c4)) (s + 3) (From (s + 3)) A4 (p + 1) c4 (Lp ++ [x]) (vs1 ++ [.slice A3 n3 c3]) ∧
      Below s w (w4.setCell ⟨s + 1, 0, none⟩ (.slice A4 (p + 1) c4)) ∧ s + 3 ≤ (w4.setCell ⟨s + 1, 0, none⟩ (.slice A4 (p + 1) c4)).heap.size := by
  have hka : Kp W (w2.alloc (.cells #[.slice A3 n3 c3] 23)) := ((Kp.refl W).drew.trans hk3).alloc _
  have ho2 := ho1.kp hka
  have hb2 := hb1.kp hka
  have hrow : ∀ k, rowOf A1 = some k → s + 3 ≤ k := fun k h => (ho1.1.lt k h).1
  have hlt1 : ∀ k, rowOf A1 = some k → k < W.heap.size := fun k h => (ho1.1.lt k h).2
  have hr4 : Ru (w2.alloc (.cells #[.slice A3 n3 c3] 23)) (fun g => From (s + 3) g ∧ rowOf A1 ≠ some g) A3 n3 c3 x :=
    Sl.alloc (hr3.weak fun k _ hk => ⟨by unfold From at hk ⊢; simp at hk; omega, fun e => by have := hlt1 k e; unfold From at hk; simp at hk; omega⟩) _
  have ho4 := ho2.app hr4 hown4 hg4 hat4
  have hb4 : Bx w4 (s + 1) #[.slice A1 p c1] 22 := hb2.grown hg4 fun e => by have := hrow _ e; omega
  have hz : W.heap.size ≤ w4.heap.size := Nat.le_trans hka.size hg4.size
  have hbelW : Below s W (w4.setCell ⟨s + 1, 0, none⟩ (.slice A4 (p + 1) c4)) := ((hka.below.mono (by omega)).grown hg4 (by have := hka.size; omega) fun k e => by have := hrow k e; omega).setCell (p := ⟨s + 1, 0, none⟩) (by simp) _
  refine ⟨(((hka.others.trans (KeepsOthers.of_grownBy hg4 ho2.1.is_cells)).trans (KeepsOthers.setCell _ _ _)).from B), ⟨hbelW, ?_⟩, hb4.set 0 _, ho4.far (by unfold From; omega) (by omega) _ _, hbel.trans hbelW, by simpa [World.setCell] using Nat.le_trans hsz hz⟩
  rw [Below.heap_setCell _ _ _ _ (by simp), hg4.block (s + 2) (by have := hka.size; omega) (fun e => by have := hrow _ e.symm; omega), hka.block (s + 2) (by omega)]

theorem allI_mk {s k c : Nat} {w W : World} {L : List (List Int)} {pre : List (Fin k)} {i : Fin k} {A : Option Addr} {vs : List Value} (hb : Bx W (s + 1) #[.slice A (pre.length + 1) c] 22)
    (ho : OTx W (s + 3) (From (s + 3)) A (pre.length + 1) c ((pre.map (·.1)).map (fun i => L[i]?.getD []) ++ [L[i.1]?.getD []]) vs) (hbel : Below s w W) (hz : s + 3 ≤ W.heap.size) : AllI s w L ((pre ++ [i]).map (·.1)) W := by
  have e : ((pre ++ [i]).map (fun x => x.1)).length = pre.length + 1 := by simp
  refine ⟨⟨A, c, vs, ?_, ?_⟩, hbel, hz⟩
  · rw [e]; exact hb
  · rw [e]
    have e2 : ((pre ++ [i]).map (fun x => x.1)).map (fun i => L[i]?.getD []) = (pre.map (·.1)).map (fun i => L[i]?.getD []) ++ [L[i.1]?.getD []] := by simp
    rw [e2]; exact ho

set_option maxRecDepth 100000 in
set_option maxHeartbeats 3200000 in
theorem past_all (F : Nat → Prop) (A B : Option Addr) (n c m d : Nat) (at_ : Int) (L : List (List Int)) (w : World) (hT : Txs w F F A n c L) (hn : n ≤ 2000) (hL : ∀ x ∈ L, x.length ≤ 1099511627776) :
    Calls Try.prog 24 #[.agg #[.slice A n c, .int .i64 at_, .slice B m d]] w fun e w' => ∃ A' n' c', e = .returned (.slice A' n' c') ∧ Txs w' (From w.heap.size) (From w.heap.size) A' n' c' L.reverse ∧ Kp w w' := by
  have HL := Lib.hid hL
  have hlen := hT.len
  obtain ⟨vs, hS, _, hX⟩ := hT
  have HXX := Lib.hid hX
  have HLEN := Lib.hid hlen
  clear hL hX hlen
  have hS' : Sl w (To w.heap.size) 1 A n c vs := Sl.weak hS fun k hk _ => hk
  refine (callsIn_wide (n := 3)).1 ?_
  refine callsIn_of_wp_marks Try.func24 rfl trivial ?_ rfl
  simp only [Try.ntmps24, List.size_toArray, List.length_cons, List.length_nil, Nat.reduceAdd, Nat.reduceSub, Array.replicate_succ, Array.replicate_zero, List.push_toArray, List.append_toArray, List.nil_append, List.cons_append]
  gi_wp2_with (refine ⟨trivial, ?_⟩; gi_at_call 47; refine (back_in Fence.wide _ trivial rfl _ _ _ _).mono ?_; rintro e w' ⟨rfl, rfl⟩)
  have bP := Bx.new w #[.slice A n c, .int .i64 at_, .slice B m d] 27
  have bO := Bx.new (w.alloc (.cells #[.slice A n c, .int .i64 at_, .slice B m d] 27)) #[.slice none 0 0] 22
  have bS := Bx.new ((w.alloc (.cells #[.slice A n c, .int .i64 at_, .slice B m d] 27)).alloc (.cells #[.slice none 0 0] 22)) #[.slice A n c] 22
  rw [World.size_alloc] at bO bS
  rw [World.size_alloc] at bS
  have hB0 : Below w.heap.size w (((w.alloc (.cells #[.slice A n c, .int .i64 at_, .slice B m d] 27)).alloc (.cells #[.slice none 0 0] 22)).alloc (.cells #[.slice A n c] 22)) := ((((Kp.refl w).alloc _).alloc _).alloc _)
  have hS0 := Sl.kp hS' hB0
  have bO' := bO.alloc (.cells #[.slice A n c] 22)
  generalize hw0 : ((w.alloc (.cells #[.slice A n c, .int .i64 at_, .slice B m d] 27)).alloc (.cells #[.slice none 0 0] 22)).alloc (.cells #[.slice A n c] 22) = w0 at *
  have hsz : w0.heap.size = w.heap.size + 3 := by rw [← hw0]; simp
  clear hw0 bO bP
  refine wpIn_rangeFunc_ownG rfl (by omega) (gf := 58) (lb := #[.pointer (some ⟨w.heap.size + 2, 0, none⟩)]) rfl trivial (enters_of Try.func58 (by kernel_rfl) rfl)
    (back_stops Fence.wide _ trivial rfl (by omega) (w.heap.size + 2) w.heap.size A n c vs w0 (by omega) bS hS0) KpB.trans (KpB.b (by omega) (by omega)) (Below.refl _ _) (fun _ => rfl)
    (fun pre W => AllI w.heap.size w L (pre.map (·.1)) W) (fun _ _ _ => False) (allI_own _ _ _ _ _ (Nat.le_refl _) (by omega)) (fun _ _ _ _ _ hs _ _ => hs)
    ⟨⟨none, 0, [], bO', OTx.nil _ _ _⟩, hB0, by omega⟩
    (fun x => { tmps := #[.agg #[.slice A n c, .int .i64 at_, .slice B m d], .pointer (some ⟨w.heap.size, 0, none⟩), .slice none 0 0, .pointer (some ⟨w.heap.size + 1, 0, none⟩), undef, vs[x.1]?.getD undef, .pointer (some ⟨w.heap.size, 0, none⟩), .slice A n c, .func (.func 58) #[] #[.pointer (some ⟨w.heap.size + 2, 0, none⟩)], .int .i64 (x.1 : Int), vs[x.1]?.getD undef, undef, undef, undef, undef, undef, undef], defers := [] }) ?assign ?body ?done ?stop
  case assign =>
    intro l x W K hK
    gi_wp2
    exact hK
  case body =>
    rintro l pre ⟨i, hi⟩ W ⟨⟨A1, c1, vs1, hb1, ho1⟩, hbel, hz⟩ hlt
    rw [List.length_map] at hb1 ho1
    have hd : 1 ≤ 3 - 1 - 1 := by omega
    have hmx : Try.prog.follows .mixedOrders = true := by kernel_rfl
    have hx0 : L[i]? = some (L[i]?.getD []) := by rw [List.getElem?_eq_getElem (by rw [HLEN.out]; exact hi)]; rfl
    obtain ⟨B2, m2, d2, hv, hr2⟩ := HXX.out i _ hx0
    have hxl := HL.out _ (List.mem_of_getElem? hx0)
    clear hx0
    obtain ⟨x, hx⟩ : ∃ x, x = L[i]?.getD [] := ⟨_, rfl⟩
    rw [← hx] at hr2 hxl
    have HXE := Lib.hid hx
    clear hx
    have hr2' := Ru.kp hr2 hbel
    dsimp only
    rw [hv, Option.getD_some]
    have hp1 := hb1.cell 0
    have hf1 := hb1.frozen 0
    gi_wp2
    --REGION
    have leaf : ∀ {w2 w4 : World} {A3 A4 : Option Addr} {n3 c3 c4 : Nat}, Kp W.drew w2 → Ru w2 (From W.drew.heap.size) A3 n3 c3 x → Own w4 (w.heap.size + 3) 23 1 A4 (pre.length + 1) c4 (vs1 ++ [.slice A3 n3 c3]) →
        (w2.alloc (.cells #[.slice A3 n3 c3] 23)).grownBy w4 (rowOf A1) → (rowOf A4 = rowOf A1 ∨ rowOf A4 = some (w2.alloc (.cells #[.slice A3 n3 c3] 23)).heap.size) →
        KeepsFrom w0.heap.size W (w4.setCell ⟨w.heap.size + 1, 0, none⟩ (.slice A4 (pre.length + 1) c4)) ∧ KpB w.heap.size (w.heap.size + 2) W (w4.setCell ⟨w.heap.size + 1, 0, none⟩ (.slice A4 (pre.length + 1) c4)) ∧ AllI w.heap.size w L ((pre ++ [(⟨i, hi⟩ : Fin n)]).map (fun x => x.1)) (w4.setCell ⟨w.heap.size + 1, 0, none⟩ (.slice A4 (pre.length + 1) c4)) :=
      fun hk3 hr3 hown4 hg4 hat4 => by
        obtain ⟨e1, e2, e3, e4, e5, e6⟩ := all_end (B := w0.heap.size) hbel hz ho1 hb1 hk3 hr3 hown4 hg4 hat4
        rw [HXE.out] at e4
        exact ⟨e1, e2, allI_mk e3 e4 e5 e6⟩
    refine wpIn_region_any hmx ?_
    change wpAnyIn _ _ _ _ _ _ _ _ _ (World.drew _)
    refine wpAnyIn_ready (rs := [0, 1]) (by kernel_rfl) (by simp) ?_
    refine AllReadyIn.cons rfl (fun K hK => ?_) ?_
    · go_simp
      refine hK _ _ ?_
      clear hK K
      refine wpAnyIn_ready (rs := [1]) (by kernel_rfl) (by simp) ?_
      refine AllReadyIn.cons rfl (fun K hK => ?_) ?_
      · go_simp
        refine hK _ _ ?_
        clear hK K
        refine wpAnyIn_ready (rs := [2]) (by kernel_rfl) (by simp) ?_
        refine AllReadyIn.cons rfl (fun K hK => ?_) ?_
        · go_simp
          gi_wp2_with (refine ⟨trivial, ?_⟩; gi_at_call 44; refine (CallsIn.inRound l (callsIn_wide.2 (clone32_any F B2 m2 d2 x _ (Sl.drew hr2') (by have := hr2.len; omega)))).mono ?_; rintro e w2 ⟨A3, n3, c3, rfl, hr3, hk3⟩; have hb3 := (Bx.drew hb1).kp hk3; have hp3 := hb3.cell 0; have hf3 := hb3.frozen 0; have hb3a := hb3.alloc (.cells #[.slice A3 n3 c3] 23); have hp3a := hb3a.cell 0; have hf3a := hb3a.frozen 0)
          refine wpAnyIn_ready (rs := [3]) (by kernel_rfl) (by simp) ?_
          refine AllReadyIn.cons rfl (fun K hK => ?_) ?_
          · go_simp
            refine hK _ _ ?_
            clear hK K
            refine wpAnyIn_ready (rs := [4]) (by kernel_rfl) (by simp) ?_
            refine AllReadyIn.cons rfl (fun K hK => ?_) ?_
            · refine stepIn_append_sl _ (by rfl) (.tmp 11) (.tmp 14) _ (by rfl) (w.heap.size + 3) 23 _ 1 24 Try.underlying22 infoRu rfl (by omega) A1 pre.length c1 vs1 (by rfl) ((ho1.kp ((Kp.refl W).drew.trans hk3)).1.alloc _) Any _ 1 1 [.slice A3 n3 c3] (by rfl) (Sl.new_ w2 #[.slice A3 n3 c3] _ 1 1 _ rfl trivial (by simp) (by omega)) (by simp [Value.oneCell']) (by simp only [maxLen]; omega) (by omega) (by have := hk3.size; simp at this; simp; omega) ?_
              intro A4 c4 w4 hown4 hg4 hat4
              have hb4 : Bx w4 (w.heap.size + 1) #[.slice A1 pre.length c1] 22 := (hb3.alloc _).grown hg4 fun e => by have := (ho1.1.lt _ e).1; omega
              have hp4 := hb4.cell 0
              have hf4 := hb4.frozen 0
              refine hK _ _ ?_
              clear hK K
              refine wpAnyIn_ready (rs := [5]) (by kernel_rfl) (by simp) ?_
              refine AllReadyIn.cons rfl (fun K hK => ?_) ?_
              · go_simp
                refine hK _ _ ?_
                clear hK K
                refine wpAnyIn_done (by kernel_rfl) ?_ _
                gi_wp2
                exact leaf hk3 hr3 hown4 hg4 hat4
              exact AllReadyIn.nil
            exact AllReadyIn.nil
          exact AllReadyIn.nil
        exact AllReadyIn.nil
      exact AllReadyIn.nil
    refine AllReadyIn.cons rfl (fun K hK => ?_) ?_
    · go_simp
      refine hK _ _ ?_
      clear hK K
      refine wpAnyIn_ready (rs := [0, 2]) (by kernel_rfl) (by simp) ?_
      refine AllReadyIn.cons rfl (fun K hK => ?_) ?_
      · go_simp
        refine hK _ _ ?_
        clear hK K
        refine wpAnyIn_ready (rs := [2]) (by kernel_rfl) (by simp) ?_
        refine AllReadyIn.cons rfl (fun K hK => ?_) ?_
        · go_simp
          gi_wp2_with (refine ⟨trivial, ?_⟩; gi_at_call 44; refine (CallsIn.inRound l (callsIn_wide.2 (clone32_any F B2 m2 d2 x _ (Sl.drew hr2') (by have := hr2.len; omega)))).mono ?_; rintro e w2 ⟨A3, n3, c3, rfl, hr3, hk3⟩; have hb3 := (Bx.drew hb1).kp hk3; have hp3 := hb3.cell 0; have hf3 := hb3.frozen 0; have hb3a := hb3.alloc (.cells #[.slice A3 n3 c3] 23); have hp3a := hb3a.cell 0; have hf3a := hb3a.frozen 0)
          refine wpAnyIn_ready (rs := [3]) (by kernel_rfl) (by simp) ?_
          refine AllReadyIn.cons rfl (fun K hK => ?_) ?_
          · go_simp
            refine hK _ _ ?_
            clear hK K
            refine wpAnyIn_ready (rs := [4]) (by kernel_rfl) (by simp) ?_
            refine AllReadyIn.cons rfl (fun K hK => ?_) ?_
            · refine stepIn_append_sl _ (by rfl) (.tmp 11) (.tmp 14) _ (by rfl) (w.heap.size + 3) 23 _ 1 24 Try.underlying22 infoRu rfl (by omega) A1 pre.length c1 vs1 (by rfl) ((ho1.kp ((Kp.refl W).drew.trans hk3)).1.alloc _) Any _ 1 1 [.slice A3 n3 c3] (by rfl) (Sl.new_ w2 #[.slice A3 n3 c3] _ 1 1 _ rfl trivial (by simp) (by omega)) (by simp [Value.oneCell']) (by simp only [maxLen]; omega) (by omega) (by have := hk3.size; simp at this; simp; omega) ?_
              intro A4 c4 w4 hown4 hg4 hat4
              have hb4 : Bx w4 (w.heap.size + 1) #[.slice A1 pre.length c1] 22 := (hb3.alloc _).grown hg4 fun e => by have := (ho1.1.lt _ e).1; omega
              have hp4 := hb4.cell 0
              have hf4 := hb4.frozen 0
              refine hK _ _ ?_
              clear hK K
              refine wpAnyIn_ready (rs := [5]) (by kernel_rfl) (by simp) ?_
              refine AllReadyIn.cons rfl (fun K hK => ?_) ?_
              · go_simp
                refine hK _ _ ?_
                clear hK K
                refine wpAnyIn_done (by kernel_rfl) ?_ _
                gi_wp2
                exact leaf hk3 hr3 hown4 hg4 hat4
              exact AllReadyIn.nil
            exact AllReadyIn.nil
          exact AllReadyIn.nil
        exact AllReadyIn.nil
      refine AllReadyIn.cons rfl (fun K hK => ?_) ?_
      · go_simp
        gi_wp2_with (refine ⟨trivial, ?_⟩; gi_at_call 44; refine (CallsIn.inRound l (callsIn_wide.2 (clone32_any F B2 m2 d2 x _ (Sl.drew hr2') (by have := hr2.len; omega)))).mono ?_; rintro e w2 ⟨A3, n3, c3, rfl, hr3, hk3⟩; have hb3 := (Bx.drew hb1).kp hk3; have hp3 := hb3.cell 0; have hf3 := hb3.frozen 0; have hb3a := hb3.alloc (.cells #[.slice A3 n3 c3] 23); have hp3a := hb3a.cell 0; have hf3a := hb3a.frozen 0)
        refine wpAnyIn_ready (rs := [0, 3]) (by kernel_rfl) (by simp) ?_
        refine AllReadyIn.cons rfl (fun K hK => ?_) ?_
        · go_simp
          refine hK _ _ ?_
          clear hK K
          refine wpAnyIn_ready (rs := [3]) (by kernel_rfl) (by simp) ?_
          refine AllReadyIn.cons rfl (fun K hK => ?_) ?_
          · go_simp
            refine hK _ _ ?_
            clear hK K
            refine wpAnyIn_ready (rs := [4]) (by kernel_rfl) (by simp) ?_
            refine AllReadyIn.cons rfl (fun K hK => ?_) ?_
            · refine stepIn_append_sl _ (by rfl) (.tmp 11) (.tmp 14) _ (by rfl) (w.heap.size + 3) 23 _ 1 24 Try.underlying22 infoRu rfl (by omega) A1 pre.length c1 vs1 (by rfl) ((ho1.kp ((Kp.refl W).drew.trans hk3)).1.alloc _) Any _ 1 1 [.slice A3 n3 c3] (by rfl) (Sl.new_ w2 #[.slice A3 n3 c3] _ 1 1 _ rfl trivial (by simp) (by omega)) (by simp [Value.oneCell']) (by simp only [maxLen]; omega) (by omega) (by have := hk3.size; simp at this; simp; omega) ?_
              intro A4 c4 w4 hown4 hg4 hat4
              have hb4 : Bx w4 (w.heap.size + 1) #[.slice A1 pre.length c1] 22 := (hb3.alloc _).grown hg4 fun e => by have := (ho1.1.lt _ e).1; omega
              have hp4 := hb4.cell 0
              have hf4 := hb4.frozen 0
              refine hK _ _ ?_
              clear hK K
              refine wpAnyIn_ready (rs := [5]) (by kernel_rfl) (by simp) ?_
              refine AllReadyIn.cons rfl (fun K hK => ?_) ?_
              · go_simp
                refine hK _ _ ?_
                clear hK K
                refine wpAnyIn_done (by kernel_rfl) ?_ _
                gi_wp2
                exact leaf hk3 hr3 hown4 hg4 hat4
              exact AllReadyIn.nil
            exact AllReadyIn.nil
          exact AllReadyIn.nil
        refine AllReadyIn.cons rfl (fun K hK => ?_) ?_
        · go_simp
          refine hK _ _ ?_
          clear hK K
          refine wpAnyIn_ready (rs := [0]) (by kernel_rfl) (by simp) ?_
          refine AllReadyIn.cons rfl (fun K hK => ?_) ?_
          · go_simp
            refine hK _ _ ?_
            clear hK K
            refine wpAnyIn_ready (rs := [4]) (by kernel_rfl) (by simp) ?_
            refine AllReadyIn.cons rfl (fun K hK => ?_) ?_
            · refine stepIn_append_sl _ (by rfl) (.tmp 11) (.tmp 14) _ (by rfl) (w.heap.size + 3) 23 _ 1 24 Try.underlying22 infoRu rfl (by omega) A1 pre.length c1 vs1 (by rfl) ((ho1.kp ((Kp.refl W).drew.trans hk3)).1.alloc _) Any _ 1 1 [.slice A3 n3 c3] (by rfl) (Sl.new_ w2 #[.slice A3 n3 c3] _ 1 1 _ rfl trivial (by simp) (by omega)) (by simp [Value.oneCell']) (by simp only [maxLen]; omega) (by omega) (by have := hk3.size; simp at this; simp; omega) ?_
              intro A4 c4 w4 hown4 hg4 hat4
              have hb4 : Bx w4 (w.heap.size + 1) #[.slice A1 pre.length c1] 22 := (hb3.alloc _).grown hg4 fun e => by have := (ho1.1.lt _ e).1; omega
              have hp4 := hb4.cell 0
              have hf4 := hb4.frozen 0
              refine hK _ _ ?_
              clear hK K
              refine wpAnyIn_ready (rs := [5]) (by kernel_rfl) (by simp) ?_
              refine AllReadyIn.cons rfl (fun K hK => ?_) ?_
              · go_simp
                refine hK _ _ ?_
                clear hK K
                refine wpAnyIn_done (by kernel_rfl) ?_ _
                gi_wp2
                exact leaf hk3 hr3 hown4 hg4 hat4
              exact AllReadyIn.nil
            exact AllReadyIn.nil
          exact AllReadyIn.nil
        exact AllReadyIn.nil
      exact AllReadyIn.nil
    exact AllReadyIn.nil
  case done =>
    rintro D ys W hD hys ⟨⟨A1, c1, vs1, hb1, ho1⟩, hbel, hz⟩ hK
    have hp1 := hb1.cell 0
    have hf1 := hb1.frozen 0
    gi_wp2
    refine ⟨by simp, .inl ⟨_, _, rfl, run_takeDeferred hK, ?_⟩⟩
    refine ⟨_, results_tmp rfl _ _ _, A1, _, c1, rfl, ?_, hbel.trans (belowK_b (w := w) (Nat.le_refl _) W D _ _ (by omega) hK rfl rfl)⟩
    have h1 := ho1.cells_kept (grownBy_putObj' W D (.deferred none)) (fun r e => by cases e; exact ⟨_, hK, rfl⟩)
    have h2 : (downs n 0).map (fun i => L[i]?.getD []) = L.reverse := by
      rw [← HLEN.out]; exact downs_map L
    rw [hys, h2] at h1
    exact h1.txs.weak (fun k _ h => by unfold From at *; omega) (fun k _ h => by unfold From at *; omega)
  case stop =>
    rintro D c pre W hD _ h _
    exact h.elim
end Go.Proofs.Ytcbachblhfkcoaa
