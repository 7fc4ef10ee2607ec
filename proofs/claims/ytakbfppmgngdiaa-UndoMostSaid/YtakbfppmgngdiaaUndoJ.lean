/-
  package undo: Add, in the newest group. Conditions: the groups and the edit can be read; not more than 2000 groups, none with more than 10^6 edits.
-/
import Derived.Test.YtakbfppmgngdiaaUndoA
namespace Go.Proofs.Ytakbfppmgngdiaa
open Go.RowKit

theorem Own.row {w : World} {base : Nat} {e : TypeId} {size n c : Nat} {A : Option Addr} {vs : List Value} (h : Own w base e size A n c vs) (hn : 0 < n) :
    ∃ g cur, A = some ⟨g, 0, none⟩ ∧ base ≤ g ∧ Bx w g cur e ∧ n ≤ c ∧ c ≤ maxLen ∧ cur.size = c * size ∧ cur.toList.take (n * size) = vs := by
  rcases h.2 with ⟨_, h0⟩ | ⟨g, cap, cur, hv, h1, h2, h3, h4, h5, h6⟩
  · omega
  · cases hv
    exact ⟨g, cur, rfl, h1, h2, h3, h4, h5, h6⟩
theorem Sl.of_row {w : World} {g : Nat} {cur : Array Value} {t : TypeId} (h : Bx w g cur t) (k n c : Nat) (hn : n ≤ c) (hc : c ≤ maxLen) (hs : n * k ≤ cur.size) : Sl w Any k (some ⟨g, 0, none⟩) n c (cur.toList.take (n * k)) :=
  ⟨hn, hc, by simp; omega, fun _ => ⟨⟨g, 0, none⟩, rfl, trivial, h.lt, fun j u hu => by
    have e : (⟨g, 0, none⟩ : Addr).add j = ⟨g, j, none⟩ := by unfold Addr.add; split <;> simp_all
    rw [e, h.cell j]
    have hj : j < n * k := by have := (List.getElem?_eq_some_iff.1 hu).1; simp at this; omega
    rw [List.getElem?_take_of_lt hj] at hu
    simpa using hu⟩⟩
/-- The last thing of a row is turned. -/
theorem row_last {css : List (List Value)} {cur : Array Value} {n1 : Nat} {x y v : Value} (hl : css.length = n1) (h2 : ∀ c ∈ css, c.length = 2) (hc : cur.toList.take ((n1 + 1) * 2) = (css ++ [[x, y]]).flatten) :
    (cur.setIfInBounds (n1 * 2) v).toList.take ((n1 + 1) * 2) = (css ++ [[v, y]]).flatten := by
  have hf := flat_len h2
  rw [hl] at hf
  rw [Array.toList_setIfInBounds, List.take_set, hc]
  rw [List.flatten_append, List.flatten_append]
  have e : css.flatten.length = n1 * 2 := hf
  rw [List.set_append_right _ _ (by omega), e]
  simp

theorem row_at {css : List (List Value)} {cur : Array Value} {n1 : Nat} {x y : Value} (hl : css.length = n1) (h2 : ∀ c ∈ css, c.length = 2) (hc : cur.toList.take ((n1 + 1) * 2) = (css ++ [[x, y]]).flatten) : cur[n1 * 2]? = some x := by
  have hf := flat_len h2
  rw [hl] at hf
  have h3 : (cur.toList.take ((n1 + 1) * 2))[n1 * 2]? = some x := by
    rw [hc, List.flatten_append, List.getElem?_append_right (by omega), hf]; simp
  rw [List.getElem?_take_of_lt (by omega)] at h3
  simpa using h3

theorem row_at1 {css : List (List Value)} {cur : Array Value} {n1 : Nat} {x y : Value} (hl : css.length = n1) (h2 : ∀ c ∈ css, c.length = 2) (hc : cur.toList.take ((n1 + 1) * 2) = (css ++ [[x, y]]).flatten) : cur[n1 * 2 + 1]? = some y := by
  have hf := flat_len h2
  rw [hl] at hf
  have h3 : (cur.toList.take ((n1 + 1) * 2))[n1 * 2 + 1]? = some y := by
    rw [hc, List.flatten_append, List.getElem?_append_right (by omega), hf]; simp
  rw [List.getElem?_take_of_lt (by omega)] at h3
  simpa using h3

set_option maxRecDepth 100000 in
set_option maxHeartbeats 3200000 in
theorem undo_add_join (A B C : Option Addr) (n c m d p q : Nat) (gs : List Grp) (ed : Ed) (cur : Int) (w : World) (h : Grps w A n c gs) (hB : Ru w Any B m d ed.old) (hC : Ru w Any C p q ed.new)
    (hn : n ≤ 2000) (hn0 : 0 < n) (hes : ∀ g ∈ gs, g.es.length ≤ 1000000) :
    Calls Try.prog 26 #[.agg #[.slice A n c], .agg #[.int .i64 ed.at_, .slice B m d, .slice C p q], .int .i64 cur, .bool true] w (RetAdd (addM gs ed cur true) w) := by
  have hle := h.le
  have hcap := h.cap
  unfold maxLen at hcap
  obtain ⟨n1, hn1⟩ : ∃ n1, n = n1 + 1 := ⟨n - 1, by omega⟩
  obtain ⟨g, hg, hgl, hgs, hgd⟩ := last_split (gs := gs) (n := n1) (by rw [h.len, hn1])
  rw [addM_join ed cur hgl]
  have hem := hes g (List.mem_of_getElem? hg)
  obtain ⟨gd, hgd'⟩ : ∃ gd, gd = gs.dropLast := ⟨_, rfl⟩
  rw [← hgd'] at hgs hgd ⊢
  subst hgs
  clear hg hgl hgd' hes
  obtain ⟨css, hS, hR, hlen⟩ := h
  have H1 := Lib.hid (Lst.one GrpV.one hR)
  obtain ⟨cs0, cs1, rfl, hR0, hR1⟩ : ∃ cs0 cs1, css = cs0 ++ [cs1] ∧ RelL (GrpV w) gd cs0 ∧ GrpV w g cs1 := hR.snoc
  obtain ⟨B1, m1, d1, rfl, hE⟩ := hR1
  have hml := hE.len
  obtain ⟨ess, hS1, hR1, _⟩ := hE
  have HE1 := Lib.hid (Lst.one EdV.one hR1)
  have HR0 := Lib.hid hR0
  have HR1 := Lib.hid hR1
  have HM := Lib.hid hml
  have hm1 : m1 ≤ 1000000 := by omega
  have HGD := Lib.hid hgd
  have HN1 := Lib.hid hn1
  have e1 : (n : Int) - 1 = (n1 : Int) := by omega
  have hn2 : n1 < n := by omega
  clear hlen hR hR0 hR1 hml hem hgd hn1
  go_enter Try.func26, Try.ntmps26
  go_upto_region 1 with fail
  have ka := (((Kp.refl w).alloc (.cells #[.slice A n c] 47)).alloc (.cells #[.int .i64 ed.at_, .slice B m d, .slice C p q] 56)).alloc (.cells #[.slice none 0 0] 47)
  have b0 := ((Bx.new w #[.slice A n c] 47).alloc (.cells #[.int .i64 ed.at_, .slice B m d, .slice C p q] 56)).alloc (.cells #[.slice none 0 0] 47)
  have b1 := (Bx.new (w.alloc (.cells #[.slice A n c] 47)) #[.int .i64 ed.at_, .slice B m d, .slice C p q] 56).alloc (.cells #[.slice none 0 0] 47)
  have b2 := Bx.new ((w.alloc (.cells #[.slice A n c] 47)).alloc (.cells #[.int .i64 ed.at_, .slice B m d, .slice C p q] 56)) #[.slice none 0 0] 47
  rw [World.size_alloc] at b1 b2
  rw [World.size_alloc] at b2
  have hS2 := hS.kp ka
  have hz2 : (((w.alloc (.cells #[.slice A n c] 47)).alloc (.cells #[.int .i64 ed.at_, .slice B m d, .slice C p q] 56)).alloc (.cells #[.slice none 0 0] 47)).heap.size = w.heap.size + 3 := by simp
  clear hS
  generalize (((w.alloc (.cells #[.slice A n c] 47)).alloc (.cells #[.int .i64 ed.at_, .slice B m d, .slice C p q] 56)).alloc (.cells #[.slice none 0 0] 47)) = w2 at *
  obtain ⟨b00, b01⟩ := b0.one
  go_wp2_with fail
  refine (cloneGrp_sl Any A n c (cs0 ++ [[Value.slice B1 m1 d1, Value.int .i64 g.cur]]).flatten w2 hS2 H1.out (by omega)).mono ?_
  rintro e w3 ⟨A3, c3, rfl, hown, k3⟩
  have b1' := b1.kp k3
  have b2' := b2.kp k3
  have kk := ka.trans k3
  have hz3 : w.heap.size + 3 ≤ w3.heap.size := by have := k3.size; omega
  rw [hz2] at hown
  obtain ⟨gr, cur3, rfl, hgr, bA, hnc3, hc3, hsz3, htk3⟩ := hown.row hn0
  have hgl := bA.lt
  have hS1' := hS1.kp kk
  unfold maxLen at hc3
  clear b0 b1 b2 b00 b01 hS2 k3 ka hz2 hS1 hown
  obtain ⟨e0, e1', e2, e3, e4, e5⟩ := b1'.three
  have hN2 : n * 2 ≤ cur3.size := by rw [hsz3]; omega
  have a0 : w3.cell? ⟨gr, n1 * 2, none⟩ = some (.slice B1 m1 d1) := by
    rw [bA.cell]
    exact row_at (by rw [HR0.out.len, HGD.out]) (HR0.out.all GrpV.len) (by rw [← HN1.out]; exact htk3)
  have HTK := Lib.hid htk3
  clear htk3
  have af := bA.frozen (n1 * 2)
  go_upto_region 4 with fail
  have a0' : ∀ o : Obj, (w3.drew.alloc o).cell? ⟨gr, n1 * 2, none⟩ = some (.slice B1 m1 d1) := fun o => cell_kp ((Kp.refl w3).drew.alloc o) a0
  clear b1'
  go_region_law (first
    | (refine step_append_sl _ (by rfl) _ _ _ (by rfl) w3.heap.size 56 _ 3 56 Try.underlying60 infoEd rfl (by omega) E4 m1 d4 ess.flatten (by rfl) (by first | exact ho4 | exact ho4.alloc _) Any _ 1 1 [.int .i64 ed.at_, .slice B m d, .slice C p q] (by rfl) (by first | exact Sl.new_ w4 #[.int .i64 ed.at_, .slice B m d, .slice C p q] _ 3 1 _ rfl trivial (by simp) (by omega) | exact Sl.of_bx bF 3 1 rfl (by omega)) (by simp [Value.oneCell']) (by simp only [maxLen]; omega) (by omega) (by have := kd.size; first | exact this | (simp; omega)) ?_; intro E5 c5 w5 hown5 hg5 hat5; have hrE : ∀ g, rowOf E4 = some g → w3.heap.size ≤ g := fun g h => (ho4.lt g h).1; have k5 : Kp w w5 := (by first | exact Kp.grown (kk.trans kd) hg5 (fun g h => by have := hrE g h; omega) | exact Kp.grown ((kk.trans kd).alloc _) hg5 (fun g h => by have := hrE g h; omega)); have bA5 : Bx w5 gr cur3 62 := (by first | exact (bA.kp kd).grown hg5 (fun h => by have := hrE _ h; omega) | exact ((bA.kp kd).alloc _).grown hg5 (fun h => by have := hrE _ h; omega)); have bR5 : Bx w5 (w.heap.size + 1 + 1) #[.slice none 0 0] 47 := (by first | exact (b2'.kp kd).grown hg5 (fun h => by have := hrE _ h; omega) | exact ((b2'.kp kd).alloc _).grown hg5 (fun h => by have := hrE _ h; omega)); have z0 : w5.cell? ⟨gr, n1 * 2, none⟩ = some (.slice B1 m1 d1) := (by rw [bA5.cell, ← bA.cell]; exact a0); have z1 := bA5.frozen (n1 * 2))
    | (go_simp; refine (cloneEd_sl Any B1 m1 d1 ess.flatten _ (by first | exact hS1'.drew | exact (hS1'.drew).alloc _) HE1.out (by omega)).mono ?_; rintro e w4 ⟨E4, d4, rfl, hown, hk4⟩; have kd : Kp w3 w4 := (by first | exact ((Kp.refl w3).drew).trans hk4 | exact (((Kp.refl w3).drew).alloc _).trans hk4); have q0 := cell_kp kd e0; have q1 := cell_kp kd e1'; have q2 := cell_kp kd e2; have ho4 : Own w4 w3.heap.size 56 3 E4 m1 d4 ess.flatten := hown.more (by simp); (first | (have bF : Bx w4 w3.heap.size #[.int .i64 ed.at_, .slice B m d, .slice C p q] 56 := (Bx.new w3.drew _ _).kp hk4) | skip)))
  all_goals
    have bA6 := bA5.set (n1 * 2) (.slice E5 (m1 + 1) c5)
    have k6 := k5.setCell (p := ⟨gr, n1 * 2, none⟩) (by show w.heap.size ≤ gr; omega) (.slice E5 (m1 + 1) c5)
    have o6 := hown5.setCell (p := ⟨gr, n1 * 2, none⟩) (fun e => by have := (hown5.lt gr e).1; omega) (.slice E5 (m1 + 1) c5)
    have bR6 := bR5.far (p := ⟨gr, n1 * 2, none⟩) (by show w.heap.size + 1 + 1 ≠ gr; omega) (.slice E5 (m1 + 1) c5)
    clear a0 a0' af z0 z1 bA5 k5 hown5 bR5 kd ho4 hk4 hown q0 q1 q2 bA b2' hS1' hg5 hat5 e0 e1' e2 e3 e4 e5 hrE
    generalize (w5.setCell ⟨gr, n1 * 2, none⟩ (.slice E5 (m1 + 1) c5)) = w6 at *
    obtain ⟨r0, r1⟩ := bR6.one
    go_wp2
    refine bodyPost_ret (v := .agg #[.slice (some ⟨gr, 0, none⟩) n c3]) (by simp [results, Try.results26, go_sem, r0]) rfl ?_
    have bA7 := bA6.far (p := ⟨w.heap.size + 1 + 1, 0, none⟩) (by show gr ≠ w.heap.size + 1 + 1; omega) (.slice (some ⟨gr, 0, none⟩) n c3)
    have k7 := k6.setCell (p := ⟨w.heap.size + 1 + 1, 0, none⟩) (by show w.heap.size ≤ w.heap.size + 1 + 1; omega) (.slice (some ⟨gr, 0, none⟩) n c3)
    have o7 := (o6.setCell (p := ⟨w.heap.size + 1 + 1, 0, none⟩) (fun e => by have := (o6.lt (w.heap.size + 1 + 1) e).1; omega) (.slice (some ⟨gr, 0, none⟩) n c3)).sl.any
    have hrl := row_last (v := .slice E5 (m1 + 1) c5) (by rw [HR0.out.len, HGD.out]) (HR0.out.all GrpV.len) (by rw [← HN1.out]; exact HTK.out)
    rw [← HN1.out] at hrl
    have hs7 := Sl.of_row bA7 2 n c3 hnc3 (by unfold maxLen; omega) (by simp; omega)
    rw [hrl] at hs7
    refine ⟨_, _, _, rfl, ⟨_, hs7, (HR0.out.mono (GrpV.kp k7)).app (RelL.one ⟨E5, m1 + 1, c5, rfl, ⟨ess ++ [[.int .i64 ed.at_, .slice B m d, .slice C p q]], ?_, (HR1.out.mono (EdV.kp k7)).app (RelL.one ⟨B, m, d, C, p, q, rfl, hB.kp k7, hC.kp k7⟩), by simp [HM.out]⟩⟩), by simp [HGD.out, HN1.out]⟩, k7⟩
    rw [List.flatten_append]
    simpa using o7
end Go.Proofs.Ytakbfppmgngdiaa
