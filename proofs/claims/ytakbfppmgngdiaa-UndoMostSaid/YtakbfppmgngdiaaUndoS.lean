/-
  typebarref19.Add, in the newest group. Conditions: the groups and the edit can be read; not more than 1000 groups, none with more than 10^6 edits.
-/
import Derived.Test.YtakbfppmgngdiaaUndoR
namespace Go.Proofs.Ytakbfppmgngdiaa
open Go.RowKit

/-- The last thing of a row is turned, both cells. -/
theorem row_last2 {css : List (List Value)} {cur : Array Value} {n1 : Nat} {x y v u : Value} (hl : css.length = n1) (h2 : ∀ c ∈ css, c.length = 2) (hc : cur.toList.take ((n1 + 1) * 2) = (css ++ [[x, y]]).flatten) :
    ((cur.setIfInBounds (n1 * 2) v).setIfInBounds (n1 * 2 + 1) u).toList.take ((n1 + 1) * 2) = (css ++ [[v, u]]).flatten := by
  have h3 := row_last (v := v) hl h2 hc
  have hf := flat_len h2
  rw [hl] at hf
  rw [Array.toList_setIfInBounds, List.take_set, h3]
  rw [List.flatten_append, List.flatten_append]
  have e : css.flatten.length = n1 * 2 := hf
  rw [List.set_append_right _ _ (by omega), e]
  simp

set_option maxRecDepth 100000 in
set_option maxHeartbeats 3200000 in
theorem ref_add_join (A B C : Option Addr) (n c m d p q : Nat) (gs : List Grp) (ed : Ed) (cur : Int) (w : World) (h : Grps w A n c gs) (hB : Ru w Any B m d ed.old) (hC : Ru w Any C p q ed.new)
    (hn : n ≤ 1000) (hn0 : 0 < n) (hes : ∀ g ∈ gs, g.es.length ≤ 1000000) :
    Calls Try.prog 28 #[.slice A n c, .agg #[.int .i64 ed.at_, .slice B m d, .slice C p q], .int .i64 cur, .bool true] w (RetRAdd (addM gs ed cur true) w) := by
  have hle := h.le
  have hcap := h.cap
  unfold maxLen at hcap
  obtain ⟨n1, hn1⟩ : ∃ n1, n = n1 + 1 := ⟨n - 1, by omega⟩
  obtain ⟨g, hg, hgl, hgs, hgd⟩ := last_split (gs := gs) (n := n1) (by rw [h.len, hn1])
  rw [addM_join ed cur hgl]
  have hem := hes g (List.mem_of_getElem? hg)
  obtain ⟨gd, hgd'⟩ : ∃ gd, gd = gs.dropLast := ⟨_, rfl⟩
  rw [← hgd'] at hgs hgd ⊢
  subst hgs
  clear hg hgl hgd' hes
  obtain ⟨css, hS, hR, hlen⟩ := h
  have H1 := Lib.hid (Lst.one GrpV.one hR)
  obtain ⟨cs0, cs1, rfl, hR0, hR1⟩ : ∃ cs0 cs1, css = cs0 ++ [cs1] ∧ RelL (GrpV w) gd cs0 ∧ GrpV w g cs1 := hR.snoc
  obtain ⟨B1, m1, d1, rfl, hE⟩ := hR1
  have hml := hE.len
  have hmle := hE.le
  have hmcap := hE.cap
  unfold maxLen at hmcap
  obtain ⟨ess, hS1, hR1, _⟩ := hE
  have HE1 := Lib.hid (Lst.one EdV.one hR1)
  have HR0 := Lib.hid hR0
  have HR1 := Lib.hid hR1
  have HM := Lib.hid hml
  have hm1 : m1 ≤ 1000000 := by omega
  have HGD := Lib.hid hgd
  have HN1 := Lib.hid hn1
  have e1 : (n : Int) - 1 = (n1 : Int) := by omega
  have hn2 : n1 < n := by omega
  have hnp : (0 : Int) < (n : Int) := by omega
  clear hlen hR hR0 hR1 hml hem hgd hn1
  go_enter Try.func28, Try.ntmps28
  go_upto_region 2 with fail
  have ka := (Kp.refl w).alloc (.cells #[.int .i64 ed.at_, .slice B m d, .slice C p q] 51)
  have b1 := Bx.new w #[.int .i64 ed.at_, .slice B m d, .slice C p q] 51
  have hS2 := hS.kp ka
  have hz2 : (w.alloc (.cells #[.int .i64 ed.at_, .slice B m d, .slice C p q] 51)).heap.size = w.heap.size + 1 := by simp
  clear hS
  generalize (w.alloc (.cells #[.int .i64 ed.at_, .slice B m d, .slice C p q] 51)) = w2 at *
  go_upto_region 3 with (at_builtin; refine wpList_append_sl _ rfl _ _ _ rfl (w.heap.size + 1) 69 _ 2 32 Try.underlying48 infoGrpR rfl (by omega) none 0 0 [] rfl (Own.nil _ _ _ _) Any A n c (cs0 ++ [[Value.slice B1 m1 d1, Value.int .i64 g.cur]]).flatten rfl hS2 H1.out (by simp only [maxLen]; omega) (by omega) (by omega) ?_; intro A3 c3 w3 hown hg3 hat3)
  rw [List.nil_append, Nat.zero_add] at hown
  have k3 := ka.grown hg3 (by simp [rowOf])
  have b1' := b1.grown hg3 (by simp [rowOf])
  have hz3 : w.heap.size + 1 ≤ w3.heap.size := by have := hg3.size; omega
  obtain ⟨gr, cur3, rfl, hgr, bA, hnc3, hc3, hsz3, htk3⟩ := hown.row hn0
  have hgl := bA.lt
  have hS1' := hS1.kp k3
  unfold maxLen at hc3
  clear ka b1 hS2 hg3 hat3 hz2 hown hS1
  have hN2 : n * 2 ≤ cur3.size := by rw [hsz3]; omega
  have a0 : w3.cell? ⟨gr, n1 * 2, none⟩ = some (.slice B1 m1 d1) := by
    rw [bA.cell]
    exact row_at (by rw [HR0.out.len, HGD.out]) (HR0.out.all GrpV.len) (by rw [← HN1.out]; exact htk3)
  have a1 : w3.cell? ⟨gr, n1 * 2 + 1, none⟩ = some (.int .i64 g.cur) := by
    rw [bA.cell]
    exact row_at1 (by rw [HR0.out.len, HGD.out]) (HR0.out.all GrpV.len) (by rw [← HN1.out]; exact htk3)
  have HTK := Lib.hid htk3
  clear htk3
  go_upto_region 5 with fail
  have ka := (Kp.refl w3).alloc (.cells #[.slice none 0 0, .int .i64 g.cur] 69)
  have bG := Bx.new w3 #[.slice none 0 0, .int .i64 g.cur] 69
  have k5 := k3.trans ka
  have b15 := b1'.kp ka
  have bA5 := bA.kp ka
  have a0' := cell_kp ka a0
  have hS5 := hS1'.kp ka
  have hz5 : (w3.alloc (.cells #[.slice none 0 0, .int .i64 g.cur] 69)).heap.size = w3.heap.size + 1 := by simp
  clear k3 b1' bA a0 a1 hS1' ka
  generalize (w3.alloc (.cells #[.slice none 0 0, .int .i64 g.cur] 69)) = w5 at *
  generalize w3.heap.size = gb at *
  obtain ⟨g0, g1, g2, g3⟩ := bG.two
  have hwr : IntKind.i64.wrap (n1 : Int) = (n1 : Int) := IntWalk.i64_in _ (by omega)
  go_region_law (refine step_append_sl _ (by rfl) _ _ _ (by rfl) (gb + 1) 51 _ 3 56 Try.underlying67 infoEdR rfl (by omega) none 0 0 [] (by rfl) (Own.nil _ _ _ _) Any B1 m1 d1 ess.flatten (by rfl) hS5.drew HE1.out (by simp only [maxLen]; omega) (by omega) (by simp; omega) ?_; intro E6 c6 w6 hown6 hg6 hat6; have bG6 := (Bx.drew bG).grown hg6 (by simp [rowOf]); obtain ⟨z0, z1, z2, z3⟩ := bG6.two)
  all_goals
    rw [List.nil_append, Nat.zero_add] at hown6
    have k6 := (k5.drew.grown hg6 (by simp [rowOf])).setCell (p := ⟨gb, 0, none⟩) (by show w.heap.size ≤ gb; omega) (.slice E6 m1 c6)
    have bA6 := ((Bx.drew bA5).grown hg6 (by simp [rowOf])).far (p := ⟨gb, 0, none⟩) (by show gr ≠ gb; omega) (.slice E6 m1 c6)
    have b16 := ((Bx.drew b15).grown hg6 (by simp [rowOf])).far (p := ⟨gb, 0, none⟩) (by show w.heap.size ≠ gb; omega) (.slice E6 m1 c6)
    have bG7 := bG6.set 0 (.slice E6 m1 c6)
    have o7 := hown6.setCell (p := ⟨gb, 0, none⟩) (fun e => by have := (hown6.lt gb e).1; omega) (.slice E6 m1 c6)
    have hz6 : gb + 1 ≤ (w6.setCell ⟨gb, 0, none⟩ (.slice E6 m1 c6)).heap.size := by have := hg6.size; simp [World.setCell] at this ⊢; omega
    clear k5 bA5 b15 bG6 hown6 hg6 hat6 g0 g1 g2 g3 z0 z1 z2 z3 a0' hS5 bG hz5
    generalize (w6.setCell ⟨gb, 0, none⟩ (.slice E6 m1 c6)) = w7 at *
    obtain ⟨g0, g1, g2, g3⟩ := Bx.two bG7
    obtain ⟨e0, e1', e2, e3, e4, e5⟩ := b16.three
    go_upto_region 7 with (at_builtin; refine wpList_append_sl _ rfl _ _ _ rfl (gb + 1) 51 _ 3 56 Try.underlying67 infoEdR rfl (by omega) E6 m1 c6 ess.flatten rfl (o7.alloc _) Any _ 1 1 [.int .i64 ed.at_, .slice B m d, .slice C p q] rfl (Sl.new_ w7 #[.int .i64 ed.at_, .slice B m d, .slice C p q] _ 3 1 _ rfl trivial (by simp) (by omega)) (by simp [Value.oneCell']) (by simp only [maxLen]; omega) (by omega) (by simp; omega) ?_; intro E8 c8 w8 hown8 hg8 hat8; have hrow : ∀ g, rowOf E6 = some g → gb + 1 ≤ g := fun g h => (o7.lt g h).1; have bG8 := (Bx.alloc bG7 _).grown hg8 (fun h => by have := hrow _ h; omega); obtain ⟨z0, z1, z2, z3⟩ := Bx.two bG8)
    have k8 := ((k6.alloc (.cells #[.int .i64 ed.at_, .slice B m d, .slice C p q] 51)).grown hg8 (fun g h => by have := hrow g h; omega)).setCell (p := ⟨gb, 0, none⟩) (by show w.heap.size ≤ gb; omega) (.slice E8 (m1 + 1) c8)
    have bA8 := ((Bx.alloc bA6 (.cells #[.int .i64 ed.at_, .slice B m d, .slice C p q] 51)).grown hg8 (fun h => by have := hrow _ h; omega)).far (p := ⟨gb, 0, none⟩) (by show gr ≠ gb; omega) (.slice E8 (m1 + 1) c8)
    have bG9 := bG8.set 0 (.slice E8 (m1 + 1) c8)
    have o9 := hown8.setCell (p := ⟨gb, 0, none⟩) (fun e => by have := (hown8.lt gb e).1; omega) (.slice E8 (m1 + 1) c8)
    clear k6 bA6 b16 bG8 bG7 o7 hown8 hg8 hat8 g0 g1 g2 g3 z0 z1 z2 z3 e0 e1' e2 e3 e4 e5 hrow hz6
    generalize (w8.setCell ⟨gb, 0, none⟩ (.slice E8 (m1 + 1) c8)) = w9 at *
    obtain ⟨g0, g1, g2, g3⟩ := Bx.two bG9
    have a0 : w9.cell? ⟨gr, n1 * 2, none⟩ = some (.slice B1 m1 d1) := by
      rw [bA8.cell]
      exact row_at (by rw [HR0.out.len, HGD.out]) (HR0.out.all GrpV.len) (by rw [← HN1.out]; exact HTK.out)
    have a1 : w9.cell? ⟨gr, n1 * 2 + 1, none⟩ = some (.int .i64 g.cur) := by
      rw [bA8.cell]
      exact row_at1 (by rw [HR0.out.len, HGD.out]) (HR0.out.all GrpV.len) (by rw [← HN1.out]; exact HTK.out)
    have a2 := bA8.frozen (n1 * 2)
    have a3 := bA8.frozen (n1 * 2 + 1)
    go_wp2
    go_ret
    have bA10 := (bA8.set (n1 * 2) (.slice E8 (m1 + 1) c8)).set (n1 * 2 + 1) (.int .i64 g.cur)
    have k10 := (k8.setCell (p := ⟨gr, n1 * 2, none⟩) (by show w.heap.size ≤ gr; omega) (.slice E8 (m1 + 1) c8)).setCell (p := ⟨gr, n1 * 2 + 1, none⟩) (by show w.heap.size ≤ gr; omega) (.int .i64 g.cur)
    have o10 := ((o9.setCell (p := ⟨gr, n1 * 2, none⟩) (fun e => by have := (o9.lt gr e).1; omega) (.slice E8 (m1 + 1) c8)).setCell (p := ⟨gr, n1 * 2 + 1, none⟩) (fun e => by have := (o9.lt gr e).1; omega) (.int .i64 g.cur)).sl.any
    have hrl := row_last2 (v := .slice E8 (m1 + 1) c8) (u := .int .i64 g.cur) (by rw [HR0.out.len, HGD.out]) (HR0.out.all GrpV.len) (by rw [← HN1.out]; exact HTK.out)
    rw [← HN1.out] at hrl
    have hs10 := Sl.of_row bA10 2 n c3 hnc3 (by unfold maxLen; omega) (by simp; omega)
    rw [hrl] at hs10
    refine ⟨_, _, _, rfl, ⟨_, hs10, (HR0.out.mono (GrpV.kp k10)).app (RelL.one ⟨E8, m1 + 1, c8, rfl, ⟨ess ++ [[.int .i64 ed.at_, .slice B m d, .slice C p q]], ?_, (HR1.out.mono (EdV.kp k10)).app (RelL.one ⟨B, m, d, C, p, q, rfl, hB.kp k10, hC.kp k10⟩), by simp [HM.out]⟩⟩), by simp [HGD.out, HN1.out]⟩, k10⟩
    rw [List.flatten_append]
    simpa using o10
end Go.Proofs.Ytakbfppmgngdiaa
