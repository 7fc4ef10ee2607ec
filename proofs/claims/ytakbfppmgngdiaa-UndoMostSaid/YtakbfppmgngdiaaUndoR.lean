/-
  typebarref19.Add: an edit, to groups. Conditions: the groups and the edit can be read; not more than 1000 groups, none with more than 10^6 edits.
-/
import Derived.Test.YtakbfppmgngdiaaUndoJ
namespace Go.Proofs.Ytakbfppmgngdiaa
open Go.RowKit

theorem infoGrpR : (Try.prog.info? 69).map (fun i => (i.zero, i.size, i.bytes)) = some (some (.agg #[.slice none 0 0, .int .i64 0]), 2, 32) := by kernel_rfl
theorem infoEdR : (Try.prog.info? 51).map (fun i => (i.zero, i.size, i.bytes)) = some (some (.agg #[.int .i64 0, .slice none 0 0, .slice none 0 0]), 3, 56) := by kernel_rfl
def RetRAdd (gs : List Grp) (w : World) (e : Ending) (w' : World) : Prop := ∃ A n c, e = .returned (.slice A n c) ∧ Grps w' A n c gs ∧ Kp w w'

set_option maxRecDepth 100000 in
set_option maxHeartbeats 3200000 in
theorem ref_add_own (A B C : Option Addr) (n c m d p q : Nat) (gs : List Grp) (ed : Ed) (cur : Int) (join : Bool) (w : World) (h : Grps w A n c gs) (hB : Ru w Any B m d ed.old) (hC : Ru w Any C p q ed.new)
    (hn : n ≤ 1000) (hj : join = false ∨ n = 0) :
    Calls Try.prog 28 #[.slice A n c, .agg #[.int .i64 ed.at_, .slice B m d, .slice C p q], .int .i64 cur, .bool join] w (RetRAdd (addM gs ed cur join) w) := by
  have hle := h.le
  have hcap := h.cap
  unfold maxLen at hcap
  obtain ⟨k, hk⟩ : ∃ k, k = n + 1 - 1000 := ⟨_, rfl⟩
  rw [addM_own (gs := gs) ed cur join (by rcases hj with h1 | h1; exact .inl h1; exact .inr (List.eq_nil_of_length_eq_zero (by rw [h.len, h1]))), h.len, ← hk]
  have HK := Lib.hid hk
  clear hk
  obtain ⟨css, hS, hR, hlen⟩ := h
  have HL := Lib.hid hlen
  have H1 := Lib.hid (Lst.one GrpV.one hR)
  have HR := Lib.hid hR
  have hj' : join = false ∨ (join = true ∧ decide (0 < (n : Int)) = false ∧ ¬ (0 < (n : Int))) := by
    rcases hj with h1 | h1
    · exact .inl h1
    · cases join
      · exact .inl rfl
      · exact .inr ⟨rfl, by simp; omega, by omega⟩
  clear hj hlen hR
  go_enter Try.func28, Try.ntmps28
  go_upto_region 2 with fail
  have ka := (Kp.refl w).alloc (.cells #[.int .i64 ed.at_, .slice B m d, .slice C p q] 51)
  have b1 := Bx.new w #[.int .i64 ed.at_, .slice B m d, .slice C p q] 51
  have hS2 := hS.kp ka
  have hz2 : (w.alloc (.cells #[.int .i64 ed.at_, .slice B m d, .slice C p q] 51)).heap.size = w.heap.size + 1 := by simp
  clear hS
  generalize (w.alloc (.cells #[.int .i64 ed.at_, .slice B m d, .slice C p q] 51)) = w2 at *
  go_upto_region 3 with (at_builtin; refine wpList_append_sl _ rfl _ _ _ rfl (w.heap.size + 1) 69 _ 2 32 Try.underlying48 infoGrpR rfl (by omega) none 0 0 [] rfl (Own.nil _ _ _ _) Any A n c css.flatten rfl hS2 H1.out (by simp only [maxLen]; omega) (by omega) (by omega) ?_; intro A3 c3 w3 hown hg3 hat3)
  rw [List.nil_append, Nat.zero_add] at hown
  have k3 := ka.grown hg3 (by simp [rowOf])
  have b1' := b1.grown hg3 (by simp [rowOf])
  have hz3 : w.heap.size + 1 ≤ w3.heap.size := by have := hg3.size; omega
  clear ka b1 hS2 hg3 hat3 hz2
  obtain ⟨e0, e1, e2, e3, e4, e5⟩ := b1'.three
  rcases hj' with rfl | ⟨rfl, hd0, hd1⟩
  all_goals
    go_upto_region 10 with (at_builtin; refine wpList_append_sl _ rfl _ _ _ rfl (w.heap.size + 1) 69 _ 2 32 Try.underlying48 infoGrpR rfl (by omega) A3 n c3 css.flatten rfl ((hown.alloc _).alloc _) Any _ 1 1 [.slice (some ⟨w3.heap.size, 0, none⟩) 1 1, .int .i64 cur] rfl (Sl.new_ (w3.alloc (.cells #[.int .i64 ed.at_, .slice B m d, .slice C p q] 51)) #[.slice (some ⟨w3.heap.size, 0, none⟩) 1 1, .int .i64 cur] _ 2 1 _ (by simp) trivial (by simp) (by omega)) (by simp [Value.oneCell']) (by simp only [maxLen]; omega) (by omega) (by simp; omega) ?_; intro A4 c4 w4 hown4 hg4 hat4)
    have hrow : ∀ g, rowOf A3 = some g → w.heap.size + 1 ≤ g ∧ g < w3.heap.size := hown.lt
    have kw4 : Kp w w4 := ((k3.alloc _).alloc _).grown hg4 (fun g e => by have := hrow g e; omega)
    have bE : Bx w4 w3.heap.size #[.int .i64 ed.at_, .slice B m d, .slice C p q] 51 := ((Bx.new w3 _ _).alloc _).grown hg4 (fun e => by have := hrow _ e; omega)
    have hGL : Grps w4 A4 (n + 1) c4 (gs ++ [⟨[ed], cur⟩]) :=
      ⟨css ++ [[.slice (some ⟨w3.heap.size, 0, none⟩) 1 1, .int .i64 cur]], by rw [List.flatten_append]; simpa using hown4.sl.any, (HR.out.mono (GrpV.kp kw4)).app (RelL.one (grpV_new ed cur bE (hB.kp kw4) (hC.kp kw4))), by simp [HL.out]⟩
    have hcap4 := hown4.cap
    have hc63 : c4 ≤ 9223372036854775807 := by have := hcap4.2; unfold maxLen at this; omega
    have hmc := hcap4.1
    clear hcap4 hrow bE hat4 hg4 hown4 hown k3 b1' e0 e1 e2 e3 e4 e5
    obtain ⟨mm, hmm⟩ : ∃ mm, mm = n + 1 := ⟨_, rfl⟩
    rw [← hmm] at hGL hmc ⊢
    have HMM := Lib.hid hmm
    by_cases hbig : 1000 < mm
    · have k1 : Hid (k = 1) := by show _ = _; have := HK.out; omega
      have hgt : (1000 : Int) < (mm : Int) := by omega
      have hck : ¬ c4 = 1 := by omega
      have hGD := Lst.drop GrpV.len hGL (m := 1) (by omega)
      rw [if_neg hck] at hGD
      clear hmm
      go_wp2
      go_ret
      rw [k1.out]
      exact ⟨_, _, _, rfl, hGD, kw4⟩
    · have k0 : Hid (k = 0) := by show _ = _; have := HK.out; omega
      have hgt : ¬ (1000 : Int) < (mm : Int) := by omega
      clear hmm
      go_wp2
      go_ret
      rw [k0.out, List.drop_zero]
      exact ⟨_, _, _, rfl, hGL, kw4⟩
end Go.Proofs.Ytakbfppmgngdiaa
