/-
  package undo: Add: an edit more, in a group of its own or in the newest one. Conditions: the groups and the edit can be read; not more than 2000 groups, none with more than 10^6 edits.
-/
import Derived.Test.YtakbfppmgngdiaaUndoD
namespace Go.Proofs.Ytakbfppmgngdiaa
open Go.RowKit

theorem Sl.of_bx {w : World} {b : Nat} {cs : Array Value} {t : TypeId} (h : Bx w b cs t) (k n : Nat) (hs : cs.size = n * k) (hn : n ≤ 1099511627776) : Sl w Any k (some ⟨b, 0, none⟩) n n cs.toList :=
  ⟨Nat.le_refl _, by unfold maxLen; omega, by simp [hs], fun _ => ⟨⟨b, 0, none⟩, rfl, trivial, h.lt, fun j u hu => by
    have e : (⟨b, 0, none⟩ : Addr).add j = ⟨b, j, none⟩ := by unfold Addr.add; split <;> simp_all
    rw [e, h.cell j]; simpa using hu⟩⟩
theorem edV_new {w : World} {b : Nat} {t : TypeId} {B C : Option Addr} {m d p q : Nat} (ed : Ed) (h : Bx w b #[.int .i64 ed.at_, .slice B m d, .slice C p q] t) (hB : Ru w Any B m d ed.old) (hC : Ru w Any C p q ed.new) : Eds w (some ⟨b, 0, none⟩) 1 1 [ed] :=
  ⟨[[.int .i64 ed.at_, .slice B m d, .slice C p q]], by simpa using Sl.of_bx h 3 1 rfl (by omega), RelL.one ⟨B, m, d, C, p, q, rfl, hB, hC⟩, rfl⟩
theorem grpV_new {w : World} {b : Nat} {t : TypeId} {B C : Option Addr} {m d p q : Nat} (ed : Ed) (cur : Int) (h : Bx w b #[.int .i64 ed.at_, .slice B m d, .slice C p q] t) (hB : Ru w Any B m d ed.old) (hC : Ru w Any C p q ed.new) :
    GrpV w ⟨[ed], cur⟩ [.slice (some ⟨b, 0, none⟩) 1 1, .int .i64 cur] := ⟨_, _, _, rfl, edV_new ed h hB hC⟩

/-- What Add tells. -/
def RetAdd (gs : List Grp) (w : World) (e : Ending) (w' : World) : Prop := ∃ A n c, e = .returned (.agg #[.slice A n c]) ∧ Grps w' A n c gs ∧ Kp w w'

set_option maxRecDepth 100000 in
set_option maxHeartbeats 3200000 in
theorem undo_add_own (A B C : Option Addr) (n c m d p q : Nat) (gs : List Grp) (ed : Ed) (cur : Int) (join : Bool) (w : World) (h : Grps w A n c gs) (hB : Ru w Any B m d ed.old) (hC : Ru w Any C p q ed.new)
    (hn : n ≤ 2000) (hj : join = false ∨ n = 0) :
    Calls Try.prog 26 #[.agg #[.slice A n c], .agg #[.int .i64 ed.at_, .slice B m d, .slice C p q], .int .i64 cur, .bool join] w (RetAdd (addM gs ed cur join) w) := by
  have hle := h.le
  have hcap := h.cap
  unfold maxLen at hcap
  obtain ⟨k, hk⟩ : ∃ k, k = n + 1 - 1000 := ⟨_, rfl⟩
  rw [addM_own (gs := gs) ed cur join (by rcases hj with h1 | h1; exact .inl h1; exact .inr (List.eq_nil_of_length_eq_zero (by rw [h.len, h1]))), h.len, ← hk]
  have HK := Lib.hid hk
  clear hk
  obtain ⟨css, hS, hR, hlen⟩ := h
  have HL := Lib.hid hlen
  have H1 := Lib.hid (Lst.one GrpV.one hR)
  have HR := Lib.hid hR
  have hj' : join = false ∨ (join = true ∧ decide (1 ≤ (n : Int)) = false ∧ ¬ (1 ≤ (n : Int))) := by
    rcases hj with h1 | h1
    · exact .inl h1
    · cases join
      · exact .inl rfl
      · exact .inr ⟨rfl, by simp; omega, by omega⟩
  clear hj
  clear hlen hR
  go_enter Try.func26, Try.ntmps26
  go_upto_region 1 with fail
  have ka := (((Kp.refl w).alloc (.cells #[.slice A n c] 47)).alloc (.cells #[.int .i64 ed.at_, .slice B m d, .slice C p q] 56)).alloc (.cells #[.slice none 0 0] 47)
  have b0 := ((Bx.new w #[.slice A n c] 47).alloc (.cells #[.int .i64 ed.at_, .slice B m d, .slice C p q] 56)).alloc (.cells #[.slice none 0 0] 47)
  have b1 := (Bx.new (w.alloc (.cells #[.slice A n c] 47)) #[.int .i64 ed.at_, .slice B m d, .slice C p q] 56).alloc (.cells #[.slice none 0 0] 47)
  have b2 := Bx.new ((w.alloc (.cells #[.slice A n c] 47)).alloc (.cells #[.int .i64 ed.at_, .slice B m d, .slice C p q] 56)) #[.slice none 0 0] 47
  rw [World.size_alloc] at b1 b2
  rw [World.size_alloc] at b2
  have hS2 := hS.kp ka
  have hz2 : (((w.alloc (.cells #[.slice A n c] 47)).alloc (.cells #[.int .i64 ed.at_, .slice B m d, .slice C p q] 56)).alloc (.cells #[.slice none 0 0] 47)).heap.size = w.heap.size + 3 := by simp
  clear hS
  generalize (((w.alloc (.cells #[.slice A n c] 47)).alloc (.cells #[.int .i64 ed.at_, .slice B m d, .slice C p q] 56)).alloc (.cells #[.slice none 0 0] 47)) = w2 at *
  obtain ⟨b00, b01⟩ := b0.one
  go_wp2_with fail
  refine (cloneGrp_sl Any A n c css.flatten w2 hS2 H1.out (by omega)).mono ?_
  rintro e w3 ⟨A3, c3, rfl, hown, k3⟩
  have b1' := b1.kp k3
  have b2' := b2.kp k3
  have kk := ka.trans k3
  have hz3 : w.heap.size + 3 ≤ w3.heap.size := by have := k3.size; omega
  rw [hz2] at hown
  clear b0 b1 b2 b00 b01 hS2 k3 ka hz2
  obtain ⟨e0, e1, e2, e3, e4, e5⟩ := b1'.three
  go_upto_region 3 with fail
  rcases hj' with rfl | ⟨rfl, hd0, hd1⟩
  all_goals
    go_upto_region 7 with (at_builtin; refine wpList_append_sl _ rfl _ _ _ rfl (w.heap.size + 3) 62 _ 2 32 Try.underlying45 infoGrp rfl (by omega) A3 n c3 css.flatten rfl ((hown.alloc _).alloc _) Any _ 1 1 [.slice (some ⟨w3.heap.size, 0, none⟩) 1 1, .int .i64 cur] rfl (Sl.new_ (w3.alloc (.cells #[.int .i64 ed.at_, .slice B m d, .slice C p q] 56)) #[.slice (some ⟨w3.heap.size, 0, none⟩) 1 1, .int .i64 cur] _ 2 1 _ (by simp) trivial (by simp) (by omega)) (by simp [Value.oneCell']) (by simp only [maxLen]; omega) (by omega) (by simp; omega) ?_; intro A4 c4 w4 hown4 hg4 hat4)
    have hrow : ∀ g, rowOf A3 = some g → w.heap.size + 3 ≤ g ∧ g < w3.heap.size := hown.lt
    have kw4 : Kp w w4 := ((kk.alloc _).alloc _).grown hg4 (fun g e => by have := hrow g e; omega)
    have bE : Bx w4 w3.heap.size #[.int .i64 ed.at_, .slice B m d, .slice C p q] 56 := ((Bx.new w3 _ _).alloc _).grown hg4 (fun e => by have := hrow _ e; omega)
    have bR : Bx w4 (w.heap.size + 1 + 1) #[.slice none 0 0] 47 := ((b2'.alloc _).alloc _).grown hg4 (fun e => by have := hrow _ e; omega)
    have hrow4 : rowOf A4 ≠ some (w.heap.size + 1 + 1) := fun e => by have := (hown4.lt _ e).1; omega
    have hGL : ∀ v : Value, Grps (w4.setCell ⟨w.heap.size + 1 + 1, 0, none⟩ v) A4 (n + 1) c4 (gs ++ [⟨[ed], cur⟩]) := fun v => by
      have kv := kw4.setCell (p := ⟨w.heap.size + 1 + 1, 0, none⟩) (by show w.heap.size ≤ w.heap.size + 1 + 1; omega) v
      have hs := (hown4.setCell (p := ⟨w.heap.size + 1 + 1, 0, none⟩) hrow4 v).sl.any
      exact ⟨css ++ [[.slice (some ⟨w3.heap.size, 0, none⟩) 1 1, .int .i64 cur]], by rw [List.flatten_append]; simpa using hs, (HR.out.mono (GrpV.kp kv)).app (RelL.one (grpV_new ed cur (bE.far (p := ⟨w.heap.size + 1 + 1, 0, none⟩) (by show w3.heap.size ≠ w.heap.size + 1 + 1; omega) v) (hB.kp kv) (hC.kp kv))), by simp [HL.out]⟩
    have hcap4 := hown4.cap
    obtain ⟨mm, hmm⟩ : ∃ mm, mm = n + 1 := ⟨_, rfl⟩
    have hk := HK.out
    have hkm : k ≤ n + 1 := by omega
    rw [← hmm] at hGL hcap4 hkm ⊢
    have hc63 : c4 ≤ 9223372036854775807 := by have := hcap4.2; unfold maxLen at this; omega
    have hmc := hcap4.1
    have HMM := Lib.hid hmm
    clear hcap4 hrow hrow4 bE hat4 hg4 hown4 hown kk b1' b2' hk hz3 e0 e1 e2 e3 e4 e5
    obtain ⟨r0, r1⟩ := bR.one
    have hck : ¬ (c4 = k) := by have := HK.out; omega
    have HGL := Lib.hid hGL
    clear hGL
    by_cases hbig : 1000 ≤ mm
    · have ek : (mm : Int) - 1000 = (k : Int) := by have := HK.out; omega
      clear hmm
      go_wp2
      refine bodyPost_ret (v := .agg #[.slice (A4.map fun x => x.add (k * 2)) (mm - k) (c4 - k)]) (by simp [results, Try.results26, go_sem, r0]) rfl ?_
      have hGD := Lst.drop GrpV.len (HGL.out (.slice (A4.map fun x => x.add (k * 2)) (mm - k) (c4 - k))) (m := k) hkm
      rw [if_neg hck] at hGD
      exact ⟨_, _, _, rfl, hGD, kw4.setCell (by show w.heap.size ≤ w.heap.size + 1 + 1; omega) _⟩
    · have ek : (mm : Int) - 1000 < 0 := by omega
      have k0 : k = 0 := by have := HK.out; omega
      clear hmm
      go_wp2
      refine bodyPost_ret (v := .agg #[.slice A4 mm c4]) (by simp [results, Try.results26, go_sem, r0]) rfl ?_
      rw [k0, List.drop_zero]
      exact ⟨_, _, _, rfl, HGL.out _, kw4.setCell (by show w.heap.size ≤ w.heap.size + 1 + 1; omega) _⟩
end Go.Proofs.Ytakbfppmgngdiaa
