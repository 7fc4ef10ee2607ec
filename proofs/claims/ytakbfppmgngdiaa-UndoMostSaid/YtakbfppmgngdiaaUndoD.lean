/-
  package undo: Len, Last, Drop; shift.Edit.Back; typebarlaw19.edit, light. Conditions: the groups can be read.
-/
import Derived.Test.YtakbfppmgngdiaaUndoC
import Derived.Deep.RegionHeld3
import Derived.Deep.LoopGhost
import Derived.Deep.CutBlock
import Derived.Deep.DeepCutAuto
import Derived.Deep.RegionLaw
import Derived.Deep.DrawnRows
namespace Go.Proofs.Ytakbfppmgngdiaa
open Go.RowKit

theorem cell_kp {w w' : World} (k : Kp w w') {a : Addr} {v : Value} (h : w.cell? a = some v) : w'.cell? a = some v := (k.cell (World.block_lt_of_cell? w a h)).trans h
theorem Bx.two {w : World} {b : Nat} {t : TypeId} {x y : Value} (h : Bx w b #[x, y] t) : w.cell? ⟨b, 0, none⟩ = some x ∧ w.cell? ⟨b, 1, none⟩ = some y ∧ w.frozen? ⟨b, 0, none⟩ = false ∧ w.frozen? ⟨b, 1, none⟩ = false :=
  ⟨h.cell 0, h.cell 1, h.frozen 0, h.frozen 1⟩

set_option maxHeartbeats 1600000 in
theorem undo_len (A : Option Addr) (n c : Nat) (w : World) : Calls Try.prog 31 #[.agg #[.slice A n c]] w fun e w' => e = .returned (.int .i64 n) ∧ Kp w w' := by
  go_enter Try.func31, Try.ntmps31
  go_wp2
  go_ret
  exact ⟨rfl, (Kp.refl _).alloc _⟩

set_option maxHeartbeats 1600000 in
theorem edit_any (a : Int) (A B : Option Addr) (n c m d : Nat) (w : World) : Calls Try.prog 27 #[.agg #[.int .i64 a, .slice A n c, .slice B m d]] w fun e w' => e = .returned (.agg #[.int .i64 a, .slice A n c, .slice B m d]) ∧ Kp w w' := by
  go_enter Try.func27, Try.ntmps27
  go_wp2
  refine bodyPost_ret (v := .agg #[.int .i64 a, .slice A n c, .slice B m d]) (by simp [results, Try.results27, go_sem]) rfl ?_
  exact ⟨rfl, by repeat (first | assumption | exact Kp.refl _ | refine Kp.alloc ?_ _ | refine Kp.drewN ?_ _ | refine Kp.drew ?_ | refine Kp.setCell ?_ (by simp) _)⟩
set_option maxHeartbeats 1600000 in
theorem back_any (a : Int) (A B : Option Addr) (n c m d : Nat) (w : World) : Calls Try.prog 71 #[.agg #[.int .i64 a, .slice A n c, .slice B m d]] w fun e w' => e = .returned (.agg #[.int .i64 a, .slice B m d, .slice A n c]) ∧ Kp w w' := by
  go_enter Try.func71, Try.ntmps71
  go_wp2
  refine bodyPost_ret (v := .agg #[.int .i64 a, .slice B m d, .slice A n c]) (by simp [results, Try.results71, go_sem]) rfl ?_
  exact ⟨rfl, by repeat (first | assumption | exact Kp.refl _ | refine Kp.alloc ?_ _ | refine Kp.drewN ?_ _ | refine Kp.drew ?_ | refine Kp.setCell ?_ (by simp) _)⟩
set_option maxHeartbeats 3200000 in
theorem light_any (a : Int) (A B : Option Addr) (n c m d : Nat) (w : World) (hn : n ≤ c) (hm : m ≤ d) (hc : c ≤ maxLen) (hd : d ≤ maxLen) : Calls Try.prog 25 #[.agg #[.int .i64 a, .slice A n c, .slice B m d]] w fun e w' => e = .returned (.agg #[.int .i64 a, .slice A (min n 20) c, .slice B (min m 20) d]) ∧ Kp w w' := by
  go_enter Try.func25, Try.ntmps25
  go_wp2_with fail
  refine (few_any A n c 20 hn hc (by omega) _).mono ?_
  rintro e w1 ⟨rfl, rfl⟩
  obtain ⟨n', hn'⟩ : ∃ n', n' = min n 20 := ⟨_, rfl⟩
  rw [← hn']
  have HN := Lib.hid hn'
  clear hn'
  go_wp2_with fail
  refine (few_any B m d 20 hm hd (by omega) _).mono ?_
  rintro e w1 ⟨rfl, rfl⟩
  obtain ⟨m', hm'⟩ : ∃ m', m' = min m 20 := ⟨_, rfl⟩
  rw [← hm']
  have HM := Lib.hid hm'
  clear hm'
  go_wp2_with fail
  rw [← HN.out, ← HM.out]
  refine bodyPost_ret (v := .agg #[.int .i64 a, .slice A n' c, .slice B m' d]) (by simp [results, Try.results25, go_sem]) rfl ?_
  exact ⟨rfl, by repeat (first | assumption | exact Kp.refl _ | refine Kp.alloc ?_ _ | refine Kp.drewN ?_ _ | refine Kp.drew ?_ | refine Kp.setCell ?_ (by simp) _)⟩

set_option maxHeartbeats 3200000 in
theorem undo_drop (A : Option Addr) (n c : Nat) (gs : List Grp) (w : World) (h : Grps w A n c gs) : Calls Try.prog 29 #[.agg #[.slice A n c]] w fun e w' => ∃ A' n' c', e = .returned (.agg #[.slice A' n' c']) ∧ Grps w' A' n' c' gs.dropLast ∧ Kp w w' := by
  have hlen := h.len
  have hle := h.le
  have hcap := h.cap
  unfold maxLen at hcap
  have HL := Lib.hid hlen
  clear hlen
  by_cases h0 : n = 0
  · subst h0
    have HG : Hid (gs = []) := List.eq_nil_of_length_eq_zero HL.out
    go_enter Try.func29, Try.ntmps29
    go_wp2
    rw [HG.out]
    refine bodyPost_ret (v := .agg #[.slice A 0 c]) (by simp [results, Try.results29, go_sem]) rfl ?_
    have k : Kp w ((w.alloc (.cells #[.slice A 0 c] 47)).alloc (.cells #[.slice A 0 c] 47)) := by repeat (first | assumption | exact Kp.refl _ | refine Kp.alloc ?_ _ | refine Kp.drewN ?_ _ | refine Kp.drew ?_ | refine Kp.setCell ?_ (by simp) _)
    exact ⟨A, 0, c, rfl, by have := h.kp k; rw [HG.out] at this; exact this, k⟩
  · have h1 : ((n : Int) == 0) = false := by simpa using h0
    have e1 : (n : Int) - 1 = ((n - 1 : Nat) : Int) := by omega
    go_enter Try.func29, Try.ntmps29
    go_wp2
    refine bodyPost_ret (v := .agg #[.slice A (n - 1) (n - 1)]) (by simp [results, Try.results29, go_sem]) rfl ?_
    have k : Kp w ((w.alloc (.cells #[.slice A n c] 47)).alloc (.cells #[.slice A (n - 1) (n - 1)] 47)) := by repeat (first | assumption | exact Kp.refl _ | refine Kp.alloc ?_ _ | refine Kp.drewN ?_ _ | refine Kp.drew ?_ | refine Kp.setCell ?_ (by simp) _)
    refine ⟨A, n - 1, n - 1, rfl, ?_, k⟩
    rw [List.dropLast_eq_take, HL.out]
    exact (Lst.take GrpV.len h (by omega) (n - 1) (Nat.le_refl _) (by omega)).kp (GrpV.kp k) k

set_option maxHeartbeats 3200000 in
theorem undo_drop_s (A : Option Addr) (n c : Nat) (w : World) (hn0 : 0 < n) (hle : n ≤ c) (hcap : c ≤ maxLen) : Calls Try.prog 29 #[.agg #[.slice A n c]] w fun e w' => e = .returned (.agg #[.slice A (n - 1) (n - 1)]) ∧ Kp w w' := by
  unfold maxLen at hcap
  have h1 : ((n : Int) == 0) = false := by simp; omega
  have e1 : (n : Int) - 1 = ((n - 1 : Nat) : Int) := by omega
  go_enter Try.func29, Try.ntmps29
  go_wp2
  refine bodyPost_ret (v := .agg #[.slice A (n - 1) (n - 1)]) (by simp [results, Try.results29, go_sem]) rfl ?_
  exact ⟨rfl, by repeat (first | assumption | exact Kp.refl _ | refine Kp.alloc ?_ _ | refine Kp.drewN ?_ _ | refine Kp.drew ?_ | refine Kp.setCell ?_ (by simp) _)⟩
/-- What Last tells. -/
def RetLast (gs : List Grp) (w0 w : World) (e : Ending) (w' : World) : Prop :=
  match gs.getLast? with
  | none => e = .returned (.tuple #[.agg #[.slice none 0 0, .int .i64 0], .bool false]) ∧ Kp w w'
  | some g => ∃ B m d, e = .returned (.tuple #[.agg #[.slice B m d, .int .i64 g.cur], .bool true]) ∧ EdsF (From w.heap.size) w0 w' B m d g.es ∧ Kp w w'
theorem retLast_none {gs : List Grp} {w0 w w' : World} {e : Ending} (h : gs = []) (he : e = .returned (.tuple #[.agg #[.slice none 0 0, .int .i64 0], .bool false])) (k : Kp w w') : RetLast gs w0 w e w' := by subst h; exact ⟨he, k⟩
theorem retLast_some {gs : List Grp} {w0 w w' : World} {e : Ending} {g : Grp} {B : Option Addr} {m d : Nat} (h : gs.getLast? = some g) (he : e = .returned (.tuple #[.agg #[.slice B m d, .int .i64 g.cur], .bool true])) (hE : EdsF (From w.heap.size) w0 w' B m d g.es) (k : Kp w w') : RetLast gs w0 w e w' := by
  unfold RetLast; rw [h]; exact ⟨B, m, d, he, hE, k⟩

set_option maxRecDepth 100000 in
set_option maxHeartbeats 3200000 in
theorem undo_last (A : Option Addr) (n c : Nat) (gs : List Grp) (w0 w : World) (h : Grps w0 A n c gs) (k0 : Kp w0 w) (hes : ∀ g ∈ gs, g.es.length ≤ 1000000) : Calls Try.prog 30 #[.agg #[.slice A n c]] w (RetLast gs w0 w) := by
  have hlen := h.len
  have hle := h.le
  have hcap := h.cap
  unfold maxLen at hcap
  have HL := Lib.hid hlen
  have HES := Lib.hid hes
  clear hlen hes
  by_cases h0 : n = 0
  · subst h0
    have HG : Hid (gs = []) := List.eq_nil_of_length_eq_zero HL.out
    go_enter Try.func30, Try.ntmps30
    go_wp2
    refine bodyPost_ret (v := .tuple #[.agg #[.slice none 0 0, .int .i64 0], .bool false]) (by simp [results, Try.results30, go_sem]) rfl ?_
    exact retLast_none HG.out rfl (by repeat (first | assumption | exact Kp.refl _ | refine Kp.alloc ?_ _ | refine Kp.drewN ?_ _ | refine Kp.drew ?_ | refine Kp.setCell ?_ (by simp) _))
  · obtain ⟨n1, hn1⟩ : ∃ n1, n = n1 + 1 := ⟨n - 1, by omega⟩
    obtain ⟨g, hg, hgl, -, -⟩ := last_split (gs := gs) (n := n1) (by have := HL.out; omega)
    have HGL := Lib.hid hgl
    have hem := HES.out g (List.mem_of_getElem? hg)
    obtain ⟨ad, B, m, d, rfl, c0', c1', hE⟩ := h.get hg
    have c0 := cell_kp k0 c0'
    have c1 := cell_kp k0 c1'
    clear hg hgl
    have h1 : ((n : Int) == 0) = false := by simpa using h0
    have e1 : (n : Int) - 1 = (n1 : Int) := by omega
    have HN1 := Lib.hid hn1
    have hn2 : n1 < n := by omega
    clear hn1
    have hm := hE.len
    have hmc := hE.cap
    unfold maxLen at hmc
    have hml : m ≤ 1000000 := by omega
    obtain ⟨css, hS0, hR, _⟩ := hE
    have hS := hS0.kp k0
    clear c0' c1' hS0
    have H1 := Lib.hid (Lst.one EdV.one hR)
    have HR := Lib.hid hR
    have HM := Lib.hid hm
    clear hm hR hem
    go_enter Try.func30, Try.ntmps30
    go_upto_region 1 with fail
    have ka := (((Kp.refl w).alloc (.cells #[.slice (some ad) n c] 47)).alloc (.cells #[.slice none 0 0, .int .i64 0] 62))
    have b0 := (Bx.new w #[.slice (some ad) n c] 47).alloc (.cells #[.slice none 0 0, .int .i64 0] 62)
    have b1 := (Bx.new (w.alloc (.cells #[.slice (some ad) n c] 47)) #[.slice none 0 0, .int .i64 0] 62)
    rw [World.size_alloc] at b1
    have c0' := cell_kp ka c0
    have c1' := cell_kp ka c1
    have hS' := hS.kp ka
    have hs2 : (w.alloc (.cells #[.slice (some ad) n c] 47)).heap.size + 1 = ((w.alloc (.cells #[.slice (some ad) n c] 47)).alloc (.cells #[.slice none 0 0, .int .i64 0] 62)).heap.size := by simp
    clear c0 c1 hS
    generalize ((w.alloc (.cells #[.slice (some ad) n c] 47)).alloc (.cells #[.slice none 0 0, .int .i64 0] 62)) = w2 at *
    have hz2 : w2.heap.size = w.heap.size + 2 := by rw [← hs2]; simp
    clear hs2
    obtain ⟨b0c, b0f⟩ := b0.one
    go_upto_region 4 with fail
    have kb := (Kp.refl w2).alloc (.cells #[.slice B m d, .int .i64 g.cur] 62)
    have bg := Bx.new w2 #[.slice B m d, .int .i64 g.cur] 62
    have b1' := b1.kp kb
    have hS3 := hS'.kp kb
    have k3 := ka.trans kb
    clear c0' c1' hS' b0c b0f b0 b1 ka kb
    generalize (w2.alloc (.cells #[.slice B m d, .int .i64 g.cur] 62)) = w3 at *
    rw [hz2] at bg
    clear hz2
    obtain ⟨g0, g1, _, _⟩ := bg.two
    go_region_held3 (fun w' => w'.cell? ⟨w.heap.size + 2, 0, none⟩ = some (.slice B m d) ∧ w'.cell? ⟨w.heap.size + 2, 1, none⟩ = some (.int .i64 g.cur))
      (first | (with_reducible exact ⟨u0, u1⟩) | (with_reducible exact ⟨g0, g1⟩) | go_keep)
      ((go_at_call 56; go_loud (refine (cloneEd_sl Any B m d css.flatten _ (by first | exact hS3 | exact Sl.drew hS3) H1.out (by omega)).mono ?_); rintro e w4 ⟨B4, d4, rfl, hown, hk4⟩; have u0 := cell_kp hk4 g0; have u1 := cell_kp hk4 g1; have b4 : Bx w4 (w.heap.size + 1) #[.slice none 0 0, .int .i64 0] 62 := (by first | exact b1'.kp hk4 | exact (Bx.drew b1').kp hk4); obtain ⟨r0, r1, r2, r3⟩ := b4.two; have k4 : Kp w w4 := (by first | exact k3.trans hk4 | exact (k3.drew).trans hk4)))
    have k6 := (k4.setCell (p := ⟨w.heap.size + 1, 0, none⟩) (by simp) (.slice B4 m d4)).setCell (p := ⟨w.heap.size + 1, 1, none⟩) (by simp) (.int .i64 g.cur)
    have b6 := ((b4.set 0 (.slice B4 m d4)).set 1 (.int .i64 g.cur))
    have hlt := bg.lt
    have HZ3 : Hid (w.heap.size ≤ w3.heap.size) := k3.size
    have hrow : rowOf B4 ≠ some (w.heap.size + 1) := fun e => by have := (hown.lt _ e).1; simp at this; omega
    have o6 := (hown.setCell (p := ⟨w.heap.size + 1, 0, none⟩) hrow (.slice B4 m d4)).setCell (p := ⟨w.heap.size + 1, 1, none⟩) hrow (.int .i64 g.cur)
    clear hlt hrow b4 r0 r1 r2 r3 u0 u1 hk4 hown k4 g0 g1 hS3 k3 b1' bg
    generalize ((w4.setCell ⟨w.heap.size + 1, 0, none⟩ (.slice B4 m d4)).setCell ⟨w.heap.size + 1, 1, none⟩ (.int .i64 g.cur)) = w6 at *
    obtain ⟨r0, r1, _, _⟩ := Bx.two b6
    go_wp2
    refine bodyPost_ret (v := .tuple #[.agg #[.slice B4 m d4, .int .i64 g.cur], .bool true]) (by simp [results, Try.results30, go_sem, r0, r1]) rfl ?_
    exact retLast_some HGL.out rfl ⟨css, Sl.weak o6.sl fun k _ h => by have := HZ3.out; unfold From at h ⊢; simp at h; omega, HR.out, HM.out⟩ k6
end Go.Proofs.Ytakbfppmgngdiaa
