/-
  typebarref38: count, first, Len: what each returns, in terms of the events that wait; nothing turns. Conditions: the box is in memory.
-/
import Derived.Test.YtakbfppmgngdiaaLoopEq
import Derived.Deep.LoopGhost
import Derived.Deep.CutBlock
import Derived.Deep.DeepCutAuto
import Derived.Deep.RegionLaw
namespace Go.Proofs.Ytakbfppmgngdiaa
open Go.RowKit

def evC (e : Ev) : List Value := [.int .i64 e.kind, .int .u8 e.byte, .int .i64 e.rows, .int .i64 e.cols]
def evCells (q : List Ev) : List Value := q.flatMap evC
theorem evCells_cons (e : Ev) (q : List Ev) : evCells (e :: q) = evC e ++ evCells q := by simp [evCells]
theorem evCells_append (p q : List Ev) : evCells (p ++ q) = evCells p ++ evCells q := by simp [evCells]
theorem evCells_length (q : List Ev) : (evCells q).length = q.length * 4 := by
  induction q with
  | nil => rfl
  | cons e q ih => rw [evCells_cons, List.length_append, ih]; simp [evC]; omega
theorem evCells_get (q : List Ev) : ∀ (j : Nat) (e : Ev), q[j]? = some e → (evCells q)[j * 4]? = some (.int .i64 e.kind) ∧ (evCells q)[j * 4 + 1]? = some (.int .u8 e.byte) ∧ (evCells q)[j * 4 + 2]? = some (.int .i64 e.rows) ∧ (evCells q)[j * 4 + 3]? = some (.int .i64 e.cols) := by
  induction q with
  | nil => intro j e h; simp at h
  | cons x q ih =>
    intro j e h
    rw [evCells_cons]
    cases j with
    | zero =>
      simp at h
      subst h
      simp [evC]
    | succ j =>
      have := ih j e (by simpa using h)
      have e0 : (j + 1) * 4 = (evC x).length + j * 4 := by simp [evC]; omega
      rw [e0, Nat.add_assoc, Nat.add_assoc, Nat.add_assoc]
      refine ⟨?_, ?_, ?_, ?_⟩
      · rw [List.getElem?_append_right (by omega), Nat.add_sub_cancel_left]; exact this.1
      · rw [List.getElem?_append_right (by omega), Nat.add_sub_cancel_left]; exact this.2.1
      · rw [List.getElem?_append_right (by omega), Nat.add_sub_cancel_left]; exact this.2.2.1
      · rw [List.getElem?_append_right (by omega), Nat.add_sub_cancel_left]; exact this.2.2.2
theorem evCells_one (q : List Ev) : ∀ u ∈ evCells q, u.oneCell' = true := by
  intro u hu
  simp only [evCells, List.mem_flatMap] at hu
  obtain ⟨e, _, h⟩ := hu
  simp [evC] at h
  rcases h with rfl | rfl | rfl | rfl <;> rfl
theorem infoEv : (Try.prog.info? 30).map (fun i => (i.zero, i.size, i.bytes)) = some (some (.agg #[.int .i64 0, .int .u8 0, .int .i64 0, .int .i64 0]), 4, 32) := by kernel_rfl

/-- The events of a slice can be read. -/
def Evs (w : World) (A : Option Addr) (n c : Nat) (q : List Ev) : Prop := Sl w Any 4 A n c (evCells q)
theorem Evs.len {w : World} {A : Option Addr} {n c : Nat} {q : List Ev} (h : Evs w A n c q) : q.length = n := by have := Sl.len h; rw [evCells_length] at this; omega
theorem Evs.get {w : World} {A : Option Addr} {n c : Nat} {q : List Ev} (h : Evs w A n c q) {j : Nat} {e : Ev} (hj : q[j]? = some e) : ∃ ad, A = some ad ∧ w.cell? (ad.add (j * 4)) = some (.int .i64 e.kind) ∧
    w.cell? ⟨(ad.add (j * 4)).block, (ad.add (j * 4)).off + 1, none⟩ = some (.int .u8 e.byte) ∧ w.cell? ⟨(ad.add (j * 4)).block, (ad.add (j * 4)).off + 2, none⟩ = some (.int .i64 e.rows) ∧
    w.cell? ⟨(ad.add (j * 4)).block, (ad.add (j * 4)).off + 3, none⟩ = some (.int .i64 e.cols) := by
  have hl := h.len
  have hlt := (List.getElem?_eq_some_iff.1 hj).1
  obtain ⟨ad, hA, _, _, hc⟩ := Sl.at_ h (by omega)
  obtain ⟨g0, g1, g2, g3⟩ := evCells_get q j e hj
  have k : ∀ i, ad.add (j * 4 + (i + 1)) = ⟨(ad.add (j * 4)).block, (ad.add (j * 4)).off + (i + 1), none⟩ := fun i => by
    rw [← add_add]; unfold Addr.add; simp
  refine ⟨ad, hA, hc _ _ g0, ?_, ?_, ?_⟩
  · have := hc _ _ g1; rwa [k 0] at this
  · have := hc _ _ g2; rwa [k 1] at this
  · have := hc _ _ g3; rwa [k 2] at this

set_option maxHeartbeats 800000 in
theorem count_any (b : Nat) (room k : Int) (A : Option Addr) (n c : Nat) (q : List Ev) (w : World) (hb : Bx w b #[.int .i64 room, .slice A n c] 28) (hq : Evs w A n c q) :
    Calls Try.prog 54 #[.pointer (some ⟨b, 0, none⟩), .int .i64 k] w fun e w' => e = .returned (.int .i64 (ofK k q).length) ∧ w' = w := by
  have hl := hq.len
  have hle := Sl.le hq
  have hcl := Sl.cap hq
  unfold maxLen at hcl
  have p1 := hb.cell 1
  have HL := Lib.hid hl
  clear hl
  go_enter Try.func54, Try.ntmps54
  go_wp2
  go_loopg [5, 6] n (fun g m i wr => ∃ j : Nat, j + g = n ∧ i = .int .i64 j ∧ m = .int .i64 (ofK k (q.take j)).length ∧ wr = w)
  case atStart => exact ⟨0, by omega, rfl, rfl, rfl⟩
  case round =>
    obtain ⟨j, hj, rfl, rfl, rfl⟩ := hrel
    by_cases hlt : j < n
    · obtain ⟨e, he⟩ : ∃ e, q[j]? = some e := ⟨q[j]'(by rw [HL.out]; exact hlt), List.getElem?_eq_getElem _⟩
      obtain ⟨ad, rfl, c0, _, _, _⟩ := hq.get he
      have hts : q.take (j + 1) = q.take j ++ [e] := by
        have hlq : j < q.length := by rw [HL.out]; exact hlt
        rw [List.take_succ_eq_append_getElem hlq]
        rw [List.getElem?_eq_getElem hlq] at he
        injection he with he
        rw [he]
      have hcb' : (ofK k (q.take j)).length ≤ j := Nat.le_trans (ofK_len_le k (q.take j)) (by rw [List.length_take]; omega)
      clear he
      by_cases hk : e.kind = k
      · have hkb : (e.kind == k) = true := by simpa using hk
        have HT : Hid ((ofK k (q.take (j + 1))).length = (ofK k (q.take j)).length + 1) := by show _ = _; rw [hts, ofK_append, ofK_hit hk]; simp [ofK]
        clear hts hk
        generalize (ofK k (q.take j)).length = m at *
        go_wp2
        go_roundg (n - (j + 1))
        case measure => omega
        case rel => exact ⟨j + 1, by omega, by go_num, by rw [HT.out]; simp, rfl⟩
      · have hkb : (e.kind == k) = false := by simpa using hk
        have HT : Hid ((ofK k (q.take (j + 1))).length = (ofK k (q.take j)).length) := by show _ = _; rw [hts, ofK_append, ofK_miss hk]; simp [ofK]
        clear hts hk
        generalize (ofK k (q.take j)).length = m at *
        go_wp2
        go_roundg (n - (j + 1))
        case measure => omega
        case rel => exact ⟨j + 1, by omega, by go_num, by rw [HT.out], rfl⟩
    · have HT : Hid (q.take j = q) := List.take_of_length_le (by rw [HL.out]; omega)
      go_wp2
      go_ret
      rw [HT.out]
      exact ⟨rfl, rfl⟩

set_option maxHeartbeats 800000 in
theorem first_none (b : Nat) (room k : Int) (A : Option Addr) (n c : Nat) (q : List Ev) (w : World) (hb : Bx w b #[.int .i64 room, .slice A n c] 28) (hq : Evs w A n c q) (hk : ∀ e ∈ q, e.kind ≠ k) :
    Calls Try.prog 53 #[.pointer (some ⟨b, 0, none⟩), .int .i64 k] w fun e w' => e = .returned (.int .i64 (-1)) ∧ w' = w := by
  have hl := hq.len
  have hle := Sl.le hq
  have hcl := Sl.cap hq
  unfold maxLen at hcl
  have p1 := hb.cell 1
  have HL := Lib.hid hl
  have HK := Lib.hid hk
  clear hl hk
  go_enter Try.func53, Try.ntmps53
  go_wp2
  go_loopg [5] n (fun g i wr => ∃ j : Nat, j + g = n ∧ i = .int .i64 j ∧ wr = w)
  case atStart => exact ⟨0, by omega, rfl, rfl⟩
  case round =>
    obtain ⟨j, hj, rfl, rfl⟩ := hrel
    by_cases hlt : j < n
    · obtain ⟨e, he⟩ : ∃ e, q[j]? = some e := ⟨q[j]'(by rw [HL.out]; exact hlt), List.getElem?_eq_getElem _⟩
      obtain ⟨ad, rfl, c0, _, _, _⟩ := hq.get he
      have hkb : (e.kind == k) = false := by simpa using HK.out e (List.mem_of_getElem? he)
      clear he
      go_wp2
      go_roundg (n - (j + 1))
      case measure => omega
      case rel => exact ⟨j + 1, by omega, by go_num, rfl⟩
    · go_wp2
      go_ret
      exact ⟨rfl, rfl⟩

set_option maxHeartbeats 800000 in
theorem first_some (b : Nat) (room k : Int) (A : Option Addr) (n c : Nat) (l : List Ev) (x : Ev) (r : List Ev) (w : World) (hb : Bx w b #[.int .i64 room, .slice A n c] 28) (hq : Evs w A n c (l ++ x :: r)) (hx : x.kind = k) (hk : ∀ e ∈ l, e.kind ≠ k) :
    Calls Try.prog 53 #[.pointer (some ⟨b, 0, none⟩), .int .i64 k] w fun e w' => e = .returned (.int .i64 l.length) ∧ w' = w := by
  have hl := hq.len
  have hle := Sl.le hq
  have hcl := Sl.cap hq
  unfold maxLen at hcl
  rw [List.length_append, List.length_cons] at hl
  have p1 := hb.cell 1
  have hln : l.length < n := by omega
  have HK := Lib.hid hk
  have HX := Lib.hid hx
  have HQ := Lib.hid hq
  clear hl hk hx hq
  obtain ⟨L, hL⟩ : ∃ L, L = l.length := ⟨_, rfl⟩
  have HLL := Lib.hid hL
  rw [← hL] at hln ⊢
  clear hL
  go_enter Try.func53, Try.ntmps53
  go_wp2
  go_loopg [5] n (fun g i wr => ∃ j : Nat, j + g = n ∧ j ≤ L ∧ i = .int .i64 j ∧ wr = w)
  case atStart => exact ⟨0, by omega, by omega, rfl, rfl⟩
  case round =>
    obtain ⟨j, hj, hjL, rfl, rfl⟩ := hrel
    by_cases hlt : j < L
    · have hjn : j < n := by omega
      obtain ⟨e, he⟩ : ∃ e, l[j]? = some e := ⟨l[j]'(by rw [← HLL.out]; exact hlt), List.getElem?_eq_getElem _⟩
      obtain ⟨ad, rfl, c0, _, _, _⟩ := HQ.out.get (j := j) (e := e) (by rw [List.getElem?_append_left (by rw [← HLL.out]; exact hlt)]; exact he)
      have hkb : (e.kind == k) = false := by simpa using HK.out e (List.mem_of_getElem? he)
      clear he
      go_wp2
      go_roundg (n - (j + 1))
      case measure => omega
      case rel => exact ⟨j + 1, by omega, by omega, by go_num, rfl⟩
    · obtain rfl : j = L := by omega
      obtain ⟨ad, rfl, c0, _, _, _⟩ := HQ.out.get (j := j) (e := x) (by rw [HLL.out, List.getElem?_append_right (Nat.le_refl _)]; simp)
      have hkb : (x.kind == k) = true := by simpa using HX.out
      go_wp2
      go_ret
      exact ⟨rfl, rfl⟩

set_option maxHeartbeats 800000 in
theorem refLen_any (b : Nat) (room : Int) (A : Option Addr) (n c : Nat) (q : List Ev) (w : World) (hb : Bx w b #[.int .i64 room, .slice A n c] 28) (hq : Evs w A n c q) :
    Calls Try.prog 21 #[.pointer (some ⟨b, 0, none⟩)] w fun e w' => e = .returned (.agg #[.int .i64 (ofK 1 q).length, .int .i64 (ofK 2 q).length, .int .i64 (ofK 3 q).length]) ∧ Kp w w' := by
  have ka := (Kp.refl w).alloc (.cells #[.int .i64 0, .int .i64 0, .int .i64 0] 36)
  have hb1 := hb.kp ka
  have hq1 := Sl.kp hq ka
  go_enter Try.func21, Try.ntmps21
  go_wp2_with (go_at_call 54; refine (count_any b room _ A n c q _ hb1 hq1).mono ?_; rintro e w' ⟨rfl, rfl⟩)
  refine bodyPost_ret (v := .agg #[.int .i64 (ofK 1 q).length, .int .i64 (ofK 2 q).length, .int .i64 (ofK 3 q).length]) (by simp [results, Try.results21, go_sem]) rfl ?_
  exact ⟨rfl, (Kp.refl _).alloc _⟩
end Go.Proofs.Ytakbfppmgngdiaa
