/-
  typebarlaw03, its helpers: few, made, awake; the trie's Len and Blocks; the document's Get. Conditions: the pieces can be read; numbers are ints.
-/
import Derived.Test.YtakbfppmgngdiaaTrieGetI
namespace Go.Proofs.Ytakbfppmgngdiaa
open Go.RowKit

theorem len_nilE (w : World) : Calls Try.prog 41 #[.pointer none] w fun e w' => e = .returned (.int .i64 0) ∧ w' = w := by
  go_enter Try.func41, Try.ntmps41
  go_wp2_with fail
  go_ret
  exact ⟨rfl, rfl⟩
theorem len_tE (tB : Nat) (size : Int) (f : Int → Int) (w : World) (h : TrRI w tB size f) :
    Calls Try.prog 41 #[.pointer (some ⟨tB, 0, none⟩)] w fun e w' => e = .returned (.int .i64 size) ∧ w' = w := by
  obtain ⟨a, IA, Ic, BA, Bc, hb, _, _, _⟩ := h
  obtain ⟨b0, b1, b2, _, _, _⟩ := hb.three
  go_enter Try.func41, Try.ntmps41
  go_wp2_with fail
  go_ret
  exact ⟨rfl, rfl⟩
theorem len_nil (w : World) : Calls Try.prog 41 #[.pointer none] w fun e w' => e = .returned (.int .i64 0) ∧ Kp w w' := (len_nilE w).mono fun _ _ h => ⟨h.1, h.2 ▸ .refl _⟩
theorem len_t (tB : Nat) (size : Int) (f : Int → Int) (w : World) (h : TrRI w tB size f) :
    Calls Try.prog 41 #[.pointer (some ⟨tB, 0, none⟩)] w fun e w' => e = .returned (.int .i64 size) ∧ Kp w w' := (len_tE tB size f w h).mono fun _ _ h => ⟨h.1, h.2 ▸ .refl _⟩
theorem blocks_nil (w : World) : Calls Try.prog 45 #[.pointer none] w fun e w' => e = .returned (.int .i64 0) ∧ Kp w w' := by
  go_enter Try.func45, Try.ntmps45
  go_wp2_with fail
  go_ret
  exact ⟨rfl, .refl _⟩
/-- How many blocks a trie has. -/
def wideM (size : Int) : Nat := ((size + 127) / 128).toNat
theorem blocks_t (tB : Nat) (size : Int) (f : Int → Int) (w : World) (h : TrRI w tB size f) :
    Calls Try.prog 45 #[.pointer (some ⟨tB, 0, none⟩)] w fun e w' => e = .returned (.int .i64 ((blocksM f size (wideM size)).length : Int)) ∧ Kp w w' := by
  obtain ⟨a, IA, Ic, BA, Bc, hb, _, _, h1, _, h2, h3⟩ := h
  obtain ⟨b0, b1, b2, _, _, _⟩ := hb.three
  have ha : wideM size = a := by unfold wideM; omega
  rw [ha]
  generalize (blocksM f size a).length = bn at *
  clear ha
  go_enter Try.func45, Try.ntmps45
  go_wp2_with fail
  go_ret
  exact ⟨rfl, .refl _⟩

theorem few03 (A : Option Addr) (n c : Nat) (l : List (Pc Int)) (w : World) (h : Pcs (Value.int .i64) w A n c l) :
    Calls Try.prog 39 #[.slice A n c] w fun e w' => ∃ m, e = .returned (.slice A m c) ∧ m ≤ 30 ∧ Pcs (Value.int .i64) w' A m c (l.take 30) ∧ Kp w w' := by
  have hle := h.le
  have hcp := h.cap
  have hln := h.len
  by_cases hn : (30 : Int) < (n : Int)
  · have ht : Pcs (Value.int .i64) w A 30 c (l.take 30) := by
      have := Sl.take h (k := 30) (by omega)
      unfold Pcs
      have e : cellsP (Value.int .i64) (l.take 30) = (cellsP (Value.int .i64) l).take (30 * 3) := by
        rw [← List.take_append_drop 30 l]
        unfold cellsP
        rw [List.flatMap_append, List.take_left' (by simp; omega)]
        have h2 := cellsP_length (Value.int .i64) (l.take 30)
        unfold cellsP at h2
        rw [List.take_left' (by rw [h2]; simp; omega)]
      rw [e]
      exact this
    go_enter Try.func39, Try.ntmps39
    go_wp2_with fail
    go_ret
    exact ⟨30, rfl, by omega, ht, .refl _⟩
  · have ht : l.take 30 = l := List.take_of_length_le (by omega)
    rw [ht]
    go_enter Try.func39, Try.ntmps39
    go_wp2_with fail
    go_ret
    exact ⟨n, rfl, by omega, h, .refl _⟩

theorem getM_cons (p : Pc Int) (l : List (Pc Int)) (z i : Int) : getM (p :: l) z i = if p.fr ≤ i ∧ i ≤ p.to then p.v else getM l z i := rfl
set_option maxHeartbeats 1600000 in
theorem refGetD (A : Option Addr) (n c : Nat) (l : List (Pc Int)) (z i : Int) (w : World) (hP : Pcs (Value.int .i64) w A n c l) (hn : n ≤ 1099511627776) :
    Calls Try.prog 42 #[.slice A n c, .int .i64 z, .int .i64 i] w fun e w' => e = .returned (.int .i64 (getM l z i)) ∧ Dr w w' := by
  have hlen := hP.len
  have hle := hP.le
  have hcp := hP.cap
  unfold maxLen at hcp
  go_enter Try.func42, Try.ntmps42
  go_wp2_with fail
  go_loopg [7] n (fun g iv wr => ∃ (k : Nat), k + g = n ∧ iv = .int .i64 k ∧ Hid (getM l z i = getM (l.drop k) z i) ∧ Dr w wr)
  case atStart => exact ⟨0, by omega, rfl, (rfl : getM l z i = _), Dr.refl _⟩
  case round =>
    obtain ⟨k, hk, rfl, hf, kp⟩ := hrel
    by_cases hkn : k < n
    · obtain ⟨p, hp⟩ : ∃ p, l[k]? = some p := ⟨l[k]'(by omega), List.getElem?_eq_getElem _⟩
      obtain ⟨ad, rfl, c0, c1, c2⟩ := (hP.kp kp.kp).get hp
      have hd : l.drop k = p :: l.drop (k + 1) := by
        have hk' := (List.getElem?_eq_some_iff.1 hp)
        rw [List.drop_eq_getElem_cons hk'.1, hk'.2]
      have hf' := hf.out
      rw [hd, getM_cons] at hf'
      clear hf hd hp
      by_cases hab : p.fr ≤ i ∧ i ≤ p.to
      · have e1 : Hid (getM l z i = p.v) := by show _ = _; rw [hf', if_pos hab]
        obtain ⟨ha, hb⟩ := hab
        clear hf'
        go_wp2_with fail
        go_ret
        rw [e1.out]
        exact ⟨rfl, kp⟩
      · have e1 : Hid (getM l z i = getM (l.drop (k + 1)) z i) := by show _ = _; rw [hf', if_neg hab]
        clear hf'
        by_cases ha : p.fr ≤ i
        · have hb : decide (i ≤ p.to) = false := by simp; omega
          clear hab
          go_wp2_with fail
          go_roundg (n - (k + 1))
          case measure => omega
          case rel => exact ⟨k + 1, by omega, by go_num, e1, kp⟩
        · clear hab
          go_wp2_with fail
          go_roundg (n - (k + 1))
          case measure => omega
          case rel => exact ⟨k + 1, by omega, by go_num, e1, kp⟩
    · have hk0 : l.drop k = [] := List.drop_eq_nil_of_le (by omega)
      have hf' := hf.out
      rw [hk0] at hf'
      have e1 : Hid (getM l z i = z) := hf'
      clear hf hf'
      go_wp2_with fail
      go_ret
      rw [e1.out]
      exact ⟨rfl, kp⟩

theorem refGet (A : Option Addr) (n c : Nat) (l : List (Pc Int)) (z i : Int) (w : World) (hP : Pcs (Value.int .i64) w A n c l) (hn : n ≤ 1099511627776) :
    Calls Try.prog 42 #[.slice A n c, .int .i64 z, .int .i64 i] w fun e w' => e = .returned (.int .i64 (getM l z i)) ∧ Kp w w' :=
  (refGetD A n c l z i w hP hn).mono fun _ _ h => ⟨h.1, h.2.kp⟩

theorem infoPc : (Try.prog.info? 101).map (fun i => (i.zero, i.size, i.bytes)) = some (some (.agg #[.int .i64 0, .int .i64 0, .int .i64 0]), 3, 24) := by kernel_rfl
theorem cellsP_take_succ (l : List (Pc Int)) (k : Nat) (p : Pc Int) (h : l[k]? = some p) : cellsP (Value.int .i64) (l.take (k + 1)) = cellsP (Value.int .i64) (l.take k) ++ [.int .i64 p.fr, .int .i64 p.to, .int .i64 p.v] := by
  rw [List.take_add_one, h]
  simp [cellsP]

set_option maxRecDepth 100000 in
set_option maxHeartbeats 3200000 in
theorem made03 (size z : Int) (A : Option Addr) (n c : Nat) (l : List (Pc Int)) (w : World) (hP : Pcs (Value.int .i64) w A n c l) (hok : pcOkI l) (hwf : ∀ p ∈ l, wfI p.v) (hz : wfI z) (hn : n ≤ 30) (hs0 : -9223372036854775808 ≤ size) (hs : size ≤ 1024) :
    Calls Try.prog 40 #[.int .i64 size, .int .i64 z, .slice A n c] w (RetBuildI w size (getM l z)) := by
  have hlen := hP.len
  have hle := hP.le
  have hcp := hP.cap
  unfold maxLen at hcp
  have HOK := Lib.hid hok
  have HWF := Lib.hid hwf
  have HZ := Lib.hid hz
  clear hok hwf hz
  go_enter Try.func40, Try.ntmps40
  go_wp2_with fail
  go_loopg [7, 8] n (fun g pv iv wr => ∃ (k : Nat) (B : Option Addr) (d : Nat), k + g = n ∧ iv = .int .i64 k ∧ pv = .slice B k d ∧ Own wr w.heap.size 101 3 B k d (cellsP (Value.int .i64) (l.take k)) ∧ Kp w wr)
  case atStart => exact ⟨0, none, 0, by omega, rfl, rfl, Own.nil _ _ _ _, Kp.refl _⟩
  case round =>
    obtain ⟨k, B, d, hk, rfl, rfl, hown, kp⟩ := hrel
    by_cases hkn : k < n
    · obtain ⟨p, hp⟩ : ∃ p, l[k]? = some p := ⟨l[k]'(by omega), List.getElem?_eq_getElem _⟩
      obtain ⟨ad, rfl, c0, c1, c2⟩ := (hP.kp kp.drew).get hp
      have HTK := Lib.hid (cellsP_take_succ l k p hp)
      have hk0 : (0 : Int) ≤ (k : Int) := by omega
      have hk1 : (k : Int) < (n : Int) := by omega
      have hP' := Lib.hid hP
      have HPL := Lib.hid hp
      clear hp hP
      go_upto_region 5 with fail
      have hS : wr.drew.cell? (ad.add (k * 3)) = some (.int .i64 p.fr) ∧ wr.drew.cell? ⟨(ad.add (k * 3)).block, (ad.add (k * 3)).off + 1, none⟩ = some (.int .i64 p.to) ∧ wr.drew.cell? ⟨(ad.add (k * 3)).block, (ad.add (k * 3)).off + 2, none⟩ = some (.int .i64 p.v) := ⟨c0, c1, c2⟩
      refine wp_region_noPanic ?_
      refine wp_region_T (fun w' => w'.cell? (ad.add (k * 3)) = some (.int .i64 p.fr) ∧ w'.cell? ⟨(ad.add (k * 3)).block, (ad.add (k * 3)).off + 1, none⟩ = some (.int .i64 p.to) ∧ w'.cell? ⟨(ad.add (k * 3)).block, (ad.add (k * 3)).off + 2, none⟩ = some (.int .i64 p.v)) 19 (by kernel_rfl) (by kernel_rfl) fun inv => ?_
      refine wpAnyT_take (i := 0) (v := ?v1) inv (by simp only [List.getElem?_toArray, List.getElem?_cons_zero]; rfl) (by decide) (by kernel_rfl) (by kernel_rfl) ?hQ1 hS ?hy1 (fun inv => ?rest1)
      case hy1 =>
        refine yields_mk (by rfl) fun wy hy => ?_
        obtain ⟨y0, y1, y2⟩ := hy
        go_simp
        try with_reducible rfl
      case hQ1 => exact fun _ _ _ h => h
      simp only [Act.put, List.setIfInBounds_toArray, List.set_cons_zero, List.set_cons_succ]
      refine wpAnyT_take (i := 1) (v := ?v2) inv (by simp only [List.getElem?_toArray, List.getElem?_cons_succ, List.getElem?_cons_zero]; rfl) (by decide) (by kernel_rfl) (by kernel_rfl) ?hQ2 hS ?hy2 (fun inv => ?rest2)
      case hy2 =>
        refine yields_mk (by rfl) fun wy hy => ?_
        obtain ⟨y0, y1, y2⟩ := hy
        go_simp
        try with_reducible rfl
      case hQ2 => exact fun _ _ _ h => h
      simp only [Act.put, List.setIfInBounds_toArray, List.set_cons_zero, List.set_cons_succ]
      refine wpAnyT_take (i := 2) (v := ?v3) inv (by simp only [List.getElem?_toArray, List.getElem?_cons_succ, List.getElem?_cons_zero]; rfl) (by decide) (by kernel_rfl) (by kernel_rfl) ?hQ3 hS ?hy3 (fun inv => ?rest3)
      case hy3 =>
        refine yields_mk (by rfl) fun wy hy => ?_
        obtain ⟨y0, y1, y2⟩ := hy
        go_simp
        try with_reducible rfl
      case hQ3 => exact fun _ _ _ h => h
      simp only [Act.put, List.setIfInBounds_toArray, List.set_cons_zero, List.set_cons_succ]
      refine wpAnyT_take (i := 3) (v := ?v4) inv (by simp only [List.getElem?_toArray, List.getElem?_cons_succ, List.getElem?_cons_zero]; rfl) (by decide) (by kernel_rfl) (by kernel_rfl) ?hQ4 hS ?hy4 (fun inv => ?rest4)
      case hy4 =>
        refine yields_mk (by rfl) fun wy hy => ?_
        obtain ⟨y0, y1, y2⟩ := hy
        go_simp
        try with_reducible rfl
      case hQ4 => exact fun _ _ _ h => h
      simp only [Act.put, List.setIfInBounds_toArray, List.set_cons_zero, List.set_cons_succ]
      refine wpAnyT_take (i := 4) (v := ?v5) inv (by simp only [List.getElem?_toArray, List.getElem?_cons_succ, List.getElem?_cons_zero]; rfl) (by decide) (by kernel_rfl) (by kernel_rfl) ?hQ5 hS ?hy5 (fun inv => ?rest5)
      case hy5 =>
        refine yields_mk (by rfl) fun wy hy => ?_
        obtain ⟨y0, y1, y2⟩ := hy
        go_simp
        try with_reducible rfl
      case hQ5 => exact fun _ _ _ h => h
      simp only [Act.put, List.setIfInBounds_toArray, List.set_cons_zero, List.set_cons_succ]
      refine wpAnyT_take (i := 5) (v := ?v6) inv (by simp only [List.getElem?_toArray, List.getElem?_cons_succ, List.getElem?_cons_zero]; rfl) (by decide) (by kernel_rfl) (by kernel_rfl) ?hQ6 hS ?hy6 (fun inv => ?rest6)
      case hy6 =>
        refine yields_mk (by rfl) fun wy hy => ?_
        obtain ⟨y0, y1, y2⟩ := hy
        go_simp
        try with_reducible rfl
      case hQ6 => exact fun _ _ _ h => h
      simp only [Act.put, List.setIfInBounds_toArray, List.set_cons_zero, List.set_cons_succ]
      refine wpAnyT_take (i := 6) (v := ?v7) inv (by simp only [List.getElem?_toArray, List.getElem?_cons_succ, List.getElem?_cons_zero]; rfl) (by decide) (by kernel_rfl) (by kernel_rfl) ?hQ7 hS ?hy7 (fun inv => ?rest7)
      case hy7 =>
        refine yields_mk (by rfl) fun wy hy => ?_
        obtain ⟨y0, y1, y2⟩ := hy
        go_simp
        try with_reducible rfl
      case hQ7 => exact fun _ _ _ h => h
      simp only [Act.put, List.setIfInBounds_toArray, List.set_cons_zero, List.set_cons_succ]
      refine wpAnyT_take (i := 7) (v := ?v8) inv (by simp only [List.getElem?_toArray, List.getElem?_cons_succ, List.getElem?_cons_zero]; rfl) (by decide) (by kernel_rfl) (by kernel_rfl) ?hQ8 hS ?hy8 (fun inv => ?rest8)
      case hy8 =>
        refine yields_mk (by rfl) fun wy hy => ?_
        obtain ⟨y0, y1, y2⟩ := hy
        go_simp
        try with_reducible rfl
      case hQ8 => exact fun _ _ _ h => h
      simp only [Act.put, List.setIfInBounds_toArray, List.set_cons_zero, List.set_cons_succ]
      refine wpAnyT_take (i := 8) (v := ?v9) inv (by simp only [List.getElem?_toArray, List.getElem?_cons_succ, List.getElem?_cons_zero]; rfl) (by decide) (by kernel_rfl) (by kernel_rfl) ?hQ9 hS ?hy9 (fun inv => ?rest9)
      case hy9 =>
        refine yields_mk (by rfl) fun wy hy => ?_
        obtain ⟨y0, y1, y2⟩ := hy
        go_simp
        try with_reducible rfl
      case hQ9 => exact fun _ _ _ h => h
      simp only [Act.put, List.setIfInBounds_toArray, List.set_cons_zero, List.set_cons_succ]
      refine wpAnyT_take (i := 9) (v := ?v10) inv (by simp only [List.getElem?_toArray, List.getElem?_cons_succ, List.getElem?_cons_zero]; rfl) (by decide) (by kernel_rfl) (by kernel_rfl) ?hQ10 hS ?hy10 (fun inv => ?rest10)
      case hy10 =>
        refine yields_mk (by rfl) fun wy hy => ?_
        obtain ⟨y0, y1, y2⟩ := hy
        go_simp
        try with_reducible rfl
      case hQ10 => exact fun _ _ _ h => h
      simp only [Act.put, List.setIfInBounds_toArray, List.set_cons_zero, List.set_cons_succ]
      refine wpAnyT_take (i := 10) (v := ?v11) inv (by simp only [List.getElem?_toArray, List.getElem?_cons_succ, List.getElem?_cons_zero]; rfl) (by decide) (by kernel_rfl) (by kernel_rfl) ?hQ11 hS ?hy11 (fun inv => ?rest11)
      case hy11 =>
        refine yields_mk (by rfl) fun wy hy => ?_
        obtain ⟨y0, y1, y2⟩ := hy
        go_simp
        try with_reducible rfl
      case hQ11 => exact fun _ _ _ h => h
      simp only [Act.put, List.setIfInBounds_toArray, List.set_cons_zero, List.set_cons_succ]
      refine wpAnyT_take (i := 11) (v := ?v12) inv (by simp only [List.getElem?_toArray, List.getElem?_cons_succ, List.getElem?_cons_zero]; rfl) (by decide) (by kernel_rfl) (by kernel_rfl) ?hQ12 hS ?hy12 (fun inv => ?rest12)
      case hy12 =>
        refine yields_mk (by rfl) fun wy hy => ?_
        obtain ⟨y0, y1, y2⟩ := hy
        go_simp
        try with_reducible rfl
      case hQ12 => exact fun _ _ _ h => h
      simp only [Act.put, List.setIfInBounds_toArray, List.set_cons_zero, List.set_cons_succ]
      refine wpAnyT_take (i := 12) (v := ?v13) inv (by simp only [List.getElem?_toArray, List.getElem?_cons_succ, List.getElem?_cons_zero]; rfl) (by decide) (by kernel_rfl) (by kernel_rfl) ?hQ13 hS ?hy13 (fun inv => ?rest13)
      case hy13 =>
        refine yields_mk (by rfl) fun wy hy => ?_
        obtain ⟨y0, y1, y2⟩ := hy
        go_simp
        try with_reducible rfl
      case hQ13 => exact fun _ _ _ h => h
      simp only [Act.put, List.setIfInBounds_toArray, List.set_cons_zero, List.set_cons_succ]
      refine wpAnyT_take (i := 13) (v := ?v14) inv (by simp only [List.getElem?_toArray, List.getElem?_cons_succ, List.getElem?_cons_zero]; rfl) (by decide) (by kernel_rfl) (by kernel_rfl) ?hQ14 hS ?hy14 (fun inv => ?rest14)
      case hy14 =>
        refine yields_mk (by rfl) fun wy hy => ?_
        obtain ⟨y0, y1, y2⟩ := hy
        go_simp
        try with_reducible rfl
      case hQ14 => exact fun _ _ _ h => h
      simp only [Act.put, List.setIfInBounds_toArray, List.set_cons_zero, List.set_cons_succ]
      refine wpAnyT_take (i := 14) (v := ?v15) inv (by simp only [List.getElem?_toArray, List.getElem?_cons_succ, List.getElem?_cons_zero]; rfl) (by decide) (by kernel_rfl) (by kernel_rfl) ?hQ15 hS ?hy15 (fun inv => ?rest15)
      case hy15 =>
        refine yields_mk (by rfl) fun wy hy => ?_
        obtain ⟨y0, y1, y2⟩ := hy
        go_simp
        try with_reducible rfl
      case hQ15 => exact fun _ _ _ h => h
      simp only [Act.put, List.setIfInBounds_toArray, List.set_cons_zero, List.set_cons_succ]
      refine wpAnyT_take (i := 15) (v := ?v16) inv (by simp only [List.getElem?_toArray, List.getElem?_cons_succ, List.getElem?_cons_zero]; rfl) (by decide) (by kernel_rfl) (by kernel_rfl) ?hQ16 hS ?hy16 (fun inv => ?rest16)
      case hy16 =>
        refine yields_mk (by rfl) fun wy hy => ?_
        obtain ⟨y0, y1, y2⟩ := hy
        go_simp
        try with_reducible rfl
      case hQ16 => exact fun _ _ _ h => h
      simp only [Act.put, List.setIfInBounds_toArray, List.set_cons_zero, List.set_cons_succ]
      refine wpAnyT_take (i := 16) (v := ?v17) inv (by simp only [List.getElem?_toArray, List.getElem?_cons_succ, List.getElem?_cons_zero]; rfl) (by decide) (by kernel_rfl) (by kernel_rfl) ?hQ17 hS ?hy17 (fun inv => ?rest17)
      case hy17 =>
        refine yields_mk (by rfl) fun wy hy => ?_
        obtain ⟨y0, y1, y2⟩ := hy
        go_simp
        try with_reducible rfl
      case hQ17 => exact fun _ _ _ h => h
      simp only [Act.put, List.setIfInBounds_toArray, List.set_cons_zero, List.set_cons_succ]
      refine wpAnyT_one (i := 17) inv (by kernel_rfl) (by decide) (by simp only [List.getElem?_toArray, List.getElem?_cons_succ, List.getElem?_cons_zero]; rfl) fun K hK => ?_
      refine step_build (by rfl) _ 101 _ (by rfl) _ 3 24 Try.underlying98 infoPc (by omega) (by omega) [.int .i64 p.fr, .int .i64 p.to, .int .i64 p.v] rfl (by rfl) ?_
      have ow1 := hown.drew.alloc (.cells #[.int .i64 p.fr, .int .i64 p.to, .int .i64 p.v] 101)
      have kp1 := kp.drew.alloc (.cells #[.int .i64 p.fr, .int .i64 p.to, .int .i64 p.v] 101)
      have P1 := (hP'.out.kp kp1)
      obtain ⟨ad', had, c0', c1', c2'⟩ := P1.get (k := k) (p := p) HPL.out
      cases had
      refine hK _ _ ?_ (fun inv => ?_)
      · exact ⟨c0', c1', c2'⟩
      clear hK K hS
      try simp only [Act.put, List.setIfInBounds_toArray, List.set_cons_zero, List.set_cons_succ]
      refine wpAnyT_one (i := 18) inv (by kernel_rfl) (by decide) (by simp only [List.getElem?_toArray, List.getElem?_cons_succ, List.getElem?_cons_zero]; rfl) fun K hK => ?_
      refine step_append_sl _ (by rfl) _ _ _ (by rfl) w.heap.size 101 _ 3 24 Try.underlying98 infoPc rfl (by omega) B k d (cellsP (Value.int .i64) (l.take k)) (by rfl) ow1 Any _ 1 1 [.int .i64 p.fr, .int .i64 p.to, .int .i64 p.v] (by rfl) (Sl.new _ _ _ _ _ trivial rfl (by omega)) (by simp [Value.oneCell']) (by simp only [maxLen]; omega) (by omega) (by have := kp.size; simp; omega) ?_
      intro A4 c4 w4 hown4 hg4 hat4
      have kp4 : Kp w w4 := kp1.grown hg4 (fun g h => (ow1.lt g h).1)
      have P4 := (hP'.out.kp kp4)
      obtain ⟨ad', had, c0'', c1'', c2''⟩ := P4.get (k := k) (p := p) HPL.out
      cases had
      refine hK _ _ ?_ (fun inv => ?_)
      · exact ⟨c0'', c1'', c2''⟩
      clear hK K
      try simp only [Act.put, List.setIfInBounds_toArray, List.set_cons_zero, List.set_cons_succ]
      refine wpAnyT_last (by kernel_rfl) (by simp only [List.getElem?_toArray, List.getElem?_cons_succ, List.getElem?_cons_zero]; rfl) (by kernel_rfl) fun K hK => ?_
      go_simp
      refine hK _ _ ?_
      clear hK K
      refine NoPanic.normal ?_
      go_wp2_with fail
      go_roundg (n - (k + 1))
      case measure => omega
      case rel =>
        rw [← HTK.out] at hown4
        exact ⟨k + 1, A4, c4, by omega, by go_num, rfl, hown4, kp4⟩
    · have hkk : k = n := by omega
      subst hkk
      have hl : l.take k = l := List.take_of_length_le (by omega)
      rw [hl] at hown
      have hP2 : Pcs (Value.int .i64) wr B k d l := hown.sl.any
      have BU := Lib.hid (buildI size z B k d l wr hP2 HOK.out HWF.out HZ.out (by omega) hs0 hs)
      clear hl hP2
      go_wp2_with fail
      refine BU.out.mono ?_
      intro e w2 hret
      rcases hret with ⟨h1, rfl, k2⟩ | ⟨h1, tB, rfl, hT, k2⟩
      · go_wp2_with fail
        go_ret
        exact .inl ⟨h1, rfl, kp.trans k2⟩
      · go_wp2_with fail
        go_ret
        exact .inr ⟨h1, tB, rfl, hT, kp.trans k2⟩
end Go.Proofs.Ytakbfppmgngdiaa
