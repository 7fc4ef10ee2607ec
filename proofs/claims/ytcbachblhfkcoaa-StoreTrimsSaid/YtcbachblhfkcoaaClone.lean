/-
  slices.Clone at []rune and at [][]rune: a fresh slice of the same cells (nil stays nil). slices.Equal at []rune. No conditions but that the slices can be read and hold fewer than 2^40 elements.
-/
import Derived.Test.YtcbachblhfkcoaaSame
import Derived.WalkSpells
namespace Go.Proofs.Ytcbachblhfkcoaa
open Go.RowKit

theorem info32 : (Try.prog.info? 21).map (fun i => (i.zero, i.size, i.bytes)) = some (some (.int .i32 0), 1, 4) := by kernel_rfl
theorem infoRu : (Try.prog.info? 23).map (fun i => (i.zero, i.size, i.bytes)) = some (some (.slice none 0 0), 1, 24) := by kernel_rfl

/-- A fresh slice of one-cell elements comes back. -/
def RetSl (t : TypeId) (vs : List Value) (w : World) (e : Ending) (w' : World) : Prop := ∃ A n c, e = .returned (.slice A n c) ∧ Own w' w.heap.size t 1 A n c vs ∧ Kp w w'
def RetRu (xs : List Int) (w : World) (e : Ending) (w' : World) : Prop := ∃ A n c, e = .returned (.slice A n c) ∧ Ru w' (From w.heap.size) A n c xs ∧ Kp w w'

set_option maxHeartbeats 400000 in
theorem clone32_sl (F : Nat → Prop) (A : Option Addr) (n c : Nat) (vs : List Value) (w : World) (h : Sl w F 1 A n c vs) (h1 : ∀ u ∈ vs, u.oneCell' = true) (hn : n ≤ 1099511627776) :
    Calls Try.prog 44 #[.slice A n c] w (RetSl 21 vs w) := by
  have heq := fun (wx : World) (a : Option Addr) (l d : Nat) => Lib.run_eql_slice_nil (P := Try.prog) wx 23 21 a l d 0 0 Try.underlying23
  have hcap := h.cap
  rcases A with _ | ad
  · have h0 : n = 0 := by
      rcases Nat.eq_zero_or_pos n with h0 | h0
      · exact h0
      · obtain ⟨ad, e, _⟩ := h.at_ h0
        cases e
    have hv : vs = [] := List.eq_nil_of_length_eq_zero (by rw [h.len, h0])
    subst hv
    subst h0
    go_enter Try.func44, Try.ntmps44
    go_wp2
    go_ret
    exact ⟨none, 0, 0, rfl, Own.nil _ _ _ _, Kp.refl _⟩
  · have H1 := Lib.hid h1
    clear h1
    go_enter Try.func44, Try.ntmps44
    go_wp2_with (at_builtin; refine wpList_append_sl _ rfl _ _ _ rfl w.heap.size 21 _ 1 4 Try.underlying23 info32 rfl (by omega) (some ⟨w.heap.size, 0, none⟩) 0 0 [] rfl (World.ownsRow_made _ _ _ (Nat.le_refl _) (by simp [maxLen]) rfl) F (some ad) n c vs rfl (h.alloc _) H1.out (by simp only [maxLen]; omega) (by omega) (by simp) ?_; intro A' c' w1 hown hg hat)
    go_wp2
    go_ret
    have hk : Kp w w1 := ((Kp.refl w).alloc _).grown hg (by simp [rowOf])
    exact ⟨A', 0 + n, c', by simp, by simpa using hown, hk⟩
set_option maxHeartbeats 400000 in
theorem cloneTx_sl (F : Nat → Prop) (A : Option Addr) (n c : Nat) (vs : List Value) (w : World) (h : Sl w F 1 A n c vs) (h1 : ∀ u ∈ vs, u.oneCell' = true) (hn : n ≤ 1099511627776) :
    Calls Try.prog 43 #[.slice A n c] w (RetSl 23 vs w) := by
  have heq := fun (wx : World) (a : Option Addr) (l d : Nat) => Lib.run_eql_slice_nil (P := Try.prog) wx 22 23 a l d 0 0 Try.underlying22
  have hcap := h.cap
  rcases A with _ | ad
  · have h0 : n = 0 := by
      rcases Nat.eq_zero_or_pos n with h0 | h0
      · exact h0
      · obtain ⟨ad, e, _⟩ := h.at_ h0
        cases e
    have hv : vs = [] := List.eq_nil_of_length_eq_zero (by rw [h.len, h0])
    subst hv
    subst h0
    go_enter Try.func43, Try.ntmps43
    go_wp2
    go_ret
    exact ⟨none, 0, 0, rfl, Own.nil _ _ _ _, Kp.refl _⟩
  · have H1 := Lib.hid h1
    clear h1
    go_enter Try.func43, Try.ntmps43
    go_wp2_with (at_builtin; refine wpList_append_sl _ rfl _ _ _ rfl w.heap.size 23 _ 1 24 Try.underlying22 infoRu rfl (by omega) (some ⟨w.heap.size, 0, none⟩) 0 0 [] rfl (World.ownsRow_made _ _ _ (Nat.le_refl _) (by simp [maxLen]) rfl) F (some ad) n c vs rfl (h.alloc _) H1.out (by simp only [maxLen]; omega) (by omega) (by simp) ?_; intro A' c' w1 hown hg hat)
    go_wp2
    go_ret
    have hk : Kp w w1 := ((Kp.refl w).alloc _).grown hg (by simp [rowOf])
    exact ⟨A', 0 + n, c', by simp, by simpa using hown, hk⟩

theorem clone32_any (F : Nat → Prop) (A : Option Addr) (n c : Nat) (xs : List Int) (w : World) (h : Ru w F A n c xs) (hn : n ≤ 1099511627776) :
    Calls Try.prog 44 #[.slice A n c] w (RetRu xs w) :=
  (clone32_sl F A n c (R32 xs) w h (R32_one xs) hn).mono fun _ _ ⟨A', n', c', he, ho, hk⟩ => ⟨A', n', c', he, ho.sl, hk⟩

set_option maxHeartbeats 400000 in
theorem equal_any (F G : Nat → Prop) (A B : Option Addr) (n c m d : Nat) (xs ys : List Int) (w : World) (ha : Ru w F A n c xs) (hb : Ru w G B m d ys) :
    Calls Try.prog 42 #[.slice A n c, .slice B m d] w fun e w' => e = .returned (.bool (sameB xs ys)) ∧ Dr w w' := by
  have hxl := ha.len
  have hyl := hb.len
  have hcx := ha.cap
  have hlx := ha.le
  have hcy := hb.cap
  have hly := hb.le
  unfold maxLen at hcx hcy
  have HX := Lib.hid hxl
  have HY := Lib.hid hyl
  clear hxl hyl
  by_cases hnm : n = m
  · subst hnm
    go_enter Try.func42, Try.ntmps42
    go_wp2
    go_loopw [13] (fun i wr => ∃ k : Nat, k ≤ n ∧ i = .int .i64 k ∧ Dr w wr ∧ Hid (xs.take k = ys.take k)) (fun i _ => n - (intOf i).toNat)
    case atStart => exact ⟨0, Nat.zero_le _, rfl, Dr.refl _, rfl⟩
    case round =>
      obtain ⟨k, hk, rfl, hdr, htk⟩ := hrel
      by_cases hlt : k < n
      · obtain ⟨ad, rfl, hc1⟩ := (ha.kp hdr.kp).get hlt
        obtain ⟨bd, rfl, hc2⟩ := (hb.kp hdr.kp).get hlt
        by_cases hxy : xs[k]?.getD 0 = ys[k]?.getD 0
        · have HT : Hid (xs.take (k + 1) = ys.take (k + 1)) := take_eq_of (by rw [HX.out]; exact hlt) (by rw [HY.out]; exact hlt) htk.out hxy
          generalize xs[k]?.getD 0 = u at *
          generalize ys[k]?.getD 0 = v at *
          subst hxy
          go_wp2
          go_quiet (fail)
          go_wp2
          go_roundw
          case rel => exact ⟨k + 1, by omega, by go_num, hdr.drewN _, HT⟩
          case measure => simp [intOf]; omega
        · have hB : (xs[k]?.getD 0 != ys[k]?.getD 0) = true := by rw [bne_iff_ne]; exact hxy
          have HN := Lib.hid (sameB_no (ne_of_get hxy))
          generalize xs[k]?.getD 0 = u at *
          generalize ys[k]?.getD 0 = v at *
          go_wp2
          go_quiet (fail)
          go_wp2
          go_ret
          exact ⟨ret_bool HN.out.symm, hdr.drewN _⟩
      · have HE : Hid (sameB xs ys = true) := (sameB_iff _ _).2 (by
          have h := htk.out
          rwa [List.take_of_length_le (by rw [HX.out]; omega), List.take_of_length_le (by rw [HY.out]; omega)] at h)
        go_wp2
        go_ret
        exact ⟨ret_bool HE.out.symm, hdr⟩
  · have HN : Hid (sameB xs ys = false) := sameB_no (by rintro rfl; exact hnm (HX.out.symm.trans HY.out))
    have hB : ((n : Int) != (m : Int)) = true := by rw [bne_iff_ne]; omega
    go_enter Try.func42, Try.ntmps42
    go_wp2
    go_ret
    exact ⟨ret_bool HN.out.symm, Dr.refl _⟩

end Go.Proofs.Ytcbachblhfkcoaa
