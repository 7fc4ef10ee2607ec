/-
  package keys: broken. No conditions.
-/
import Derived.Test.YtmeefngkbcfpeaaKeH
import Derived.Test.YtmeefngkbcfpeaaUtfD
namespace Go.Proofs.Ytmeefngkbcfpeaa
open Go.RowKit

theorem infoKey : (Try.prog.info? 57).map (fun i => (i.zero, i.size, i.bytes)) = some (some (.agg #[.int .i64 0, .int .i32 0, .bool false, .slice none 0 0]), 4, 40) := by kernel_rfl
theorem endM_len (d : Dm) : (endM d).length ≤ 1 := by unfold endM; split <;> simp
/-- The keys of scalars, all with the same Meta. -/
def sameK (l : List Int) (met : Bool) : List Ky := l.map fun r => ⟨1, r, met, []⟩
theorem sameK_chars {l : List Int} (h : l.length ≤ 1) (met : Bool) : sameK l met = charsM l met := by
  match l, h with
  | [], _ => rfl
  | [_], _ => rfl
theorem sameK_snoc {l : List Int} {k : Nat} (hk : k < l.length) (met : Bool) : K4 (sameK (l.take (k + 1)) met) = K4 (sameK (l.take k) met) ++ [.int .i64 1, .int .i32 (l[k]?.getD 0), .bool met, .slice none 0 0] := by
  rw [take_succ_getD _ _ hk]
  simp [sameK, K4]
theorem Bx.eight {w : World} {b : Nat} {t : TypeId} {x0 x1 x2 x3 x4 x5 x6 x7 : Value} (h : Bx w b #[x0, x1, x2, x3, x4, x5, x6, x7] t) :
    (w.cell? ⟨b, 0, none⟩ = some x0 ∧ w.cell? ⟨b, 1, none⟩ = some x1 ∧ w.cell? ⟨b, 2, none⟩ = some x2 ∧ w.cell? ⟨b, 3, none⟩ = some x3 ∧ w.cell? ⟨b, 4, none⟩ = some x4 ∧ w.cell? ⟨b, 5, none⟩ = some x5 ∧ w.cell? ⟨b, 6, none⟩ = some x6 ∧ w.cell? ⟨b, 7, none⟩ = some x7) ∧
    (w.frozen? ⟨b, 0, none⟩ = false ∧ w.frozen? ⟨b, 1, none⟩ = false ∧ w.frozen? ⟨b, 2, none⟩ = false ∧ w.frozen? ⟨b, 3, none⟩ = false ∧ w.frozen? ⟨b, 4, none⟩ = false ∧ w.frozen? ⟨b, 5, none⟩ = false ∧ w.frozen? ⟨b, 6, none⟩ = false ∧ w.frozen? ⟨b, 7, none⟩ = false) :=
  ⟨⟨h.cell 0, h.cell 1, h.cell 2, h.cell 3, h.cell 4, h.cell 5, h.cell 6, h.cell 7⟩, h.frozen 0, h.frozen 1, h.frozen 2, h.frozen 3, h.frozen 4, h.frozen 5, h.frozen 6, h.frozen 7⟩

set_option maxRecDepth 100000 in
set_option maxHeartbeats 1600000 in
theorem broken_any (p : Pm) (w : World) : Calls Try.prog 53 #[p.v] w (RetKs (brokenM p) w) := by
  obtain ⟨i, met, d, pend⟩ := p
  have hend := endM_len d
  have HB : Hid (brokenM ⟨i, met, d, pend⟩ = sameK (endM d) met) := by show _ = _; unfold brokenM; rw [sameK_chars hend]
  have hEN := fun wx => end_any d wx
  obtain ⟨need, has, low, high, val⟩ := d
  dsimp only [Dm.v] at hEN
  have HEN := Lib.hid hEN
  obtain ⟨l, hl⟩ : ∃ l, l = endM ⟨need, has, low, high, val⟩ := ⟨_, rfl⟩
  rw [← hl] at HEN HB hend
  clear hEN hl
  show Calls _ _ #[.agg #[.int .i64 i, .bool met, .int .i64 need, .int .i64 has, .int .u8 low, .int .u8 high, .int .i32 val, .string (bs8 pend)]] _ _
  rw [HB.out]
  generalize bs8 pend = s at *
  clear HB
  go_enter Try.func53, Try.ntmps53
  go_wp2_with fail
  have bx0 := Bx.new w #[.int .i64 i, .bool met, .int .i64 need, .int .i64 has, .int .u8 low, .int .u8 high, .int .i32 val, .string s] 42
  refine (HEN.out _).mono ?_
  rintro e w2 ⟨A2, n2, c2, rfl, hr2, k2⟩
  have bx2 := bx0.kp k2
  have kw2 := ((Kp.refl w).alloc (.cells #[.int .i64 i, .bool met, .int .i64 need, .int .i64 has, .int .u8 low, .int .u8 high, .int .i32 val, .string s] 42)).trans k2
  have hn2 : n2 ≤ 1 := by have := hr2.len; omega
  have HL := Lib.hid hr2.len
  have hle2 := hr2.le
  have hc2 := hr2.cap
  have hz2 := kw2.size
  unfold maxLen at hc2
  clear k2 bx0 hend HEN
  go_wp2_with fail
  go_loopg [3, 10] n2 (fun g ov iv wr => ∃ (k : Nat) (A3 : Option Addr) (c3 : Nat), k + g = n2 ∧ iv = .int .i64 k ∧ ov = .slice A3 k c3 ∧ Own wr w2.heap.size 57 4 A3 k c3 (K4 (sameK (l.take k) met)) ∧ Kp w2 wr)
  case atStart => exact ⟨0, none, 0, by omega, rfl, rfl, Own.nil _ _ _ _, Kp.refl _⟩
  case round =>
    obtain ⟨k, A3, c3, hk, rfl, rfl, ho, kw⟩ := hrel
    by_cases hlt : k < n2
    · obtain ⟨ad, rfl, hc⟩ := Ru.get (hr2.kp kw) hlt
      have hts := sameK_snoc (l := l) (k := k) (by rw [HL.out]; exact hlt) met
      have HTS := Lib.hid hts
      obtain ⟨⟨_, p1, _⟩, _⟩ := (bx2.kp kw).eight
      have hzr := kw.size
      generalize l[k]?.getD 0 = x at *
      clear hts
      go_wp2_with (at_builtin; refine wpList_append_sl _ rfl (.tmp 14) (.tmp 19) _ rfl w2.heap.size 57 _ 4 40 Try.underlying46 infoKey rfl (by omega) A3 k c3 (K4 (sameK (l.take k) met)) rfl (ho.alloc _) Any _ 1 1 [.int .i64 1, .int .i32 x, .bool met, .slice none 0 0] rfl (Sl.new _ _ _ _ _ trivial rfl (by omega)) (by simp [Value.oneCell']) (by simp only [maxLen]; omega) (by omega) (by first | omega | (simp; omega)) ?_; intro A4 c4 w4 hown4 hg4 hat4)
      have ka := (Kp.refl wr).alloc (.cells #[.int .i64 1, .int .i32 x, .bool met, .slice none 0 0] 57)
      go_roundg (n2 - (k + 1))
      case measure => omega
      case rel => exact ⟨k + 1, A4, c4, by omega, by go_num, rfl, by rw [HTS.out]; exact hown4, (kw.trans ka).grown hg4 fun g e => (ho.lt g e).1⟩
    · obtain rfl : k = n2 := by omega
      have hta : l.take k = l := List.take_of_length_le (by rw [HL.out]; omega)
      rw [hta] at ho
      clear hta
      go_wp2_with fail
      go_ret
      exact ⟨A3, k, c3, rfl, ho.more (by omega), kw2.trans kw⟩
end Go.Proofs.Ytmeefngkbcfpeaa
