/-
  package utf: first, Feed, End, Pending: what each returns, as the plain functions of UtfM; the memory that was there stays. Conditions: a byte from 0 to 255; a decoder that feeding can make.
-/
import Derived.Test.YtmeefngkbcfpeaaSame
import Derived.Test.YtmeefngkbcfpeaaWords2
import Derived.Test.YtmeefngkbcfpeaaUtfM
import Derived.WalkLawsBesides
import Derived.StillTailTactics
namespace Go.Proofs.Ytmeefngkbcfpeaa
open Go.RowKit

theorem info32 : (Try.prog.info? 21).map (fun i => (i.zero, i.size, i.bytes)) = some (some (.int .i32 0), 1, 4) := by kernel_rfl

theorem and_31 (b : Int) (h0 : 0 ≤ b) (h1 : b ≤ 255) : bits .and .u8 b 31 = b % 32 := by
  obtain ⟨n, rfl⟩ := Int.eq_ofNat_of_zero_le h0
  have h : ∀ k : Fin 256, bits .and .u8 ((k.val : Nat) : Int) 31 = ((k.val : Nat) : Int) % 32 := by decide +kernel
  exact h ⟨n, by omega⟩
theorem and_15 (b : Int) (h0 : 0 ≤ b) (h1 : b ≤ 255) : bits .and .u8 b 15 = b % 16 := by
  obtain ⟨n, rfl⟩ := Int.eq_ofNat_of_zero_le h0
  have h : ∀ k : Fin 256, bits .and .u8 ((k.val : Nat) : Int) 15 = ((k.val : Nat) : Int) % 16 := by decide +kernel
  exact h ⟨n, by omega⟩
theorem and_7 (b : Int) (h0 : 0 ≤ b) (h1 : b ≤ 255) : bits .and .u8 b 7 = b % 8 := by
  obtain ⟨n, rfl⟩ := Int.eq_ofNat_of_zero_le h0
  have h : ∀ k : Fin 256, bits .and .u8 ((k.val : Nat) : Int) 7 = ((k.val : Nat) : Int) % 8 := by decide +kernel
  exact h ⟨n, by omega⟩
theorem and_63 (b : Int) (h0 : 0 ≤ b) (h1 : b ≤ 255) : bits .and .u8 b 63 = b % 64 := by
  obtain ⟨n, rfl⟩ := Int.eq_ofNat_of_zero_le h0
  have h : ∀ k : Fin 256, bits .and .u8 ((k.val : Nat) : Int) 63 = ((k.val : Nat) : Int) % 64 := by decide +kernel
  exact h ⟨n, by omega⟩
theorem or_low (v r : Int) (hv0 : 0 ≤ v) (hv : v < 1048576) (hr0 : 0 ≤ r) (hr : r < 64) : bits .or .i32 (v * 64) r = v * 64 + r := by
  obtain ⟨a, rfl⟩ := Int.eq_ofNat_of_zero_le hv0
  obtain ⟨b, rfl⟩ := Int.eq_ofNat_of_zero_le hr0
  have hx : a * 64 ||| b = a * 64 + b := by
    have := Nat.two_pow_add_eq_or_of_lt (i := 6) (b := b) (by omega) a
    rw [Nat.mul_comm a 64]
    exact this.symm
  have e : ((a : Int) * 64) = ((a * 64 : Nat) : Int) := by omega
  rw [e]
  show IntKind.i32.wrap ((BitVec.ofInt 32 ((a * 64 : Nat) : Int) ||| BitVec.ofInt 32 (b : Int)).toNat : Int) = _
  rw [BitVec.toNat_or, BitVec.ofInt_natCast, BitVec.ofInt_natCast, BitVec.toNat_ofNat, BitVec.toNat_ofNat, Nat.mod_eq_of_lt (by omega), Nat.mod_eq_of_lt (by omega), hx, IntKind.wrap_i32]
  omega

/-- A decoder as a value. -/
def Dm.v (d : Dm) : Value := .agg #[.int .i64 d.need, .int .i64 d.has, .int .u8 d.low, .int .u8 d.high, .int .i32 d.val]
/-- A decoder and scalars come back. -/
def RetDec (r : Dm × List Int) (w : World) (e : Ending) (w' : World) : Prop := ∃ A n c, e = .returned (.tuple #[r.1.v, .slice A n c]) ∧ Ru w' (From w.heap.size) A n c r.2 ∧ Kp w w'

set_option maxHeartbeats 1600000 in
theorem first_any (b : Int) (h0 : 0 ≤ b) (h1 : b ≤ 255) (w : World) : Calls Try.prog 38 #[.int .u8 b] w (RetDec (firstM b) w) := by
  by_cases c1 : b < 128
  · have HE : Hid (firstM b = (Dm.zero, [b])) := by show _ = _; simp [firstM, c1]
    go_enter Try.func38, Try.ntmps38
    go_wp2
    refine bodyPost_ret (v := .tuple #[Dm.zero.v, .slice (some ⟨w.heap.size + 1 + 1, 0, none⟩) 1 1]) (by simp [results, Try.results38, go_sem, Dm.v, Dm.zero]) rfl ?_
    rw [HE.out]
    exact ⟨_, _, _, rfl, Ru.one_at _ _ _ (by simp) (by unfold From; omega) b _, (((Kp.refl _).alloc _).alloc _).alloc _⟩
  · by_cases c2 : b < 194 ∨ 244 < b
    · have HE : Hid (firstM b = (Dm.zero, [65533])) := by show _ = _; simp only [firstM, if_neg c1, if_pos c2]
      rcases c2 with c2 | c2
      all_goals
        go_enter Try.func38, Try.ntmps38
        go_wp2
        refine bodyPost_ret (v := .tuple #[Dm.zero.v, .slice (some ⟨w.heap.size + 1 + 1, 0, none⟩) 1 1]) (by simp [results, Try.results38, go_sem, Dm.v, Dm.zero]) rfl ?_
        rw [HE.out]
        exact ⟨_, _, _, rfl, Ru.one_at _ _ _ (by simp) (by unfold From; omega) 65533 _, (((Kp.refl _).alloc _).alloc _).alloc _⟩
    · rcases (show (194 ≤ b ∧ b ≤ 223) ∨ (b = 224) ∨ (225 ≤ b ∧ b ≤ 236) ∨ (b = 237) ∨ (238 ≤ b ∧ b ≤ 239) ∨ (b = 240) ∨ (241 ≤ b ∧ b ≤ 243) ∨ (b = 244) by omega) with c3 | c3 | c3 | c3 | c3 | c3 | c3 | c3
      · have HE : Hid (firstM b = (⟨1, 1, 128, 191, b % 32⟩, [])) := by
          show _ = _
          simp only [firstM, if_neg c1, if_neg c2]
          repeat' first | rw [if_pos (by omega)] | rw [if_neg (by omega)]
        have ha := and_31 b h0 h1
        have hb0 := Int.emod_nonneg b (show (32 : Int) ≠ 0 by omega)
        have hb1 := Int.emod_lt_of_pos b (show (0 : Int) < 32 by omega)
        obtain ⟨g1, g2⟩ := c3
        generalize b % 32 = r at *
        clear c1 c2
        go_enter Try.func38, Try.ntmps38
        go_wp2
        refine bodyPost_ret (v := .tuple #[(⟨1, 1, 128, 191, r⟩ : Dm).v, .slice none 0 0]) (by simp [results, Try.results38, go_sem, Dm.v]) rfl ?_
        rw [HE.out]
        exact ⟨_, _, _, rfl, Ru.nil _ _, ((Kp.refl _).alloc _).alloc _⟩
      · have HE : Hid (firstM b = (⟨2, 1, 160, 191, b % 16⟩, [])) := by
          show _ = _
          simp only [firstM, if_neg c1, if_neg c2]
          repeat' first | rw [if_pos (by omega)] | rw [if_neg (by omega)]
        have ha := and_15 b h0 h1
        have hb0 := Int.emod_nonneg b (show (16 : Int) ≠ 0 by omega)
        have hb1 := Int.emod_lt_of_pos b (show (0 : Int) < 16 by omega)
        have g1 : 224 ≤ b := by omega
        have g2 : b ≤ 224 := by omega
        clear c3
        generalize b % 16 = r at *
        clear c1 c2
        go_enter Try.func38, Try.ntmps38
        go_wp2
        refine bodyPost_ret (v := .tuple #[(⟨2, 1, 160, 191, r⟩ : Dm).v, .slice none 0 0]) (by simp [results, Try.results38, go_sem, Dm.v]) rfl ?_
        rw [HE.out]
        exact ⟨_, _, _, rfl, Ru.nil _ _, ((Kp.refl _).alloc _).alloc _⟩
      · have HE : Hid (firstM b = (⟨2, 1, 128, 191, b % 16⟩, [])) := by
          show _ = _
          simp only [firstM, if_neg c1, if_neg c2]
          repeat' first | rw [if_pos (by omega)] | rw [if_neg (by omega)]
        have ha := and_15 b h0 h1
        have hb0 := Int.emod_nonneg b (show (16 : Int) ≠ 0 by omega)
        have hb1 := Int.emod_lt_of_pos b (show (0 : Int) < 16 by omega)
        obtain ⟨g1, g2⟩ := c3
        generalize b % 16 = r at *
        clear c1 c2
        go_enter Try.func38, Try.ntmps38
        go_wp2
        refine bodyPost_ret (v := .tuple #[(⟨2, 1, 128, 191, r⟩ : Dm).v, .slice none 0 0]) (by simp [results, Try.results38, go_sem, Dm.v]) rfl ?_
        rw [HE.out]
        exact ⟨_, _, _, rfl, Ru.nil _ _, ((Kp.refl _).alloc _).alloc _⟩
      · have HE : Hid (firstM b = (⟨2, 1, 128, 159, b % 16⟩, [])) := by
          show _ = _
          simp only [firstM, if_neg c1, if_neg c2]
          repeat' first | rw [if_pos (by omega)] | rw [if_neg (by omega)]
        have ha := and_15 b h0 h1
        have hb0 := Int.emod_nonneg b (show (16 : Int) ≠ 0 by omega)
        have hb1 := Int.emod_lt_of_pos b (show (0 : Int) < 16 by omega)
        have g1 : 237 ≤ b := by omega
        have g2 : b ≤ 237 := by omega
        clear c3
        generalize b % 16 = r at *
        clear c1 c2
        go_enter Try.func38, Try.ntmps38
        go_wp2
        refine bodyPost_ret (v := .tuple #[(⟨2, 1, 128, 159, r⟩ : Dm).v, .slice none 0 0]) (by simp [results, Try.results38, go_sem, Dm.v]) rfl ?_
        rw [HE.out]
        exact ⟨_, _, _, rfl, Ru.nil _ _, ((Kp.refl _).alloc _).alloc _⟩
      · have HE : Hid (firstM b = (⟨2, 1, 128, 191, b % 16⟩, [])) := by
          show _ = _
          simp only [firstM, if_neg c1, if_neg c2]
          repeat' first | rw [if_pos (by omega)] | rw [if_neg (by omega)]
        have ha := and_15 b h0 h1
        have hb0 := Int.emod_nonneg b (show (16 : Int) ≠ 0 by omega)
        have hb1 := Int.emod_lt_of_pos b (show (0 : Int) < 16 by omega)
        obtain ⟨g1, g2⟩ := c3
        generalize b % 16 = r at *
        clear c1 c2
        go_enter Try.func38, Try.ntmps38
        go_wp2
        refine bodyPost_ret (v := .tuple #[(⟨2, 1, 128, 191, r⟩ : Dm).v, .slice none 0 0]) (by simp [results, Try.results38, go_sem, Dm.v]) rfl ?_
        rw [HE.out]
        exact ⟨_, _, _, rfl, Ru.nil _ _, ((Kp.refl _).alloc _).alloc _⟩
      · have HE : Hid (firstM b = (⟨3, 1, 144, 191, b % 8⟩, [])) := by
          show _ = _
          simp only [firstM, if_neg c1, if_neg c2]
          repeat' first | rw [if_pos (by omega)] | rw [if_neg (by omega)]
        have ha := and_7 b h0 h1
        have hb0 := Int.emod_nonneg b (show (8 : Int) ≠ 0 by omega)
        have hb1 := Int.emod_lt_of_pos b (show (0 : Int) < 8 by omega)
        have g1 : 240 ≤ b := by omega
        have g2 : b ≤ 240 := by omega
        clear c3
        generalize b % 8 = r at *
        clear c1 c2
        go_enter Try.func38, Try.ntmps38
        go_wp2
        refine bodyPost_ret (v := .tuple #[(⟨3, 1, 144, 191, r⟩ : Dm).v, .slice none 0 0]) (by simp [results, Try.results38, go_sem, Dm.v]) rfl ?_
        rw [HE.out]
        exact ⟨_, _, _, rfl, Ru.nil _ _, ((Kp.refl _).alloc _).alloc _⟩
      · have HE : Hid (firstM b = (⟨3, 1, 128, 191, b % 8⟩, [])) := by
          show _ = _
          simp only [firstM, if_neg c1, if_neg c2]
          repeat' first | rw [if_pos (by omega)] | rw [if_neg (by omega)]
        have ha := and_7 b h0 h1
        have hb0 := Int.emod_nonneg b (show (8 : Int) ≠ 0 by omega)
        have hb1 := Int.emod_lt_of_pos b (show (0 : Int) < 8 by omega)
        obtain ⟨g1, g2⟩ := c3
        generalize b % 8 = r at *
        clear c1 c2
        go_enter Try.func38, Try.ntmps38
        go_wp2
        refine bodyPost_ret (v := .tuple #[(⟨3, 1, 128, 191, r⟩ : Dm).v, .slice none 0 0]) (by simp [results, Try.results38, go_sem, Dm.v]) rfl ?_
        rw [HE.out]
        exact ⟨_, _, _, rfl, Ru.nil _ _, ((Kp.refl _).alloc _).alloc _⟩
      · have HE : Hid (firstM b = (⟨3, 1, 128, 143, b % 8⟩, [])) := by
          show _ = _
          simp only [firstM, if_neg c1, if_neg c2]
          repeat' first | rw [if_pos (by omega)] | rw [if_neg (by omega)]
        have ha := and_7 b h0 h1
        have hb0 := Int.emod_nonneg b (show (8 : Int) ≠ 0 by omega)
        have hb1 := Int.emod_lt_of_pos b (show (0 : Int) < 8 by omega)
        have g1 : 244 ≤ b := by omega
        have g2 : b ≤ 244 := by omega
        clear c3
        generalize b % 8 = r at *
        clear c1 c2
        go_enter Try.func38, Try.ntmps38
        go_wp2
        refine bodyPost_ret (v := .tuple #[(⟨3, 1, 128, 143, r⟩ : Dm).v, .slice none 0 0]) (by simp [results, Try.results38, go_sem, Dm.v]) rfl ?_
        rw [HE.out]
        exact ⟨_, _, _, rfl, Ru.nil _ _, ((Kp.refl _).alloc _).alloc _⟩
end Go.Proofs.Ytmeefngkbcfpeaa
