/-
  Keys in memory; a parser as a value; package keys: control, letter, named, Waits. Conditions: a byte from 0 to 255.
-/
import Derived.Test.YtmeefngkbcfpeaaUtfF
import Derived.Test.YtmeefngkbcfpeaaKeM
namespace Go.Proofs.Ytmeefngkbcfpeaa
open Go.RowKit

/-- The cells of keys without a text. -/
def K4 (ks : List Ky) : List Value := ks.flatMap fun k => [.int .i64 k.kind, .int .i32 k.rune, .bool k.met, .slice none 0 0]
theorem K4_length (ks : List Ky) : (K4 ks).length = 4 * ks.length := by
  induction ks with
  | nil => rfl
  | cons k ks ih => simp [K4] at ih ⊢; omega
theorem K4_append (a b : List Ky) : K4 (a ++ b) = K4 a ++ K4 b := by simp [K4]
theorem K4_one (ks : List Ky) : ∀ u ∈ K4 ks, u.oneCell' = true := by
  intro u hu
  unfold K4 at hu
  obtain ⟨k, _, hk⟩ := List.mem_flatMap.1 hu
  simp at hk
  rcases hk with rfl | rfl | rfl | rfl <;> rfl
/-- Bytes. -/
def bs8 (l : List Int) : ByteArray := ⟨(l.map fun b => UInt8.ofNat b.toNat).toArray⟩
/-- The cells of a parser. -/
def Pm.cells (p : Pm) : Array Value := #[.int .i64 p.inn, .bool p.met, .int .i64 p.d.need, .int .i64 p.d.has, .int .u8 p.d.low, .int .u8 p.d.high, .int .i32 p.d.val, .string (bs8 p.pend)]
/-- A parser as a value. -/
def Pm.v (p : Pm) : Value := .agg p.cells
/-- Keys without a text come back, in a row of the call's own. -/
def RetKs (ks : List Ky) (w : World) (e : Ending) (w' : World) : Prop := ∃ A n c, e = .returned (.slice A n c) ∧ Own w' w.heap.size 57 4 A n c (K4 ks) ∧ Kp w w'
/-- A parser comes back, and keys without a text. -/
def RetPk (r : Pm × List Ky) (w : World) (e : Ending) (w' : World) : Prop := ∃ A n c, e = .returned (.tuple #[r.1.v, .slice A n c]) ∧ Own w' w.heap.size 57 4 A n c (K4 r.2) ∧ Kp w w'

theorem control_any (b : Int) (w : World) : Calls Try.prog 41 #[.int .u8 b] w fun e w' => e = .returned (.bool (ctlM b)) ∧ w' = w := by
  by_cases h1 : b < 32
  · have HE : Hid (ctlM b = true) := by show _ = _; simp [ctlM, h1]
    go_enter Try.func41, Try.ntmps41
    go_wp2
    go_ret
    exact ⟨by rw [HE.out]; rfl, rfl⟩
  · by_cases h2 : b = 127
    · subst h2
      have HE : Hid (ctlM 127 = true) := by show _ = _; rfl
      clear h1
      go_enter Try.func41, Try.ntmps41
      go_wp2
      go_ret
      exact ⟨by rw [HE.out]; rfl, rfl⟩
    · have HE : Hid (ctlM b = false) := by show _ = _; simp [ctlM, h1, h2]
      have hb : (b == 127) = false := by simpa using h2
      clear h2
      go_enter Try.func41, Try.ntmps41
      go_wp2
      go_ret
      exact ⟨by rw [HE.out]; rfl, rfl⟩

theorem letter_any (b : Int) (w : World) : Calls Try.prog 44 #[.int .u8 b] w fun e w' => e = .returned (.int .i32 (letterM b)) ∧ w' = w := by
  by_cases h : b = 65 ∨ b = 66 ∨ b = 67 ∨ b = 68 ∨ b = 72 ∨ b = 70
  · rcases h with rfl | rfl | rfl | rfl | rfl | rfl
    all_goals
      go_enter Try.func44, Try.ntmps44
      go_wp2
      go_ret
      exact ⟨rfl, rfl⟩
  · have HE : Hid (letterM b = 0) := by show _ = _; unfold letterM; rw [if_neg (by omega), if_neg (by omega), if_neg (by omega), if_neg (by omega), if_neg (by omega), if_neg (by omega)]
    have h1 : (b == 65) = false := by simp; omega
    have h2 : (b == 66) = false := by simp; omega
    have h3 : (b == 67) = false := by simp; omega
    have h4 : (b == 68) = false := by simp; omega
    have h5 : (b == 72) = false := by simp; omega
    have h6 : (b == 70) = false := by simp; omega
    clear h
    go_enter Try.func44, Try.ntmps44
    go_wp2
    go_ret
    exact ⟨by rw [HE.out]; rfl, rfl⟩

theorem named_any (r : Int) (w : World) : Calls Try.prog 43 #[.int .i32 r] w (RetKs [nameM r] w) := by
  by_cases h : r = 0
  · have HE : Hid (nameM r = ⟨5, 0, false, []⟩) := by show _ = _; unfold nameM; rw [if_pos h]
    have hb : (r == 0) = true := by simpa using h
    clear h
    go_enter Try.func43, Try.ntmps43
    go_wp2
    go_ret
    rw [HE.out]
    exact ⟨_, 1, 1, rfl, Own.new_ w #[.int .i64 5, .int .i32 0, .bool false, .slice none 0 0] _ 4 1 _ _ rfl (Nat.le_refl _) rfl (by omega), (Kp.refl _).alloc _⟩
  · have HE : Hid (nameM r = ⟨3, r, false, []⟩) := by show _ = _; unfold nameM; rw [if_neg h]
    have hb : (r == 0) = false := by simpa using h
    clear h
    go_enter Try.func43, Try.ntmps43
    go_wp2
    go_ret
    rw [HE.out]
    exact ⟨_, 1, 1, rfl, Own.new_ w #[.int .i64 3, .int .i32 r, .bool false, .slice none 0 0] _ 4 1 _ _ rfl (Nat.le_refl _) rfl (by omega), (Kp.refl _).alloc _⟩

theorem waits_any' (p : Pm) (w : World) : Calls Try.prog 33 #[p.v] w fun e w' => e = .returned (.bool (waitsP p)) ∧ Kp w w' := by
  obtain ⟨i, met, d, pend⟩ := p
  obtain ⟨need, has, low, high, val⟩ := d
  have hp := fun wx => pending_any ⟨need, has, low, high, val⟩ wx
  dsimp only [Dm.v] at hp
  have HP := Lib.hid hp
  clear hp
  show Calls _ _ #[.agg #[.int .i64 i, .bool met, .int .i64 need, .int .i64 has, .int .u8 low, .int .u8 high, .int .i32 val, .string (bs8 pend)]] _ _
  generalize bs8 pend = s at *
  by_cases h : i = 0
  · subst h
    have HE : Hid (waitsP ⟨0, met, ⟨need, has, low, high, val⟩, pend⟩ = decide (0 < has)) := by show _ = _; simp [waitsP]
    go_enter Try.func33, Try.ntmps33
    go_wp2_with (go_at_call 19; refine (HP.out _).mono ?_; rintro e w2 ⟨rfl, k2⟩)
    go_ret
    exact ⟨by rw [HE.out]; rfl, ((Kp.refl _).alloc _).trans k2⟩
  · have HE : Hid (waitsP ⟨i, met, ⟨need, has, low, high, val⟩, pend⟩ = true) := by show _ = _; simp [waitsP, h]
    have hb : (i != 0) = true := by simpa using h
    clear h
    go_enter Try.func33, Try.ntmps33
    go_wp2_with fail
    go_ret
    exact ⟨by rw [HE.out]; rfl, (Kp.refl _).alloc _⟩
end Go.Proofs.Ytmeefngkbcfpeaa
