/-
  package store and typebarref47: the check of a text. Conditions: not more than 2^30 bytes.
-/
import Derived.Test.YtcbachblhfkcoaaSt1
namespace Go.Proofs.Ytcbachblhfkcoaa
open Go.RowKit

theorem by8_bs {l : List Int} (h : isB l) : by8 (bs l) = l := by
  unfold by8 bs
  simp only [List.map_map]
  apply List.ext_getElem
  · simp
  · intro i h1 h2
    rw [List.getElem_map]
    exact u8of_toNat (h _ (List.getElem_mem h2))
theorem bs_by8 (s : ByteArray) : bs (by8 s) = s := by
  obtain ⟨⟨d⟩⟩ := s
  unfold by8 bs
  simp only [List.map_map]
  congr 2
  have : ∀ l : List UInt8, l.map (u8of ∘ fun b => (b.toNat : Int)) = l := fun l => by
    induction l with
    | nil => rfl
    | cons x t ih => rw [List.map_cons, ih]; congr 1; simp [u8of]
  exact this d
/-- The check's number, its two digits. -/
def chkM (l : List Int) : Int := l.foldl (fun n b => (31 * n + b) % 256) 7
def hexD (i : Int) : Int := if i < 10 then 48 + i else 87 + i
def chk2 (l : List Int) : List Int := [hexD (chkM l / 16), hexD (chkM l % 16)]
theorem chkM_range (l : List Int) : 0 ≤ chkM l ∧ chkM l ≤ 255 := by
  unfold chkM
  have : ∀ (l : List Int) (n : Int), 0 ≤ n → n ≤ 255 → 0 ≤ l.foldl (fun n b => (31 * n + b) % 256) n ∧ l.foldl (fun n b => (31 * n + b) % 256) n ≤ 255 := by
    intro l
    induction l with
    | nil => intro n h0 h1; exact ⟨h0, h1⟩
    | cons b t ih => intro n _ _; exact ih ((31 * n + b) % 256) (by omega) (by omega)
  exact this l 7 (by omega) (by omega)
theorem chkM_take {l : List Int} {k : Nat} {x : Int} (h : l[k]? = some x) : chkM (l.take (k + 1)) = (31 * chkM (l.take k) + x) % 256 := by
  obtain ⟨hk, hx⟩ := List.getElem?_eq_some_iff.1 h
  rw [List.take_succ_eq_append_getElem hk, hx]
  simp [chkM]
theorem chk2_bd (l : List Int) : isB (chk2 l) := by
  have h := chkM_range l
  intro b hb
  simp [chk2, hexD] at hb
  rcases hb with rfl | rfl <;> split <;> omega
def hexS : ByteArray := ⟨#[48, 49, 50, 51, 52, 53, 54, 55, 56, 57, 97, 98, 99, 100, 101, 102]⟩
theorem hex_one : ∀ i : Fin 16, hexS.extract i.1 (i.1 + 1) = bs [hexD (i.1 : Int)] := by decide +kernel
theorem hex_two (l : List Int) : hexS.extract (chkM l / 16).toNat (chkM l / 16 + 1).toNat ++ hexS.extract (chkM l % 16).toNat (chkM l % 16 + 1).toNat = bs (chk2 l) := by
  have h := chkM_range l
  obtain ⟨a, ha⟩ := Int.eq_ofNat_of_zero_le (show 0 ≤ chkM l / 16 by omega)
  obtain ⟨b, hb⟩ := Int.eq_ofNat_of_zero_le (show 0 ≤ chkM l % 16 by omega)
  rw [show (chkM l / 16).toNat = a by omega, show (chkM l / 16 + 1).toNat = a + 1 by omega, show (chkM l % 16).toNat = b by omega, show (chkM l % 16 + 1).toNat = b + 1 by omega]
  have h1 := hex_one ⟨a, by omega⟩
  have h2 := hex_one ⟨b, by omega⟩
  rw [h1, h2, ← bs_app]
  unfold chk2
  rw [ha, hb]
  rfl

set_option maxRecDepth 100000 in
set_option maxHeartbeats 1600000 in
theorem check_any (s : ByteArray) (hs : s.size ≤ 1073741824) (w : World) : Calls Try.prog 51 #[.string s] w fun e w' => e = .returned (.string (bs (chk2 (by8 s)))) ∧ Dr w w' := by
  have hlen := by8_length s
  have HL := Lib.hid hlen
  clear hlen
  go_enter Try.func51, Try.ntmps51
  go_wp2_with fail
  go_loopg [3, 7] s.size (fun g v i wr => ∃ (k : Nat), k + g = s.size ∧ i = .int .i64 k ∧ v = .int .i64 (chkM ((by8 s).take k)) ∧ Dr w wr)
  case atStart => exact ⟨0, by omega, rfl, rfl, Dr.refl _⟩
  case round =>
    obtain ⟨k, hk, rfl, rfl, kw⟩ := hrel
    by_cases hlt : k < s.size
    · obtain ⟨x, hx⟩ : ∃ x, (by8 s)[k]? = some x := ⟨(by8 s)[k]'(by rw [HL.out]; exact hlt), List.getElem?_eq_getElem _⟩
      have HT := Lib.hid (chkM_take hx)
      obtain ⟨n0, n1⟩ := chkM_range ((by8 s).take k)
      have hxb := by8_bound s k
      rw [hx, Option.getD_some] at hxb
      obtain ⟨x0, x1⟩ := hxb
      have hrix := run_index_str (P := Try.prog) wr 9 s .i64 k k Try.underlying9 rfl hlt x (by rw [hx]; rfl)
      generalize chkM ((by8 s).take k) = n at *
      clear hx
      go_wp2_with fail
      go_roundg (s.size - (k + 1))
      case measure => omega
      case rel => exact ⟨k + 1, by omega, by go_num, by rw [HT.out, Int.mul_comm], kw⟩
    · obtain rfl : k = s.size := by omega
      rw [List.take_of_length_le (by rw [HL.out]; omega)]
      obtain ⟨n0, n1⟩ := chkM_range (by8 s)
      have HX := Lib.hid (hex_two (by8 s))
      generalize chkM (by8 s) = n at *
      go_wp2_with fail
      go_quiet (fail)
      go_wp2_with fail
      go_ret
      exact ⟨congrArg (fun x => Ending.returned (Value.string x)) HX.out, kw.drewN _⟩

set_option maxRecDepth 100000 in
set_option maxHeartbeats 1600000 in
theorem checkR_any (s : ByteArray) (hs : s.size ≤ 1073741824) (w : World) : Calls Try.prog 53 #[.string s] w fun e w' => e = .returned (.string (bs (chk2 (by8 s)))) ∧ Dr w w' := by
  have hlen := by8_length s
  have HL := Lib.hid hlen
  clear hlen
  go_enter Try.func53, Try.ntmps53
  go_wp2_with fail
  go_loopg [3, 4] s.size (fun g v i wr => ∃ (k : Nat), k + g = s.size ∧ i = .int .i64 k ∧ v = .int .i64 (chkM ((by8 s).take k)) ∧ Dr w wr)
  case atStart => exact ⟨0, by omega, rfl, rfl, Dr.refl _⟩
  case round =>
    obtain ⟨k, hk, rfl, rfl, kw⟩ := hrel
    by_cases hlt : k < s.size
    · obtain ⟨x, hx⟩ : ∃ x, (by8 s)[k]? = some x := ⟨(by8 s)[k]'(by rw [HL.out]; exact hlt), List.getElem?_eq_getElem _⟩
      have HT := Lib.hid (chkM_take hx)
      obtain ⟨n0, n1⟩ := chkM_range ((by8 s).take k)
      have hxb := by8_bound s k
      rw [hx, Option.getD_some] at hxb
      obtain ⟨x0, x1⟩ := hxb
      have hrix := run_index_str (P := Try.prog) wr 9 s .i64 k k Try.underlying9 rfl hlt x (by rw [hx]; rfl)
      generalize chkM ((by8 s).take k) = n at *
      clear hx
      go_wp2_with fail
      go_roundg (s.size - (k + 1))
      case measure => omega
      case rel => exact ⟨k + 1, by omega, by go_num, by rw [HT.out], kw⟩
    · obtain rfl : k = s.size := by omega
      rw [List.take_of_length_le (by rw [HL.out]; omega)]
      obtain ⟨n0, n1⟩ := chkM_range (by8 s)
      have HX := Lib.hid (hex_two (by8 s))
      generalize chkM (by8 s) = n at *
      go_wp2_with fail
      go_quiet (fail)
      go_wp2_with fail
      go_ret
      exact ⟨congrArg (fun x => Ending.returned (Value.string x)) HX.out, kw.drewN _⟩

/-- A line's entry. -/
def entryM (l : List Int) : List Int := chk2 (textM l) ++ [32] ++ textM l ++ [10]
theorem entryM_bd (l : List Int) : isB (entryM l) :=
  isB_app (isB_app (isB_app (chk2_bd _) (by intro b hb; simp at hb; omega)) (textM_bd l)) (by intro b hb; simp at hb; omega)
theorem entryM_len (l : List Int) : (entryM l).length = (textM l).length + 4 := by simp [entryM, chk2]
theorem bsB : bs [32] = ⟨#[32]⟩ := rfl
theorem bsL : bs [10] = ⟨#[10]⟩ := rfl

set_option maxRecDepth 100000 in
set_option maxHeartbeats 1600000 in
theorem entry_any (F : Nat → Prop) (A : Option Addr) (n c : Nat) (l : List Int) (w : World) (hl : Ru w F A n c l) (hn : n ≤ 100000) : Calls Try.prog 28 #[.slice A n c] w fun e w' => e = .returned (.string (bs (entryM l))) ∧ Kp w w' := by
  have HE := Lib.hid (escaped_any F A n c l w hl (by omega))
  have hts : (bs (textM l)).size ≤ 1000000 := by rw [bs_size]; have := textM_len l; have := hl.len; omega
  have HC := Lib.hid fun wx => check_any (bs (textM l)) (by omega) wx
  rw [by8_bs (textM_bd l)] at HC
  have HF : Hid (bs (entryM l) = bs (chk2 (textM l)) ++ ⟨#[32]⟩ ++ bs (textM l) ++ ⟨#[10]⟩) := by show _ = _; unfold entryM; rw [bs_app, bs_app, bs_app, bsB, bsL]
  have hcs : (bs (chk2 (textM l))).size ≤ 2 := by rw [bs_size]; simp [chk2]
  clear hl
  generalize bs (chk2 (textM l)) = s1 at *
  generalize bs (textM l) = s2 at *
  go_enter Try.func28, Try.ntmps28
  go_wp2_with (first
    | (go_at_call 50; refine HE.out.mono ?_; rintro e w2 ⟨rfl, k2⟩)
    | (go_at_call 51; refine (HC.out _).mono ?_; rintro e w3 ⟨rfl, k3⟩))
  go_ret
  rw [HF.out]
  exact ⟨rfl, k2.trans k3.kp⟩

set_option maxRecDepth 100000 in
set_option maxHeartbeats 1600000 in
theorem entryR_any (F : Nat → Prop) (A : Option Addr) (n c : Nat) (l : List Int) (w : World) (hl : Ru w F A n c l) (hn : n ≤ 100000) : Calls Try.prog 29 #[.slice A n c] w fun e w' => e = .returned (.string (bs (entryM l))) ∧ Kp w w' := by
  have HE := Lib.hid (text_any F A n c l w hl (by omega))
  have hts : (bs (textM l)).size ≤ 1000000 := by rw [bs_size]; have := textM_len l; have := hl.len; omega
  have HC := Lib.hid fun wx => checkR_any (bs (textM l)) (by omega) wx
  rw [by8_bs (textM_bd l)] at HC
  have HF : Hid (bs (entryM l) = bs (chk2 (textM l)) ++ ⟨#[32]⟩ ++ bs (textM l) ++ ⟨#[10]⟩) := by show _ = _; unfold entryM; rw [bs_app, bs_app, bs_app, bsB, bsL]
  have hcs : (bs (chk2 (textM l))).size ≤ 2 := by rw [bs_size]; simp [chk2]
  clear hl
  generalize bs (chk2 (textM l)) = s1 at *
  generalize bs (textM l) = s2 at *
  go_enter Try.func29, Try.ntmps29
  go_wp2_with (first
    | (go_at_call 52; refine HE.out.mono ?_; rintro e w2 ⟨rfl, k2⟩)
    | (go_at_call 53; refine (HC.out _).mono ?_; rintro e w3 ⟨rfl, k3⟩))
  go_ret
  rw [HF.out]
  exact ⟨rfl, k2.trans k3.kp⟩

set_option maxRecDepth 100000 in
set_option maxHeartbeats 1600000 in
/-- Append: a line more, or what was there. -/
theorem append_any (F : Nat → Prop) (A : Option Addr) (n c : Nat) (l : List Int) (s : ByteArray) (w : World) (hl : Ru w F A n c l) (hn : n ≤ 100000) (hs : s.size ≤ 1073741824) (hfit : s.size + (entryM l).length ≤ 1048576) :
    Calls Try.prog 27 #[.string s, .slice A n c] w fun e w' => e = .returned (.tuple #[.string (s ++ bs (entryM l)), .int .i64 0]) ∧ Kp w w' := by
  have HE := Lib.hid (entry_any F A n c l w hl hn)
  have hz : (bs (entryM l)).size = (entryM l).length := bs_size _
  generalize bs (entryM l) = s2 at *
  have hz2 : s2.size ≤ 1000000 := by rw [hz, entryM_len]; have := textM_len l; have := hl.len; omega
  have hg : decide ((1048576 : Int) - (s2.size : Int) < (s.size : Int)) = false := decide_eq_false (by omega)
  clear hl hfit hz
  go_enter Try.func27, Try.ntmps27
  go_wp2_with (go_at_call 28; refine HE.out.mono ?_; rintro e w2 ⟨rfl, k2⟩)
  go_ret2
  exact ⟨rfl, k2⟩
end Go.Proofs.Ytcbachblhfkcoaa
