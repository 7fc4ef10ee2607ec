/-
  TrieNone, the walk; a trie or nil: Build, Len, Blocks, Get. Conditions: none.
-/
import Derived.Test.YtakbfppmgngdiaaTriePi
import Derived.Test.YtakbfppmgngdiaaTrieBw
namespace Go.Proofs.Ytakbfppmgngdiaa
open Go.RowKit

theorem blocks_o {w : World} {p : Option Addr} {size : Int} {f : Int → Int} (h : TrO w p size f) : Calls Try.prog 45 #[.pointer p] w fun e w' => e = .returned (.int .i64 ((blocksM f size (wideM size)).length : Int)) ∧ Kp w w' := by
  rcases h with ⟨rfl, rfl⟩ | ⟨tB, rfl, h⟩
  · exact blocks_nil w
  · exact blocks_t tB size f w h
theorem get_o {w : World} {p : Option Addr} {size : Int} {f : Int → Int} (i : Int) (h : TrO w p size f) : Calls Try.prog 43 #[.pointer p, .int .i64 i] w fun e w' => e = .returned (.int .i64 (if 0 ≤ i ∧ i < size then f i else 0)) ∧ Kp w w' := by
  rcases h with ⟨rfl, rfl⟩ | ⟨tB, rfl, h⟩
  · rw [if_neg (by omega)]
    exact getNilI i w
  · exact getI tB size f i w h
theorem ret_o {w w' : World} {size : Int} {f : Int → Int} {e : Ending} (h0 : 0 ≤ size) (h : RetBuildI w size f e w') : ∃ p, e = .returned (.pointer p) ∧ TrO w' p size f ∧ Kp w w' := by
  rcases h with ⟨h1, rfl, k⟩ | ⟨h1, tB, rfl, hT, k⟩
  · exact ⟨none, rfl, .inl ⟨rfl, by omega⟩, k⟩
  · exact ⟨_, rfl, .inr ⟨tB, rfl, hT⟩, k⟩

theorem Cov.none {f : Int → Int} {l : List (Pc Int)} (h : Cov f 0 0 l 0) : l = [] := by
  cases l with
  | nil => rfl
  | cons p l => have := h.2.1; have := h.2.2.1; omega

set_option maxRecDepth 100000 in
set_option maxHeartbeats 1600000 in
theorem trieNone_tail (x : Int) (h1 : x < 1) (h0 : -9223372036854775808 ≤ x) (w : World) :
    Calls Try.prog 52 #[.int .i64 x, .int .i64 7, .slice none 0 0] w fun e w' => e = .returned (.pointer none) ∧ Kp w w' := by
  refine (buildI x 7 none 0 0 [] w (Sl.nil _ _ _) (by intro p hp; cases hp) (by intro p hp; cases hp) (wfI64 (by omega) (by omega)) (by omega) h0 (by omega)).mono ?_
  rintro e w' (⟨_, rfl, k⟩ | ⟨h2, _⟩)
  · exact ⟨rfl, k⟩
  · omega

theorem pieces_nil (w : World) : Calls Try.prog 51 #[.pointer none] w fun e w' => ∃ A c, e = .returned (.slice A 0 c) ∧ Kp w w' :=
  (pieces_o none 0 (fun _ => 0) w (.inl ⟨rfl, rfl⟩) (by omega)).mono fun e w' h => by
    obtain ⟨A, n, c, l, rfl, hP, hC, k⟩ := h
    have hl := Cov.none hC
    subst hl
    have hn := hP.len
    have hn : n = 0 := hn.symm
    subst hn
    exact ⟨A, c, rfl, k⟩

set_option maxRecDepth 100000 in
set_option maxHeartbeats 1600000 in
theorem trieNone_walk (x0 : Int) (wf0 : (Lit.int .i64 x0).wf = true) (x1 : Int) (_ : (Lit.int .i64 x1).wf = true) (w : World) :
    Calls Try.prog 14 #[.int .i64 x0, .int .i64 x1] w fun e w' => e = .returned (.bool true) ∧ Kp w w' := by
  have h0 := wf64 wf0
  clear wf0
  by_cases hp : 0 < x0
  · have hw : IntKind.i64.wrap (-x0) = -x0 := wrapS (by omega) (by omega)
    have HB := Lib.hid (trieNone_tail (-x0) (by omega) (by omega) w)
    go_enter Try.func14, Try.ntmps14
    go_wp2_with (first
      | (go_at_call 52; refine HB.out.mono ?_; rintro e w2 ⟨rfl, k2⟩)
      | (go_at_call 41; refine (len_nil _).mono ?_; rintro e w3 ⟨rfl, k3⟩)
      | (go_at_call 45; refine (blocks_nil _).mono ?_; rintro e w4 ⟨rfl, k4⟩)
      | (go_at_call 43; refine (getNilI _ _).mono ?_; rintro e w5 ⟨rfl, k5⟩)
      | (go_at_call 51; refine (pieces_nil _).mono ?_; rintro e w6 ⟨A6, c6, rfl, k6⟩)
      | (go_at_call 44; refine (awake03 _).mono ?_; rintro e w7 ⟨rfl, k7⟩))
    go_ret
    exact ⟨rfl, ((((k2.trans k3).trans k4).trans k5).trans k6).trans k7⟩
  · have HB := Lib.hid (trieNone_tail x0 (by omega) (by omega) w)
    go_enter Try.func14, Try.ntmps14
    go_wp2_with (first
      | (go_at_call 52; refine HB.out.mono ?_; rintro e w2 ⟨rfl, k2⟩)
      | (go_at_call 41; refine (len_nil _).mono ?_; rintro e w3 ⟨rfl, k3⟩)
      | (go_at_call 45; refine (blocks_nil _).mono ?_; rintro e w4 ⟨rfl, k4⟩)
      | (go_at_call 43; refine (getNilI _ _).mono ?_; rintro e w5 ⟨rfl, k5⟩)
      | (go_at_call 51; refine (pieces_nil _).mono ?_; rintro e w6 ⟨A6, c6, rfl, k6⟩)
      | (go_at_call 44; refine (awake03 _).mono ?_; rintro e w7 ⟨rfl, k7⟩))
    go_ret
    exact ⟨rfl, ((((k2.trans k3).trans k4).trans k5).trans k6).trans k7⟩
end Go.Proofs.Ytakbfppmgngdiaa
