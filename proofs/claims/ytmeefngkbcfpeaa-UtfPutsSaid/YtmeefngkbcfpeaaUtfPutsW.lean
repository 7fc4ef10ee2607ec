/-
  typebarlaw01.UtfPuts: the walk: it returns true, and what was in memory stays. Conditions: the slice can be read.
-/
import Derived.Test.YtmeefngkbcfpeaaPutE
import Derived.Lib.QuietBelow
import Derived.BigQuiet
namespace Go.Proofs.Ytmeefngkbcfpeaa
open Go.RowKit

theorem valid_kp (r : Int) (w : World) : Calls Try.prog 23 #[.int .i32 r] w fun e w' => e = .returned (.bool (validB r)) ∧ Kp w w' :=
  (valid_any r w).mono fun _ _ ⟨he, hw⟩ => ⟨he, hw ▸ Kp.refl _⟩
theorem refValid_kp (r : Int) (w : World) : Calls Try.prog 24 #[.int .i32 r] w fun e w' => e = .returned (.bool (validB r)) ∧ Kp w w' :=
  (refValid_any r w).mono fun _ _ ⟨he, hw⟩ => ⟨he, hw ▸ Kp.refl _⟩
theorem size_kp (r : Int) (w : World) : Calls Try.prog 25 #[.int .i32 r] w fun e w' => e = .returned (.int .i64 (sizeM r)) ∧ Kp w w' :=
  (size_any r w).mono fun _ _ ⟨he, hw⟩ => ⟨he, hw ▸ Kp.refl _⟩

set_option maxRecDepth 100000 in
set_option maxHeartbeats 1600000 in
theorem utfPuts_walk {w0 : World} (B : Option Addr) (n d : Nat) (l : List Int) (hl0 : Sl w0 Any 1 B n d (l.map (Value.int .i32))) (_ : ∀ y ∈ l, (Lit.int .i32 y).wf = true) (w : World) (hw : w = w0 := by rfl) :
    Calls Try.prog 6 #[.slice B n d] w fun e w' => e = .returned (.bool true) ∧ Kp w w' := by
  subst hw
  have hl : Ru w Any B n d l := hl0
  clear hl0
  have hle := hl.le
  have hcap := hl.cap
  unfold maxLen at hcap
  obtain ⟨n', hn'⟩ : ∃ n', n' = min n 2000 := ⟨_, rfl⟩
  have hl1 := hl.take (k := n') (by omega)
  have hn2 : n' ≤ 2000 := by omega
  have hnn : n' ≤ n := by omega
  have HN := Lib.hid hn'
  clear hl hn'
  go_enter Try.func6, Try.ntmps6
  go_upto_if 6 with fail
  go_cut [0] (fun v wx => v = .slice B n' d ∧ wx = w)
  case first =>
    by_cases hb : 2000 < n
    · have h1 : Hid (n' = 2000) := by show _ = _; have := HN.out; omega
      go_wp2_with fail
      go_meet
      exact ⟨by rw [h1.out], rfl⟩
    · have h1 : Hid (n' = n) := by show _ = _; have := HN.out; omega
      go_wp2_with fail
      go_meet
      exact ⟨by rw [h1.out], rfl⟩
  case rest =>
    obtain ⟨hv, hwc⟩ := hcut
    subst hv
    subst hwc
    generalize l.take n' = l' at *
    have HLEN := Lib.hid hl1.len
    clear HN hnn hle
    have hle := hl1.le
    go_wp2_with fail
    go_loopg [3] n' (fun g i wr => ∃ (k : Nat), k + g = n' ∧ i = .int .i64 k ∧ Kp wc wr)
    case atStart => exact ⟨0, by omega, rfl, Kp.refl _⟩
    case round =>
      obtain ⟨k, hk, rfl, kw⟩ := hrel
      by_cases hlt : k < n'
      · obtain ⟨ad, rfl, hc⟩ := Ru.get (hl1.kp kw) hlt
        generalize l'[k]?.getD 0 = x at *
        have r0 := cell_regrown hc
        have i1 : (0 : Int) ≤ (k : Int) := by omega
        have i2 : (k : Int) < (n' : Int) := by omega
        have hsz : ((bs (putM x)).size : Int) = sizeM x := by rw [bs_size]; rfl
        have hs1 : (sizeM x == ((bs (putM x)).size : Int)) = true := by rw [hsz]; simp
        have hs2 : (sizeM x != ((bs (putM x)).size : Int)) = false := by rw [hsz]; simp
        clear hsz
        go_wp2_with fail
        refine wp_region_quiet_below (by kernel_rfl) (by kernel_rfl) ?_
        repeat (first | go_big_quiet_step (first | (go_at_call 21; exact Calls.regrown_of (put_any x _)) | (go_at_call 22; exact Calls.regrown_of (refPut_any x _)) | (go_at_call 23; exact Calls.regrown_of (valid_kp x _)) | (go_at_call 24; exact Calls.regrown_of (refValid_kp x _)) | (go_at_call 25; exact Calls.regrown_of (size_kp x _))))
        refine wpQuiet_nil ?_
        intro _ hw'
        obtain ⟨⟨dq, osq⟩, hw''⟩ := hw'
        subst hw''
        have kw4 := kw.trans (below_regrown wr dq osq)
        clear r0 hc kw
        generalize Go.Sort.grow (redrawn wr dq) osq = w4 at *
        go_wp2_with fail
        go_roundg (n' - (k + 1))
        case measure => omega
        case rel => exact ⟨k + 1, by omega, by go_num, kw4⟩
      · go_wp2_with fail
        refine (encode_any B n' d l' wr (hl1.kp kw) (by omega)).mono ?_
        rintro e w2 ⟨rfl, k2⟩
        have kw2 := kw.trans k2
        go_wp2_with fail
        refine (refEncode_any B n' d l' w2 (hl1.kp kw2) (by omega)).mono ?_
        rintro e w3 ⟨rfl, k3⟩
        have kw3 := kw2.trans k3
        clear kw k2 kw2 k3
        go_wp2_with fail
        refine (awake01 w3).mono ?_
        rintro e w4 ⟨rfl, k4⟩
        go_wp2_with fail
        go_ret
        exact ⟨rfl, kw3.trans k4⟩
end Go.Proofs.Ytmeefngkbcfpeaa
