/-
  package utf: Valid, Size; typebarref01.Valid, Put. No conditions.
-/
import Derived.Test.YtmeefngkbcfpeaaPutM
import Derived.Test.YtmeefngkbcfpeaaStr
import Derived.Test.YtmeefngkbcfpeaaUtfA
import Derived.IntWalk
namespace Go.Proofs.Ytmeefngkbcfpeaa
open Go.RowKit

theorem five (r : Int) : (r < 0 ∧ validB r = false) ∨ (0 ≤ r ∧ r < 55296 ∧ validB r = true) ∨ (55296 ≤ r ∧ r ≤ 57343 ∧ validB r = false) ∨ (57343 < r ∧ r ≤ 1114111 ∧ validB r = true) ∨ (1114111 < r ∧ validB r = false) := by
  rw [validB_iff, validB_no]
  omega
set_option maxHeartbeats 800000 in
theorem valid_any (r : Int) (w : World) : Calls Try.prog 23 #[.int .i32 r] w fun e w' => e = .returned (.bool (validB r)) ∧ w = w' := by
  rcases five r with ⟨h1, h2⟩ | ⟨h1, h3, h2⟩ | ⟨h1, h3, h2⟩ | ⟨h1, h3, h2⟩ | ⟨h1, h2⟩
  all_goals
    rw [h2]
    clear h2
    go_enter Try.func23, Try.ntmps23
    go_wp2
    go_ret
    refine ⟨?_, rfl⟩
    first | rfl | (simp; omega)
set_option maxHeartbeats 800000 in
theorem refValid_any (r : Int) (w : World) : Calls Try.prog 24 #[.int .i32 r] w fun e w' => e = .returned (.bool (validB r)) ∧ w = w' := by
  rcases five r with ⟨h1, h2⟩ | ⟨h1, h3, h2⟩ | ⟨h1, h3, h2⟩ | ⟨h1, h3, h2⟩ | ⟨h1, h2⟩
  all_goals
    rw [h2]
    clear h2
    go_enter Try.func24, Try.ntmps24
    go_wp2
    go_ret
    refine ⟨?_, rfl⟩
    first | rfl | (simp; omega)
def sizeM (r : Int) : Int := (putM r).length
theorem sizeM_no {r : Int} (h : validB r = false) : sizeM r = 3 := by unfold sizeM putM fixM; rw [h]; rfl
theorem sizeM_yes {r : Int} (h : validB r = true) : (r < 128 → sizeM r = 1) ∧ (128 ≤ r → r < 2048 → sizeM r = 2) ∧ (2048 ≤ r → r < 65536 → sizeM r = 3) ∧ (65536 ≤ r → sizeM r = 4) := by
  unfold sizeM
  rw [put_of h]
  unfold putI
  refine ⟨fun h1 => ?_, fun h1 h2 => ?_, fun h1 h2 => ?_, fun h1 => ?_⟩
  · rw [if_pos h1]; rfl
  · rw [if_neg (by omega), if_pos h2]; rfl
  · rw [if_neg (by omega), if_neg (by omega), if_pos h2]; rfl
  · rw [if_neg (by omega), if_neg (by omega), if_neg (by omega)]; rfl
set_option maxHeartbeats 800000 in
theorem size_any (r : Int) (w : World) : Calls Try.prog 25 #[.int .i32 r] w fun e w' => e = .returned (.int .i64 (sizeM r)) ∧ w = w' := by
  have hv := valid_any r w
  cases hb : validB r with
  | false =>
    rw [hb] at hv
    have HV := Lib.hid hv
    rw [sizeM_no hb]
    clear hv hb
    go_enter Try.func25, Try.ntmps25
    go_wp2_with (refine HV.out.mono ?_; rintro e w' ⟨rfl, rfl⟩)
    go_ret
    exact ⟨rfl, rfl⟩
  | true =>
    rw [hb] at hv
    have HV := Lib.hid hv
    obtain ⟨s1, s2, s3, s4⟩ := sizeM_yes hb
    clear hv hb
    by_cases h1 : r < 128
    · rw [s1 h1]
      clear s1 s2 s3 s4
      go_enter Try.func25, Try.ntmps25
      go_wp2_with (refine HV.out.mono ?_; rintro e w' ⟨rfl, rfl⟩)
      go_ret
      exact ⟨rfl, rfl⟩
    · by_cases h2 : r < 2048
      · rw [s2 (by omega) h2]
        clear s1 s2 s3 s4
        go_enter Try.func25, Try.ntmps25
        go_wp2_with (refine HV.out.mono ?_; rintro e w' ⟨rfl, rfl⟩)
        go_ret
        exact ⟨rfl, rfl⟩
      · by_cases h3 : r < 65536
        · rw [s3 (by omega) h3]
          clear s1 s2 s3 s4
          go_enter Try.func25, Try.ntmps25
          go_wp2_with (refine HV.out.mono ?_; rintro e w' ⟨rfl, rfl⟩)
          go_ret
          exact ⟨rfl, rfl⟩
        · rw [s4 (by omega)]
          clear s1 s2 s3 s4
          go_enter Try.func25, Try.ntmps25
          go_wp2_with (refine HV.out.mono ?_; rintro e w' ⟨rfl, rfl⟩)
          go_ret
          exact ⟨rfl, rfl⟩
set_option maxRecDepth 100000 in
set_option maxHeartbeats 1600000 in
theorem refPut_any (r : Int) (w : World) : Calls Try.prog 22 #[.int .i32 r] w fun e w' => e = .returned (.string (bs (putM r))) ∧ Kp w w' := by
  have hv := refValid_any r w
  cases hb : validB r with
  | false =>
    rw [hb] at hv
    have HV := Lib.hid hv
    have HP : Hid (putM r = [239, 191, 189]) := by unfold putM fixM; rw [hb]; rfl
    clear hv hb
    have hcv := conv_sl (P := Try.prog) (w.alloc (.cells #[.int .u8 239, .int .u8 191, .int .u8 189] 5)) 60 9 5 Try.underlying60 Try.underlying5 Try.underlying9 (l := [239, 191, 189])
      (Sl.new (F := Any) w #[.int .u8 239, .int .u8 191, .int .u8 189] 5 1 3 trivial rfl (by omega)) (by intro b hb; simp at hb; omega)
    go_enter Try.func22, Try.ntmps22
    go_wp2_with (refine HV.out.mono ?_; rintro e w' ⟨rfl, rfl⟩)
    go_ret
    exact ⟨by rw [HP.out]; rfl, (Kp.refl w).alloc _⟩
  | true =>
    rw [hb] at hv
    have HV := Lib.hid hv
    have HB := Lib.hid hb
    have hrg := (validB_iff r).1 hb
    clear hv hb
    by_cases h1 : r < 128
    · have HP : Hid (putM r = [r]) := by show _ = _; rw [put_of HB.out]; unfold putI; rw [if_pos h1]
      have h0 : 0 ≤ r ∧ r ≤ 1114111 := by omega
      obtain ⟨h0, h9⟩ := h0
      clear hrg
      have hcv := conv_sl (P := Try.prog) (w.alloc (.cells #[.int .u8 (r)] 5)) 60 9 5 Try.underlying60 Try.underlying5 Try.underlying9 (l := [r])
        (Sl.new (F := Any) w #[.int .u8 (r)] 5 1 1 trivial rfl (by omega)) (by intro b hb; simp at hb; omega)
      go_enter Try.func22, Try.ntmps22
      go_wp2_with (refine HV.out.mono ?_; rintro e w' ⟨rfl, rfl⟩)
      go_ret
      exact ⟨by rw [HP.out]; rfl, (Kp.refl w).alloc _⟩
    · by_cases h2 : r < 2048
      · have HP : Hid (putM r = [192 + r / 64, 128 + r % 64]) := by show _ = _; rw [put_of HB.out]; unfold putI; rw [if_neg h1, if_pos h2]
        have h0 : 0 ≤ r ∧ r ≤ 1114111 := by omega
        obtain ⟨h0, h9⟩ := h0
        clear hrg
        have hcv := conv_sl (P := Try.prog) (w.alloc (.cells #[.int .u8 (192 + r / 64), .int .u8 (128 + r % 64)] 5)) 60 9 5 Try.underlying60 Try.underlying5 Try.underlying9 (l := [192 + r / 64, 128 + r % 64])
          (Sl.new (F := Any) w #[.int .u8 (192 + r / 64), .int .u8 (128 + r % 64)] 5 1 2 trivial rfl (by omega)) (by intro b hb; simp at hb; omega)
        go_enter Try.func22, Try.ntmps22
        go_wp2_with (refine HV.out.mono ?_; rintro e w' ⟨rfl, rfl⟩)
        go_ret
        exact ⟨by rw [HP.out]; rfl, (Kp.refl w).alloc _⟩
      · by_cases h3 : r < 65536
        · have HP : Hid (putM r = [224 + r / 4096, 128 + r / 64 % 64, 128 + r % 64]) := by show _ = _; rw [put_of HB.out]; unfold putI; rw [if_neg h1, if_neg h2, if_pos h3]
          have h0 : 0 ≤ r ∧ r ≤ 1114111 := by omega
          obtain ⟨h0, h9⟩ := h0
          clear hrg
          have hcv := conv_sl (P := Try.prog) (w.alloc (.cells #[.int .u8 (224 + r / 4096), .int .u8 (128 + r / 64 % 64), .int .u8 (128 + r % 64)] 5)) 60 9 5 Try.underlying60 Try.underlying5 Try.underlying9 (l := [224 + r / 4096, 128 + r / 64 % 64, 128 + r % 64])
            (Sl.new (F := Any) w #[.int .u8 (224 + r / 4096), .int .u8 (128 + r / 64 % 64), .int .u8 (128 + r % 64)] 5 1 3 trivial rfl (by omega)) (by intro b hb; simp at hb; omega)
          go_enter Try.func22, Try.ntmps22
          go_wp2_with (refine HV.out.mono ?_; rintro e w' ⟨rfl, rfl⟩)
          go_ret
          exact ⟨by rw [HP.out]; rfl, (Kp.refl w).alloc _⟩
        · have HP : Hid (putM r = [240 + r / 262144, 128 + r / 4096 % 64, 128 + r / 64 % 64, 128 + r % 64]) := by show _ = _; rw [put_of HB.out]; unfold putI; rw [if_neg h1, if_neg h2, if_neg h3]
          have h0 : 0 ≤ r ∧ r ≤ 1114111 := by omega
          obtain ⟨h0, h9⟩ := h0
          clear hrg
          have hcv := conv_sl (P := Try.prog) (w.alloc (.cells #[.int .u8 (240 + r / 262144), .int .u8 (128 + r / 4096 % 64), .int .u8 (128 + r / 64 % 64), .int .u8 (128 + r % 64)] 5)) 60 9 5 Try.underlying60 Try.underlying5 Try.underlying9 (l := [240 + r / 262144, 128 + r / 4096 % 64, 128 + r / 64 % 64, 128 + r % 64])
            (Sl.new (F := Any) w #[.int .u8 (240 + r / 262144), .int .u8 (128 + r / 4096 % 64), .int .u8 (128 + r / 64 % 64), .int .u8 (128 + r % 64)] 5 1 4 trivial rfl (by omega)) (by intro b hb; simp at hb; omega)
          go_enter Try.func22, Try.ntmps22
          go_wp2_with (refine HV.out.mono ?_; rintro e w' ⟨rfl, rfl⟩)
          go_ret
          exact ⟨by rw [HP.out]; rfl, (Kp.refl w).alloc _⟩
end Go.Proofs.Ytmeefngkbcfpeaa
