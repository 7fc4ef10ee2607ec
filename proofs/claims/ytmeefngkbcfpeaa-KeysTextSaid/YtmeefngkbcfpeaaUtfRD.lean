/-
  typebarref01: Decode, Waits: what each returns, as the plain functions of UtfRM. Conditions: not more than 2^30 bytes.
-/
import Derived.Test.YtmeefngkbcfpeaaUtfV
import Derived.Lib.Strings
namespace Go.Proofs.Ytmeefngkbcfpeaa
open Go.RowKit

theorem by8_extract (s : ByteArray) (a b : Nat) : by8 (s.extract a b) = ((by8 s).drop a).take (b - a) := by
  simp only [by8, Lib.extract_data]
  simp [List.map_take, List.map_drop]
theorem by8_from (s : ByteArray) (a : Nat) : by8 (s.extract a s.size) = (by8 s).drop a := by
  rw [by8_extract, List.take_of_length_le (by simp [by8_length])]

set_option maxHeartbeats 3200000 in
theorem refDecode_any (s : ByteArray) (hs : s.size ≤ 1073741824) (w : World) : Calls Try.prog 15 #[.string s] w (RetRu (decR (by8 s)) w) := by
  have hlen := by8_length s
  have HL := Lib.hid hlen
  clear hlen
  go_enter Try.func15, Try.ntmps15
  go_wp2_with fail
  go_loopg [3, 4] s.size (fun g out i wr => ∃ (k : Nat) (A : Option Addr) (m c : Nat) (xs : List Int), k + g = s.size ∧ i = .int .i64 k ∧ out = .slice A m c ∧ Own wr w.heap.size 21 1 A m c (R32 xs) ∧ m ≤ k ∧ Kp w wr ∧ Hid (decR (by8 s) = xs ++ decR ((by8 s).drop k)))
  case atStart => exact ⟨0, none, 0, 0, [], by omega, rfl, rfl, Own.nil _ _ _ _, by omega, Kp.refl _, rfl⟩
  case round =>
    obtain ⟨k, A, m, c, xs, hk, rfl, rfl, hown, hmk, hkp, hd⟩ := hrel
    by_cases hlt : k < s.size
    · have hne : (by8 s).drop k ≠ [] := by
        intro h
        have := congrArg List.length h
        rw [List.length_drop, HL.out] at this
        simp at this
        omega
      have hrn := rowN_le ((by8 s).drop k)
      rw [List.length_drop, HL.out] at hrn
      obtain ⟨hr1, hr2⟩ := hrn
      have hde : s.size - k ≤ 1073741824 := by omega
      have hdc := decR_cons _ hne
      obtain ⟨n, hn⟩ : ∃ n, n = rowN ((by8 s).drop k) := ⟨_, rfl⟩
      obtain ⟨wh, hwh⟩ : ∃ wh, wh = rowW ((by8 s).drop k) := ⟨_, rfl⟩
      have hwn : wh = true → 0 < n := by
        rw [hwh, hn, rowW]
        intro h
        simp at h
        exact h.1
      have hval : by8 (s.extract k (k + n)) = ((by8 s).drop k).take n := by rw [by8_extract]; congr 1; omega
      rw [← hn, ← hwh, List.drop_drop] at hdc
      rw [← hn] at hr1 hr2
      have hsz1 : (s.extract k s.size).size ≤ 1073741824 := by rw [ByteArray.size_extract]; omega
      have HROW : Hid (rowN (by8 (s.extract k s.size)) = n ∧ rowW (by8 (s.extract k s.size)) = wh) := by show _ ∧ _; rw [by8_from]; exact ⟨hn.symm, hwh.symm⟩
      have HD2 : Hid (decR (by8 s) = xs ++ ((if wh = true then valueM (by8 (s.extract k (k + n))) else 65533) :: decR ((by8 s).drop (k + if n = 0 then 1 else n)))) := by show _ = _; rw [hd.out, hdc, hval]
      have hwn' := Lib.hid hwn
      have hmb : m ≤ 1073741824 := by omega
      clear hn hwh hdc hne hwn hval hd
      cases wh with
      | true =>
        have hn0 : 0 < n := hwn'.out rfl
        go_wp2_with fail
        refine (row_any (s.extract k s.size) hsz1 wr).mono ?_
        rintro e w1 ⟨rfl, hd1⟩
        rw [HROW.out.1, HROW.out.2]
        have hown1 := hown.kp hd1.kp
        have hkp1 := hkp.trans hd1.kp
        clear hown hkp hd1
        go_wp2_with fail
        have hes : (s.extract k (k + n)).size = n := by rw [ByteArray.size_extract]; omega
        refine (value_any (s.extract k (k + n)) (by rw [hes]; omega) (by rw [hes]; omega) w1).mono ?_
        rintro e w' ⟨rfl, rfl⟩
        have hnb : ((n : Int) == 0) = false := by simp; omega
        obtain ⟨v, hv⟩ : ∃ v, v = valueM (by8 (s.extract k (k + n))) := ⟨_, rfl⟩
        rw [← hv]
        have HD3 : Hid (decR (by8 s) = (xs ++ [v]) ++ decR ((by8 s).drop (k + n))) := by
          show _ = _
          have hn9 : ¬ n = 0 := by omega
          rw [HD2.out, hv]
          simp [hn9]
        clear hv HD2 HROW hes hsz1
        go_wp2_with (at_builtin; refine wpList_append_sl _ rfl (.tmp 19) (.tmp 27) _ rfl w.heap.size 21 _ 1 4 Try.underlying23 info32 rfl (by omega) A m c (R32 xs) rfl (hown1.alloc _) Any _ 1 1 (R32 [v]) rfl (Ru.one_at _ Any _ rfl trivial _ _) (R32_one _) (by simp only [maxLen]; omega) (by omega) (by have := hkp1.size; simp; omega) ?_; intro A4 c4 w4 hown4 hg hat)
        have hgr : ∀ g, rowOf A = some g → w.heap.size ≤ g := fun g h => (hown1.lt g h).1
        have hkp4 := (hkp1.alloc (.cells #[.int .i32 v] 21)).grown hg hgr
        rw [R32_append] at hown4
        clear hgr hown1 hkp1 hg hat
        go_roundg (s.size - (k + n))
        case measure => omega
        case rel => exact ⟨k + n, A4, m + 1, c4, xs ++ [v], by omega, by go_num, rfl, hown4, by omega, hkp4, HD3⟩
      | false =>
        by_cases hn0 : n = 0
        · have hnb : ((n : Int) == 0) = true := by simpa using hn0
          have HD3 : Hid (decR (by8 s) = (xs ++ [65533]) ++ decR ((by8 s).drop (k + 1))) := by
            show _ = _
            rw [HD2.out, if_neg (by simp), if_pos hn0]
            simp
          clear HD2
          go_wp2_with fail
          refine (row_any (s.extract k s.size) hsz1 wr).mono ?_
          rintro e w1 ⟨rfl, hd1⟩
          rw [HROW.out.1, HROW.out.2]
          have hown1 := hown.kp hd1.kp
          have hkp1 := hkp.trans hd1.kp
          clear hown hkp hd1 HROW hsz1
          go_wp2_with (at_builtin; refine wpList_append_sl _ rfl (.tmp 29) (.tmp 30) _ rfl w.heap.size 21 _ 1 4 Try.underlying23 info32 rfl (by omega) A m c (R32 xs) rfl (hown1.alloc _) Any _ 1 1 (R32 [65533]) rfl (Ru.one_at _ Any _ rfl trivial _ _) (R32_one _) (by simp only [maxLen]; omega) (by omega) (by have := hkp1.size; simp; omega) ?_; intro A4 c4 w4 hown4 hg hat)
          have hgr : ∀ g, rowOf A = some g → w.heap.size ≤ g := fun g h => (hown1.lt g h).1
          have hkp4 := (hkp1.alloc (.cells #[.int .i32 65533] 21)).grown hg hgr
          rw [R32_append] at hown4
          clear hgr hown1 hkp1 hg hat
          go_roundg (s.size - (k + 1))
          case measure => omega
          case rel => exact ⟨k + 1, A4, m + 1, c4, xs ++ [65533], by omega, by go_num, rfl, hown4, by omega, hkp4, HD3⟩
        · have hnb : ((n : Int) == 0) = false := by simpa using hn0
          have HD3 : Hid (decR (by8 s) = (xs ++ [65533]) ++ decR ((by8 s).drop (k + n))) := by
            show _ = _
            rw [HD2.out, if_neg (by simp), if_neg hn0]
            simp
          clear HD2
          go_wp2_with fail
          refine (row_any (s.extract k s.size) hsz1 wr).mono ?_
          rintro e w1 ⟨rfl, hd1⟩
          rw [HROW.out.1, HROW.out.2]
          have hown1 := hown.kp hd1.kp
          have hkp1 := hkp.trans hd1.kp
          clear hown hkp hd1 HROW hsz1
          go_wp2_with (at_builtin; refine wpList_append_sl _ rfl (.tmp 29) (.tmp 30) _ rfl w.heap.size 21 _ 1 4 Try.underlying23 info32 rfl (by omega) A m c (R32 xs) rfl (hown1.alloc _) Any _ 1 1 (R32 [65533]) rfl (Ru.one_at _ Any _ rfl trivial _ _) (R32_one _) (by simp only [maxLen]; omega) (by omega) (by have := hkp1.size; simp; omega) ?_; intro A4 c4 w4 hown4 hg hat)
          have hgr : ∀ g, rowOf A = some g → w.heap.size ≤ g := fun g h => (hown1.lt g h).1
          have hkp4 := (hkp1.alloc (.cells #[.int .i32 65533] 21)).grown hg hgr
          rw [R32_append] at hown4
          clear hgr hown1 hkp1 hg hat
          go_roundg (s.size - (k + n))
          case measure => omega
          case rel => exact ⟨k + n, A4, m + 1, c4, xs ++ [65533], by omega, by go_num, rfl, hown4, by omega, hkp4, HD3⟩
    · have HE : Hid (decR (by8 s) = xs) := by
        show _ = _
        rw [hd.out, List.drop_of_length_le (by rw [HL.out]; omega), decR_nil, List.append_nil]
      clear hd
      go_wp2_with fail
      go_ret
      rw [HE.out]
      exact ⟨A, m, c, rfl, hown.sl, hkp⟩

set_option maxHeartbeats 3200000 in
theorem waits_any (s : ByteArray) (hs : s.size ≤ 1073741824) (w : World) : Calls Try.prog 18 #[.string s] w fun e w' => e = .returned (.int .i64 (waitR (by8 s) : Nat)) ∧ Dr w w' := by
  have hlen := by8_length s
  have HL := Lib.hid hlen
  clear hlen
  go_enter Try.func18, Try.ntmps18
  go_wp2_with fail
  go_loopg [3] s.size (fun g i wr => ∃ (k : Nat), k + g = s.size ∧ i = .int .i64 k ∧ Dr w wr ∧ Hid (waitR (by8 s) = waitR ((by8 s).drop k)))
  case atStart => exact ⟨0, by omega, rfl, Dr.refl _, rfl⟩
  case round =>
    obtain ⟨k, hk, rfl, hdr, hd⟩ := hrel
    by_cases hlt : k < s.size
    · have hne : (by8 s).drop k ≠ [] := by
        intro h
        have := congrArg List.length h
        rw [List.length_drop, HL.out] at this
        simp at this
        omega
      have hrn := rowN_le ((by8 s).drop k)
      rw [List.length_drop, HL.out] at hrn
      obtain ⟨hr1, hr2⟩ := hrn
      have hdc := waitR_cons _ hne
      obtain ⟨n, hn⟩ : ∃ n, n = rowN ((by8 s).drop k) := ⟨_, rfl⟩
      obtain ⟨wh, hwh⟩ : ∃ wh, wh = rowW ((by8 s).drop k) := ⟨_, rfl⟩
      rw [← hn, ← hwh, List.drop_drop, List.length_drop, HL.out, ← hd.out] at hdc
      rw [← hn] at hr1 hr2
      have hsz1 : (s.extract k s.size).size ≤ 1073741824 := by rw [ByteArray.size_extract]; omega
      have HROW : Hid (rowN (by8 (s.extract k s.size)) = n ∧ rowW (by8 (s.extract k s.size)) = wh) := by show _ ∧ _; rw [by8_from]; exact ⟨hn.symm, hwh.symm⟩
      have HDC := Lib.hid hdc
      clear hn hwh hdc hne hd
      by_cases hq : wh = false ∧ 0 < n ∧ n = s.size - k
      · obtain ⟨rfl, hn1, hn2⟩ := hq
        have HE : Hid (waitR (by8 s) = n) := by show _ = _; rw [HDC.out, if_pos ⟨rfl, hn1, hn2⟩]
        have hb : (((k : Int) + n) == s.size) = true := by simp; omega
        have hn1' : (0 : Int) < n := by omega
        clear HDC hn2
        go_wp2_with fail
        refine (row_any (s.extract k s.size) hsz1 wr).mono ?_
        rintro e w1 ⟨rfl, hd1⟩
        rw [HROW.out.1, HROW.out.2]
        go_wp2_with fail
        go_ret
        exact ⟨by rw [HE.out]; rfl, hdr.trans hd1⟩
      · have HN : Hid (waitR (by8 s) = waitR ((by8 s).drop (k + if n = 0 then 1 else n))) := by show _ = _; rw [HDC.out, if_neg hq]
        clear HDC
        have hcs : wh = true ∨ (wh = false ∧ n = 0) ∨ (wh = false ∧ 0 < n ∧ n < s.size - k) := by
          cases wh with
          | true => exact .inl rfl
          | false =>
            right
            have : ¬ (0 < n ∧ n = s.size - k) := fun h => hq ⟨rfl, h⟩
            rcases Nat.eq_zero_or_pos n with h | h
            · exact .inl ⟨rfl, h⟩
            · exact .inr ⟨rfl, h, by omega⟩
        clear hq
        rcases hcs with rfl | ⟨rfl, hn0⟩ | ⟨rfl, hn1, hn2⟩
        · by_cases hn0 : n = 0
          · have hnb : ((n : Int) == 0) = true := by simpa using hn0
            rw [if_pos hn0] at HN
            go_wp2_with fail
            refine (row_any (s.extract k s.size) hsz1 wr).mono ?_
            rintro e w1 ⟨rfl, hd1⟩
            rw [HROW.out.1, HROW.out.2]
            go_wp2_with fail
            go_roundg (s.size - (k + 1))
            case measure => omega
            case rel => exact ⟨k + 1, by omega, by go_num, hdr.trans hd1, HN⟩
          · have hnb : ((n : Int) == 0) = false := by simpa using hn0
            rw [if_neg hn0] at HN
            go_wp2_with fail
            refine (row_any (s.extract k s.size) hsz1 wr).mono ?_
            rintro e w1 ⟨rfl, hd1⟩
            rw [HROW.out.1, HROW.out.2]
            go_wp2_with fail
            go_roundg (s.size - (k + n))
            case measure => omega
            case rel => exact ⟨k + n, by omega, by go_num, hdr.trans hd1, HN⟩
        · have hnb : ((n : Int) == 0) = true := by simpa using hn0
          have hng : ¬ (0 : Int) < (n : Int) := by omega
          rw [if_pos hn0] at HN
          go_wp2_with fail
          refine (row_any (s.extract k s.size) hsz1 wr).mono ?_
          rintro e w1 ⟨rfl, hd1⟩
          rw [HROW.out.1, HROW.out.2]
          go_wp2_with fail
          go_roundg (s.size - (k + 1))
          case measure => omega
          case rel => exact ⟨k + 1, by omega, by go_num, hdr.trans hd1, HN⟩
        · have hnb : ((n : Int) == 0) = false := by simp; omega
          have hng : (0 : Int) < (n : Int) := by omega
          have hb : (((k : Int) + n) == s.size) = false := by simp; omega
          rw [if_neg (by omega)] at HN
          go_wp2_with fail
          refine (row_any (s.extract k s.size) hsz1 wr).mono ?_
          rintro e w1 ⟨rfl, hd1⟩
          rw [HROW.out.1, HROW.out.2]
          go_wp2_with fail
          go_roundg (s.size - (k + n))
          case measure => omega
          case rel => exact ⟨k + n, by omega, by go_num, hdr.trans hd1, HN⟩
    · have HE : Hid (waitR (by8 s) = 0) := by
        show _ = _
        rw [hd.out, List.drop_of_length_le (by rw [HL.out]; omega), waitR_nil]
      clear hd
      go_wp2_with fail
      go_ret
      exact ⟨by rw [HE.out]; rfl, hdr⟩
end Go.Proofs.Ytmeefngkbcfpeaa
