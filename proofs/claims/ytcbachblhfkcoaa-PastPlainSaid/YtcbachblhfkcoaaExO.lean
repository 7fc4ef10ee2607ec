/-
  typebarref20.Expand: what a text becomes. Conditions: the slices can be read, and are not too long.
-/
import Derived.Test.YtcbachblhfkcoaaExN
import Derived.Test.YtcbachblhfkcoaaExG
import Derived.Test.YtcbachblhfkcoaaExK
namespace Go.Proofs.Ytcbachblhfkcoaa
open Go.RowKit Go.Shelf

/-- What an append of runes leaves. -/
theorem own_app {w1 wr wa w3 : World} {base : Nat} {A A3 : Option Addr} {n c m c3 : Nat} {o y : List Int} (hk : Kp w1 wr) (ho : Own wr base 21 1 A n c (R32 o)) (ka : Kp wr wa) (hb : w1.heap.size ≤ base)
    (h3 : Own w3 base 21 1 A3 (n + m) c3 (R32 o ++ R32 y)) (hg : wa.grownBy w3 (rowOf A)) : Own w3 base 21 1 A3 (n + m) c3 (R32 (o ++ y)) ∧ Kp w1 w3 := by
  rw [R32_append] at h3
  exact ⟨h3, (hk.trans ka).grown hg fun k e => Nat.le_trans hb (ho.lt k e).1⟩

set_option maxRecDepth 100000 in
set_option maxHeartbeats 6400000 in
theorem refExpand_any (F G H : Nat → Prop) (A B S : Option Addr) (n c m d q r : Nat) (at_ : Int) (L : List (List Int)) (s : List Int) (w : World)
    (hX : Txs w F G A n c L.reverse) (hs : Ru w H S q r s) (hq : q ≤ 1000) (hn : n ≤ 2000) (hL : ∀ x ∈ L, x.length ≤ 60) :
    Calls Try.prog 26 #[.agg #[.slice A n c, .int .i64 at_, .slice B m d], .slice S q r] w (RetPk (exF L s) w) := by
  have hle := hs.le
  have hcp := hs.cap
  unfold maxLen at hcp
  have HLEN := Lib.hid hs.len
  have kp1 := (Kp.refl w).alloc (.cells #[.slice A n c, .int .i64 at_, .slice B m d] 37)
  have bp := Bx.new w #[.slice A n c, .int .i64 at_, .slice B m d] 37
  have hz1 : (w.alloc (.cells #[.slice A n c, .int .i64 at_, .slice B m d] 37)).heap.size = w.heap.size + 1 := by simp
  have HX1 := Lib.hid (hX.kp kp1)
  have HS1 := Lib.hid (Sl.kp hs kp1)
  have HL := Lib.hid hL
  clear hX hs hL
  go_enter Try.func26, Try.ntmps26
  go_wp2_with fail
  generalize w.alloc (.cells #[.slice A n c, .int .i64 at_, .slice B m d] 37) = w1 at *
  have HZ := Lib.hid hz1
  clear hz1
  go_loopg [6, 7] (q + 1) (fun g ov iv wr => ∃ (i : Nat) (o : List Int) (Ao : Option Addr) (no co : Nat), i + g = q + 1 ∧ i ≤ q ∧ iv = .int .i64 i ∧ ov = .slice Ao no co ∧ Own wr (w.heap.size + 1) 21 1 Ao no co (R32 o) ∧ Hid (exF L s = (exF L (s.drop i)).map (o ++ ·)) ∧ no ≤ 61 * i ∧ Kp w1 wr)
  case atStart => exact ⟨0, [], none, 0, 0, by omega, by omega, rfl, rfl, Own.nil _ _ _ _, (by show _ = _; simp : exF L s = (exF L (s.drop 0)).map ([] ++ ·)), by omega, Kp.refl _⟩
  case round =>
    obtain ⟨i, o, Ao, no, co, hg, hi, rfl, rfl, hown, hf, hno, hk⟩ := hrel
    by_cases hiq : i < q
    · have hiqi : (i : Int) < (q : Int) := by omega
      obtain ⟨ad, rfl, hca⟩ := Ru.get (Sl.kp HS1.out hk) hiq
      have hzr : w.heap.size + 1 ≤ wr.heap.size := by have := hk.size; have := HZ.out; omega
      have hdr := drop_cons (s := s) (a := i) (by rw [HLEN.out]; exact hiq)
      obtain ⟨x, hx⟩ : ∃ x, x = s[i]?.getD 0 := ⟨_, rfl⟩
      rw [← hx] at hdr hca
      clear hx
      by_cases h33 : x = 33
      · subst h33
        have HV := Lib.hid (refEv_any F G H A B (some ad) n c m d q r (i + 1) at_ L s wr (HX1.out.kp hk) (Sl.kp HS1.out hk) (by omega) (by omega) hn (fun x hx => by have := HL.out x hx; omega))
        rw [show ((i + 1 : Nat) : Int) = (i : Int) + 1 by omega] at HV
        obtain ⟨p0, p1, p2, _, _, _⟩ := (bp.kp hk).three
        cases hev : eventM L (s.drop (i + 1)) with
        | none =>
          have HE : Hid (exF L s = none) := by show _ = _; exact advN hf.out (by rw [hdr]; exact exF_no L hev)
          rw [hev] at HV
          clear hev hdr
          go_wp2_with (go_at_call 49; refine HV.out.mono ?_; rintro e w2 ⟨A2, n2, c2, kk, rfl, hr2, hkk, k2⟩)
          go_ret2
          rw [HE.out]
          exact ⟨none, 0, 0, 5, rfl, rfl, Ru.nil _ _, kp1.trans (hk.trans k2)⟩
        | some lk =>
          obtain ⟨l, k⟩ := lk
          obtain ⟨hkl, hll, hk0⟩ := eventM_ok hev
          rw [List.length_drop, HLEN.out] at hkl
          have hl60 : l.length ≤ 60 := by
            rcases hll with h | h
            · rw [h]; simp
            · exact HL.out l h
          have HE : Hid (exF L s = (exF L (s.drop (i + 1 + k))).map ((o ++ (if k = 0 then [33] else l)) ++ ·)) := by
            show _ = _
            refine adv hf.out ?_
            rw [hdr, exF_ev L hev, List.drop_drop]
          rw [hev] at HV
          clear hev hdr hll
          by_cases hkz : k = 0
          · have hl0 : l = [] := hk0 hkz
            subst hl0
            subst hkz
            rw [if_pos rfl] at HE
            go_upto_region 17 with (first
              | (go_at_call 49; refine HV.out.mono ?_; rintro e w2 ⟨A2, n2, c2, kk, rfl, hr2, hkk, k2⟩; have hkk := hkk _ rfl; dsimp only at hkk; subst hkk; have hn2 := hr2.len; simp at hn2; subst hn2; have hz2 : w.heap.size + 1 ≤ w2.heap.size := (by have := k2.size; omega))
              | (at_builtin; refine wpList_append_sl _ rfl (.tmp 67) (.tmp 68) _ rfl (w.heap.size + 1) 21 _ 1 4 Try.underlying23 info32 rfl (by omega) Ao no co (R32 o) rfl ((hown.kp k2).alloc _) Any _ 1 1 [.int .i32 33] rfl (Sl.new _ _ _ _ _ trivial rfl (by omega)) (by simp [Value.oneCell']) (by simp only [maxLen]; omega) (by omega) (by first | omega | (simp; omega)) ?_; intro A3 c3 w3 hown3 hg3 hat3; have hz3 : w.heap.size + 1 ≤ w3.heap.size := (by have := hg3.size; simp at this; omega))
              | (at_builtin; refine wpList_append_sl _ rfl (.tmp 70) (.tmp 71) _ rfl (w.heap.size + 1) 21 _ 1 4 Try.underlying23 info32 rfl (by omega) A3 (no + 1) c3 (R32 o ++ [.int .i32 33]) rfl hown3 G A2 0 c2 [] rfl ⟨Nat.zero_le _, Ru.cap hr2, rfl, fun h => absurd h (by omega)⟩ (by simp) (by simp only [maxLen]; omega) (by omega) (by first | omega | (simp; omega)) ?_; intro A4 c4 w4 hown4 hg4 hat4))
            obtain ⟨n4, hn4⟩ : ∃ n4, n4 = no + 1 + 0 := ⟨_, rfl⟩
            rw [← hn4] at ⊢
            have h65 : decide ((65536 : Int) < (n4 : Int)) = false := decide_eq_false (by omega)
            obtain ⟨o3, kk3⟩ := own_app (y := [33]) hk hown (k2.alloc _) (by have := HZ.out; omega) hown3 hg3
            obtain ⟨o4, kk4⟩ := own_app (y := []) (m := 0) kk3 o3 (Kp.refl _) (by have := HZ.out; omega) (by simpa [R32] using hown4) hg4
            rw [List.append_nil] at o4
            rw [← hn4] at o4
            have HN4 := Lib.hid hn4
            clear hn4
            go_wp2_with fail
            go_roundg (q + 1 - (i + 1 + 0))
            case measure => omega
            case rel => exact ⟨i + 1 + 0, o ++ [33], A4, n4, c4, by omega, by omega, by go_num, rfl, o4, HE, by have := HN4.out; omega, kk4⟩
          · rw [if_neg hkz] at HE
            have hkb : ((k : Int) == 0) = false := by simp; omega
            go_upto_region 17 with (first
              | (go_at_call 49; refine HV.out.mono ?_; rintro e w2 ⟨A2, n2, c2, kk, rfl, hr2, hkk, k2⟩; have hkk := hkk _ rfl; dsimp only at hkk; subst hkk; have hn2 : n2 ≤ 60 := (by have := hr2.len; dsimp only [Option.map_some, Option.getD_some] at this; omega); have hz2 : w.heap.size + 1 ≤ w2.heap.size := (by have := k2.size; omega))
              | (at_builtin; refine wpList_append_sl _ rfl (.tmp 70) (.tmp 71) _ rfl (w.heap.size + 1) 21 _ 1 4 Try.underlying23 info32 rfl (by omega) Ao no co (R32 o) rfl (hown.kp k2) G A2 n2 c2 (R32 l) rfl hr2 (R32_one l) (by simp only [maxLen]; omega) (by omega) (by first | omega | (simp; omega)) ?_; intro A3 c3 w3 hown3 hg3 hat3))
            obtain ⟨n4, hn4⟩ : ∃ n4, n4 = no + n2 := ⟨_, rfl⟩
            rw [← hn4] at ⊢
            have h65 : decide ((65536 : Int) < (n4 : Int)) = false := decide_eq_false (by omega)
            obtain ⟨o3, kk3⟩ := own_app (y := l) hk hown k2 (by have := HZ.out; omega) hown3 hg3
            rw [← hn4] at o3
            have HN4 := Lib.hid hn4
            clear hn4
            go_wp2_with fail
            go_roundg (q + 1 - (i + 1 + k))
            case measure => omega
            case rel => exact ⟨i + 1 + k, o ++ l, A3, n4, c3, by omega, by omega, by go_num, rfl, o3, HE, by have := HN4.out; omega, kk3⟩
      · by_cases hesc : x = 92 ∧ (i + 1 < q ∧ s[i + 1]?.getD 0 = 33)
        · obtain ⟨rfl, he1, he2⟩ := hesc
          have he1i : (i : Int) + 1 < (q : Int) := by omega
          obtain ⟨ad', e', hcb⟩ := Ru.get (Sl.kp HS1.out hk) he1
          injection e' with e'
          subst e'
          rw [he2] at hcb
          have hcb2 := hcb
          rw [Addr.add, if_neg (by omega)] at hcb2
          have hdr2 := drop_cons (s := s) (a := i + 1) (by rw [HLEN.out]; exact he1)
          have HE : Hid (exF L s = (exF L (s.drop (i + 1 + 1))).map ((o ++ [33]) ++ ·)) := by
            show _ = _
            refine adv hf.out ?_
            rw [hdr, hdr2, he2, exF_esc]
          clear hdr hdr2 he2 h33 hf
          go_upto_region 17 with ((at_builtin; refine wpList_append_sl _ rfl (.tmp 37) (.tmp 38) _ rfl (w.heap.size + 1) 21 _ 1 4 Try.underlying23 info32 rfl (by omega) Ao no co (R32 o) rfl (hown.alloc _) Any _ 1 1 [.int .i32 33] rfl (Sl.new _ _ _ _ _ trivial rfl (by omega)) (by simp [Value.oneCell']) (by simp only [maxLen]; omega) (by omega) (by first | omega | (simp; omega)) ?_; intro A3 c3 w3 hown3 hg3 hat3))
          obtain ⟨n4, hn4⟩ : ∃ n4, n4 = no + 1 := ⟨_, rfl⟩
          rw [← hn4] at ⊢
          have h65 : decide ((65536 : Int) < (n4 : Int)) = false := decide_eq_false (by omega)
          obtain ⟨o3, kk3⟩ := own_app (y := [33]) hk hown ((Kp.refl wr).alloc _) (by have := HZ.out; omega) hown3 hg3
          rw [← hn4] at o3
          have HN4 := Lib.hid hn4
          clear hn4
          go_wp2_with fail
          go_roundg (q + 1 - (i + 1 + 1))
          case measure => omega
          case rel => exact ⟨i + 1 + 1, o ++ [33], A3, n4, c3, by omega, by omega, by go_num, rfl, o3, HE, by have := HN4.out; omega, kk3⟩
        · have HE : Hid (exF L s = (exF L (s.drop (i + 1))).map ((o ++ [x]) ++ ·)) := by
            show _ = _
            refine adv hf.out ?_
            rw [hdr, exF_chr L h33]
            rintro ⟨h1, h2⟩
            by_cases h3 : i + 1 < q
            · rw [drop_cons (s := s) (a := i + 1) (by rw [HLEN.out]; exact h3)] at h2
              exact hesc ⟨h1, h3, by simpa using h2⟩
            · rw [List.drop_eq_nil_of_le (by rw [HLEN.out]; omega)] at h2
              cases h2
          have b33 : (x != 33) = true := by simpa using h33
          by_cases h92 : x = 92
          · subst h92
            by_cases he1 : i + 1 < q
            · have he1i : (i : Int) + 1 < (q : Int) := by omega
              obtain ⟨ad', e', hcb⟩ := Ru.get (Sl.kp HS1.out hk) he1
              injection e' with e'
              subst e'
              obtain ⟨y, hy⟩ : ∃ y, y = s[i + 1]?.getD 0 := ⟨_, rfl⟩
              rw [← hy] at hcb
              have hcb2 := hcb
              rw [Addr.add, if_neg (by omega)] at hcb2
              have hy33 : (y == 33) = false := by
                simp
                rintro rfl
                exact hesc ⟨rfl, he1, hy.symm⟩
              clear hdr hy hf h33 hesc
              go_upto_region 17 with ((at_builtin; refine wpList_append_sl _ rfl (.tmp 47) (.tmp 52) _ rfl (w.heap.size + 1) 21 _ 1 4 Try.underlying23 info32 rfl (by omega) Ao no co (R32 o) rfl (hown.alloc _) Any _ 1 1 [.int .i32 92] rfl (Sl.new _ _ _ _ _ trivial rfl (by omega)) (by simp [Value.oneCell']) (by simp only [maxLen]; omega) (by omega) (by first | omega | (simp; omega)) ?_; intro A3 c3 w3 hown3 hg3 hat3))
              obtain ⟨n4, hn4⟩ : ∃ n4, n4 = no + 1 := ⟨_, rfl⟩
              rw [← hn4] at ⊢
              have h65 : decide ((65536 : Int) < (n4 : Int)) = false := decide_eq_false (by omega)
              obtain ⟨o3, kk3⟩ := own_app (y := [92]) hk hown ((Kp.refl wr).alloc _) (by have := HZ.out; omega) hown3 hg3
              rw [← hn4] at o3
              have HN4 := Lib.hid hn4
              clear hn4
              go_wp2_with fail
              go_roundg (q + 1 - (i + 1))
              case measure => omega
              case rel => exact ⟨i + 1, o ++ [92], A3, n4, c3, by omega, by omega, by go_num, rfl, o3, HE, by have := HN4.out; omega, kk3⟩
            · have he1i : ¬ (i : Int) + 1 < (q : Int) := by omega
              clear hdr hf h33 hesc
              go_upto_region 17 with ((at_builtin; refine wpList_append_sl _ rfl (.tmp 47) (.tmp 52) _ rfl (w.heap.size + 1) 21 _ 1 4 Try.underlying23 info32 rfl (by omega) Ao no co (R32 o) rfl (hown.alloc _) Any _ 1 1 [.int .i32 92] rfl (Sl.new _ _ _ _ _ trivial rfl (by omega)) (by simp [Value.oneCell']) (by simp only [maxLen]; omega) (by omega) (by first | omega | (simp; omega)) ?_; intro A3 c3 w3 hown3 hg3 hat3))
              obtain ⟨n4, hn4⟩ : ∃ n4, n4 = no + 1 := ⟨_, rfl⟩
              rw [← hn4] at ⊢
              have h65 : decide ((65536 : Int) < (n4 : Int)) = false := decide_eq_false (by omega)
              obtain ⟨o3, kk3⟩ := own_app (y := [92]) hk hown ((Kp.refl wr).alloc _) (by have := HZ.out; omega) hown3 hg3
              rw [← hn4] at o3
              have HN4 := Lib.hid hn4
              clear hn4
              go_wp2_with fail
              go_roundg (q + 1 - (i + 1))
              case measure => omega
              case rel => exact ⟨i + 1, o ++ [92], A3, n4, c3, by omega, by omega, by go_num, rfl, o3, HE, by have := HN4.out; omega, kk3⟩
          · have b92 : (x == 92) = false := by simpa using h92
            clear hdr hf h33 hesc h92
            go_upto_region 17 with ((at_builtin; refine wpList_append_sl _ rfl (.tmp 47) (.tmp 52) _ rfl (w.heap.size + 1) 21 _ 1 4 Try.underlying23 info32 rfl (by omega) Ao no co (R32 o) rfl (hown.alloc _) Any _ 1 1 [.int .i32 x] rfl (Sl.new _ _ _ _ _ trivial rfl (by omega)) (by simp [Value.oneCell']) (by simp only [maxLen]; omega) (by omega) (by first | omega | (simp; omega)) ?_; intro A3 c3 w3 hown3 hg3 hat3))
            obtain ⟨n4, hn4⟩ : ∃ n4, n4 = no + 1 := ⟨_, rfl⟩
            rw [← hn4] at ⊢
            have h65 : decide ((65536 : Int) < (n4 : Int)) = false := decide_eq_false (by omega)
            obtain ⟨o3, kk3⟩ := own_app (y := [x]) hk hown ((Kp.refl wr).alloc _) (by have := HZ.out; omega) hown3 hg3
            rw [← hn4] at o3
            have HN4 := Lib.hid hn4
            clear hn4
            go_wp2_with fail
            go_roundg (q + 1 - (i + 1))
            case measure => omega
            case rel => exact ⟨i + 1, o ++ [x], A3, n4, c3, by omega, by omega, by go_num, rfl, o3, HE, by have := HN4.out; omega, kk3⟩
    · have hiqi : ¬ (i : Int) < (q : Int) := by omega
      have HE : Hid (exF L s = some o) := by
        show _ = _
        rw [hf.out, List.drop_eq_nil_of_le (by rw [HLEN.out]; omega), exF_nil]
        simp
      clear hf
      go_wp2_with fail
      go_ret2
      rw [HE.out]
      exact ⟨Ao, no, co, 0, rfl, rfl, hown.sl.weak fun k _ hk => by unfold From at *; omega, kp1.trans hk⟩
end Go.Proofs.Ytcbachblhfkcoaa
