/-
  package past: Expand: what a text becomes. Conditions: the slices can be read, and are not too long.
-/
import Derived.Test.YtcbachblhfkcoaaExO
namespace Go.Proofs.Ytcbachblhfkcoaa
open Go.RowKit Go.Shelf

theorem retV_none {P : Program} {f : FuncId} {args : Array Value} {G : Nat → Prop} {w : World} (h : Calls P f args w (RetV G none w)) : Calls P f args w fun e w' => ∃ A n c k, e = .returned (.tuple #[.slice A n c, .int .i64 k, .int .i64 5]) ∧ Kp w w' :=
  h.mono fun _ _ ⟨A, n, c, k, he, _, _, hk⟩ => ⟨A, n, c, k, he, hk⟩
theorem retV_some {P : Program} {f : FuncId} {args : Array Value} {G : Nat → Prop} {w : World} {l : List Int} {k : Nat} (h : Calls P f args w (RetV G (some (l, k)) w)) : Calls P f args w fun e w' => ∃ A n c, e = .returned (.tuple #[.slice A n c, .int .i64 (k : Int), .int .i64 0]) ∧ Ru w' Any A n c l ∧ Kp w w' :=
  h.mono fun _ _ ⟨A, n, c, _, he, hr, hk, hkp⟩ => ⟨A, n, c, by rw [he, hk _ rfl]; rfl, hr.any, hkp⟩

set_option maxRecDepth 100000 in
set_option maxHeartbeats 6400000 in
theorem expand_any (F G H F1 : Nat → Prop) (A B S : Option Addr) (n c m d q r : Nat) (at_ : Int) (L : List (List Int)) (st s : List Int) (w : World)
    (hT : Txs w F G A n c L) (hst : Ru w F1 B m d st) (hs : Ru w H S q r s) (hq : q ≤ 1000) (hn : n ≤ 2000) (hm : m ≤ 1099511627776) (hL : ∀ x ∈ L, x.length ≤ 60) :
    Calls Try.prog 25 #[.agg #[.slice A n c, .int .i64 at_, .slice B m d], .slice S q r] w (RetPk (exF L s) w) := by
  have hle := hs.le
  have hcp := hs.cap
  unfold maxLen at hcp
  have HLEN := Lib.hid hs.len
  have kp1 := (Kp.refl w).alloc (.cells #[.slice A n c, .int .i64 at_, .slice B m d] 27)
  have bp := Bx.new w #[.slice A n c, .int .i64 at_, .slice B m d] 27
  have hz1 : (w.alloc (.cells #[.slice A n c, .int .i64 at_, .slice B m d] 27)).heap.size = w.heap.size + 1 := by simp
  have HX1 := Lib.hid (hT.any.kp kp1)
  have HST := Lib.hid (Sl.kp hst kp1)
  have HS1 := Lib.hid (Sl.kp hs kp1)
  have HL := Lib.hid hL
  clear hT hst hs hL
  go_enter Try.func25, Try.ntmps25
  go_wp2_with fail
  generalize w.alloc (.cells #[.slice A n c, .int .i64 at_, .slice B m d] 27) = w1 at *
  have HZ := Lib.hid hz1
  clear hz1
  go_loopg [6, 7] (q + 1) (fun g ov iv wr => ∃ (i : Nat) (o : List Int) (Ao : Option Addr) (no co : Nat), i + g = q + 1 ∧ i ≤ q ∧ iv = .int .i64 i ∧ ov = .slice Ao no co ∧ Own wr (w.heap.size + 1) 21 1 Ao no co (R32 o) ∧ Hid (exF L s = (exF L (s.drop i)).map (o ++ ·)) ∧ no ≤ 61 * i ∧ Kp w1 wr)
  case atStart => exact ⟨0, [], none, 0, 0, by omega, by omega, rfl, rfl, Own.nil _ _ _ _, (by show _ = _; simp : exF L s = (exF L (s.drop 0)).map ([] ++ ·)), by omega, Kp.refl _⟩
  case round =>
    obtain ⟨i, o, Ao, no, co, hg, hi, rfl, rfl, hown, hf, hno, hk⟩ := hrel
    by_cases hiq : i < q
    · have hiqi : (i : Int) < (q : Int) := by omega
      obtain ⟨ad, rfl, hca⟩ := Ru.get (Sl.kp HS1.out hk) hiq
      have hzr : w.heap.size + 1 ≤ wr.heap.size := by have := hk.size; have := HZ.out; omega
      have hdr := drop_cons (s := s) (a := i) (by rw [HLEN.out]; exact hiq)
      obtain ⟨x, hx⟩ : ∃ x, x = s[i]?.getD 0 := ⟨_, rfl⟩
      rw [← hx] at hdr hca
      clear hx
      by_cases h33 : x = 33
      · subst h33
        have b0i : (0 : Int) ≤ (i : Int) + 1 := by omega
        have b1i : (i : Int) + 1 ≤ (q : Int) := by omega
        have b2i : (i : Int) + 1 ≤ (r : Int) := by omega
        have wi : IntKind.i64.wrap ((i : Int) + 1) = (i : Int) + 1 := wrapS (by omega) (by omega)
        have hd2 := Ru.drop (Sl.kp HS1.out hk) (show i + 1 ≤ q by omega)
        by_cases hri : r = i + 1
        · have hqi : q = i + 1 := by omega
          subst hri
          subst hqi
          rw [if_pos rfl, Nat.sub_self] at hd2
          have hd3 := hd2
          clear hd2
          have HV := fun wx (kk : Kp wr wx) => ev_any Any Any H F1 A B (some ad) n c m d 0 0 at_ L st (s.drop (i + 1)) wx (fun _ _ => trivial) (HX1.out.kp (hk.trans kk)) (Sl.kp HST.out (hk.trans kk)) (Sl.kp hd3 kk) (by omega) hn hm (fun x hx => by have := HL.out x hx; omega)
          have bpr := bp.kp hk
          obtain ⟨p0, p1, p2, _, _, _⟩ := bpr.three
          cases hev : eventM L (s.drop (i + 1)) with
          | none =>
            have HE : Hid (exF L s = none) := by show _ = _; exact advN hf.out (by rw [hdr]; exact exF_no L hev)
            rw [hev] at HV
            have HV0 := Lib.hid (retV_none (HV wr.drew (Kp.refl _).drew))
            clear hev hdr HV hd3
            go_wp2_with fail
            go_region_held3 (fun w' => w'.cell? ⟨w.heap.size, 0, none⟩ = some (.slice A n c) ∧ w'.cell? ⟨w.heap.size, 1, none⟩ = some (.int .i64 at_) ∧ w'.cell? ⟨w.heap.size, 2, none⟩ = some (.slice B m d))
              (first | (with_reducible exact ⟨p0, p1, p2⟩) | go_keep)
              ((go_at_call 48; refine (HV0.out).mono ?_; rintro e w2 ⟨A2, n2, c2, kk, rfl, k2⟩; have k2 := (Kp.refl wr).drew.trans k2; obtain ⟨p0, p1, p2, _, _, _⟩ := (bpr.kp k2).three))
            go_wp2_with fail
            go_ret2
            rw [HE.out]
            exact ⟨none, 0, 0, 5, rfl, rfl, Ru.nil _ _, kp1.trans (hk.trans k2)⟩
          | some lk =>
            obtain ⟨l, k⟩ := lk
            obtain ⟨hkl, hll, hk0⟩ := eventM_ok hev
            rw [List.length_drop, HLEN.out] at hkl
            have hl60 : l.length ≤ 60 := by
              rcases hll with h | h
              · rw [h]; simp
              · exact HL.out l h
            have HE : Hid (exF L s = (exF L (s.drop (i + 1 + k))).map ((o ++ (if k = 0 then [33] else l)) ++ ·)) := by
              show _ = _
              refine adv hf.out ?_
              rw [hdr, exF_ev L hev, List.drop_drop]
            rw [hev] at HV
            have HV0 := Lib.hid (retV_some (HV wr.drew (Kp.refl _).drew))
            clear hev hll HV hd3
            by_cases hkz : k = 0
            · subst hkz
              rw [if_pos rfl] at HE
              have hd1 := Ru.take (Ru.drop (Sl.kp HS1.out hk) (show i ≤ (i + 1) by omega)) (show 1 ≤ (i + 1) - i by omega)
              rw [if_neg (by omega), hdr] at hd1
              have HD1 : Hid (Ru wr H (some (ad.add i)) 1 1 [33]) := by show Ru _ _ _ _ _ _; rw [show (i + 1) - i = 1 by omega] at hd1; exact hd1
              clear hd1 hdr
              have hri2 : ¬ (i + 1) = i := by omega
              go_wp2_with fail
              go_region_held3 (fun w' => w'.cell? ⟨w.heap.size, 0, none⟩ = some (.slice A n c) ∧ w'.cell? ⟨w.heap.size, 1, none⟩ = some (.int .i64 at_) ∧ w'.cell? ⟨w.heap.size, 2, none⟩ = some (.slice B m d))
                (first | (with_reducible exact ⟨p0, p1, p2⟩) | go_keep)
                ((go_at_call 48; refine (HV0.out).mono ?_; rintro e w2 ⟨A2, n2, c2, rfl, hr2, k2⟩; have k2 := (Kp.refl wr).drew.trans k2; have hz2 : w.heap.size + 1 ≤ w2.heap.size := (by have := k2.size; omega); obtain ⟨p0, p1, p2, _, _, _⟩ := (bpr.kp k2).three))
              go_upto_region 17 with (at_builtin; refine wpList_append_sl _ rfl (.tmp 37) (.tmp 38) _ rfl (w.heap.size + 1) 21 _ 1 4 Try.underlying23 info32 rfl (by omega) Ao no co (R32 o) rfl (hown.kp k2) H _ 1 1 (R32 [33]) rfl (Sl.kp HD1.out k2) (R32_one [33]) (by simp only [maxLen]; omega) (by omega) (by first | omega | (simp; omega)) ?_; intro A3 c3 w3 hown3 hg3 hat3)
              obtain ⟨n4, hn4⟩ : ∃ n4, n4 = no + 1 := ⟨_, rfl⟩
              rw [← hn4] at ⊢
              have h65 : decide ((65536 : Int) < (n4 : Int)) = false := decide_eq_false (by omega)
              obtain ⟨o3, kk3⟩ := own_app (y := [33]) hk hown k2 (by have := HZ.out; omega) hown3 hg3
              rw [← hn4] at o3
              have HN4 := Lib.hid hn4
              clear hn4
              go_wp2_with fail
              go_roundg ((i + 1) + 1 - (i + 1 + 0))
              case measure => omega
              case rel => exact ⟨i + 1 + 0, o ++ [33], A3, n4, c3, by omega, by omega, by go_num, rfl, o3, HE, by have := HN4.out; omega, kk3⟩
            · exact absurd (by omega : k = 0) hkz
        · rw [if_neg hri] at hd2
          have hd3 : Ru wr H (some ⟨ad.block, ad.off + (i + 1), none⟩) (q - (i + 1)) (r - (i + 1)) (s.drop (i + 1)) := by simpa [Addr.add] using hd2
          clear hd2
          have HV := fun wx (kk : Kp wr wx) => ev_any Any Any H F1 A B (some ⟨ad.block, ad.off + (i + 1), none⟩) n c m d (q - (i + 1)) (r - (i + 1)) at_ L st (s.drop (i + 1)) wx (fun _ _ => trivial) (HX1.out.kp (hk.trans kk)) (Sl.kp HST.out (hk.trans kk)) (Sl.kp hd3 kk) (by omega) hn hm (fun x hx => by have := HL.out x hx; omega)
          have bpr := bp.kp hk
          obtain ⟨p0, p1, p2, _, _, _⟩ := bpr.three
          cases hev : eventM L (s.drop (i + 1)) with
          | none =>
            have HE : Hid (exF L s = none) := by show _ = _; exact advN hf.out (by rw [hdr]; exact exF_no L hev)
            rw [hev] at HV
            have HV0 := Lib.hid (retV_none (HV wr.drew (Kp.refl _).drew))
            clear hev hdr HV hd3
            go_wp2_with fail
            go_region_held3 (fun w' => w'.cell? ⟨w.heap.size, 0, none⟩ = some (.slice A n c) ∧ w'.cell? ⟨w.heap.size, 1, none⟩ = some (.int .i64 at_) ∧ w'.cell? ⟨w.heap.size, 2, none⟩ = some (.slice B m d))
              (first | (with_reducible exact ⟨p0, p1, p2⟩) | go_keep)
              ((go_at_call 48; refine (HV0.out).mono ?_; rintro e w2 ⟨A2, n2, c2, kk, rfl, k2⟩; have k2 := (Kp.refl wr).drew.trans k2; obtain ⟨p0, p1, p2, _, _, _⟩ := (bpr.kp k2).three))
            go_wp2_with fail
            go_ret2
            rw [HE.out]
            exact ⟨none, 0, 0, 5, rfl, rfl, Ru.nil _ _, kp1.trans (hk.trans k2)⟩
          | some lk =>
            obtain ⟨l, k⟩ := lk
            obtain ⟨hkl, hll, hk0⟩ := eventM_ok hev
            rw [List.length_drop, HLEN.out] at hkl
            have hl60 : l.length ≤ 60 := by
              rcases hll with h | h
              · rw [h]; simp
              · exact HL.out l h
            have HE : Hid (exF L s = (exF L (s.drop (i + 1 + k))).map ((o ++ (if k = 0 then [33] else l)) ++ ·)) := by
              show _ = _
              refine adv hf.out ?_
              rw [hdr, exF_ev L hev, List.drop_drop]
            rw [hev] at HV
            have HV0 := Lib.hid (retV_some (HV wr.drew (Kp.refl _).drew))
            clear hev hll HV hd3
            by_cases hkz : k = 0
            · subst hkz
              rw [if_pos rfl] at HE
              have hd1 := Ru.take (Ru.drop (Sl.kp HS1.out hk) (show i ≤ q by omega)) (show 1 ≤ q - i by omega)
              rw [if_neg (by omega), hdr] at hd1
              have HD1 : Hid (Ru wr H (some (ad.add i)) 1 (r - i) [33]) := by show Ru _ _ _ _ _ _; rw [show r - i = (r - i) by omega] at hd1; exact hd1
              clear hd1 hdr
              have hri2 : ¬ r = i := by omega
              go_wp2_with fail
              go_region_held3 (fun w' => w'.cell? ⟨w.heap.size, 0, none⟩ = some (.slice A n c) ∧ w'.cell? ⟨w.heap.size, 1, none⟩ = some (.int .i64 at_) ∧ w'.cell? ⟨w.heap.size, 2, none⟩ = some (.slice B m d))
                (first | (with_reducible exact ⟨p0, p1, p2⟩) | go_keep)
                ((go_at_call 48; refine (HV0.out).mono ?_; rintro e w2 ⟨A2, n2, c2, rfl, hr2, k2⟩; have k2 := (Kp.refl wr).drew.trans k2; have hz2 : w.heap.size + 1 ≤ w2.heap.size := (by have := k2.size; omega); obtain ⟨p0, p1, p2, _, _, _⟩ := (bpr.kp k2).three))
              go_upto_region 17 with (at_builtin; refine wpList_append_sl _ rfl (.tmp 37) (.tmp 38) _ rfl (w.heap.size + 1) 21 _ 1 4 Try.underlying23 info32 rfl (by omega) Ao no co (R32 o) rfl (hown.kp k2) H _ 1 (r - i) (R32 [33]) rfl (Sl.kp HD1.out k2) (R32_one [33]) (by simp only [maxLen]; omega) (by omega) (by first | omega | (simp; omega)) ?_; intro A3 c3 w3 hown3 hg3 hat3)
              obtain ⟨n4, hn4⟩ : ∃ n4, n4 = no + 1 := ⟨_, rfl⟩
              rw [← hn4] at ⊢
              have h65 : decide ((65536 : Int) < (n4 : Int)) = false := decide_eq_false (by omega)
              obtain ⟨o3, kk3⟩ := own_app (y := [33]) hk hown k2 (by have := HZ.out; omega) hown3 hg3
              rw [← hn4] at o3
              have HN4 := Lib.hid hn4
              clear hn4
              go_wp2_with fail
              go_roundg (q + 1 - (i + 1 + 0))
              case measure => omega
              case rel => exact ⟨i + 1 + 0, o ++ [33], A3, n4, c3, by omega, by omega, by go_num, rfl, o3, HE, by have := HN4.out; omega, kk3⟩
            · rw [if_neg hkz] at HE
              have hkb : ((k : Int) == 0) = false := by simp; omega
              clear hdr
              go_wp2_with fail
              go_region_held3 (fun w' => w'.cell? ⟨w.heap.size, 0, none⟩ = some (.slice A n c) ∧ w'.cell? ⟨w.heap.size, 1, none⟩ = some (.int .i64 at_) ∧ w'.cell? ⟨w.heap.size, 2, none⟩ = some (.slice B m d))
                (first | (with_reducible exact ⟨p0, p1, p2⟩) | go_keep)
                ((go_at_call 48; refine (HV0.out).mono ?_; rintro e w2 ⟨A2, n2, c2, rfl, hr2, k2⟩; have k2 := (Kp.refl wr).drew.trans k2; have hn2 : n2 ≤ 60 := (by have := hr2.len; omega); have hz2 : w.heap.size + 1 ≤ w2.heap.size := (by have := k2.size; omega); obtain ⟨p0, p1, p2, _, _, _⟩ := (bpr.kp k2).three))
              go_upto_region 17 with (at_builtin; refine wpList_append_sl _ rfl (.tmp 37) (.tmp 38) _ rfl (w.heap.size + 1) 21 _ 1 4 Try.underlying23 info32 rfl (by omega) Ao no co (R32 o) rfl (hown.kp k2) Any A2 n2 c2 (R32 l) rfl hr2 (R32_one l) (by simp only [maxLen]; omega) (by omega) (by first | omega | (simp; omega)) ?_; intro A3 c3 w3 hown3 hg3 hat3)
              obtain ⟨n4, hn4⟩ : ∃ n4, n4 = no + n2 := ⟨_, rfl⟩
              rw [← hn4] at ⊢
              have h65 : decide ((65536 : Int) < (n4 : Int)) = false := decide_eq_false (by omega)
              obtain ⟨o3, kk3⟩ := own_app (y := l) hk hown k2 (by have := HZ.out; omega) hown3 hg3
              rw [← hn4] at o3
              have HN4 := Lib.hid hn4
              clear hn4
              go_wp2_with fail
              go_roundg (q + 1 - (i + 1 + k))
              case measure => omega
              case rel => exact ⟨i + 1 + k, o ++ l, A3, n4, c3, by omega, by omega, by go_num, rfl, o3, HE, by have := HN4.out; omega, kk3⟩
      · by_cases hesc : x = 92 ∧ (i + 1 < q ∧ s[i + 1]?.getD 0 = 33)
        · obtain ⟨rfl, he1, he2⟩ := hesc
          have he1i : (i : Int) + 1 < (q : Int) := by omega
          obtain ⟨ad', e', hcb⟩ := Ru.get (Sl.kp HS1.out hk) he1
          injection e' with e'
          subst e'
          rw [he2] at hcb
          have hcb2 := hcb
          rw [Addr.add, if_neg (by omega)] at hcb2
          have hdr2 := drop_cons (s := s) (a := i + 1) (by rw [HLEN.out]; exact he1)
          have HE : Hid (exF L s = (exF L (s.drop (i + 1 + 1))).map ((o ++ [33]) ++ ·)) := by
            show _ = _
            refine adv hf.out ?_
            rw [hdr, hdr2, he2, exF_esc]
          clear hdr hdr2 he2 h33 hf
          go_upto_region 17 with ((at_builtin; refine wpList_append_sl _ rfl (.tmp 64) (.tmp 65) _ rfl (w.heap.size + 1) 21 _ 1 4 Try.underlying23 info32 rfl (by omega) Ao no co (R32 o) rfl (hown.alloc _) Any _ 1 1 [.int .i32 33] rfl (Sl.new _ _ _ _ _ trivial rfl (by omega)) (by simp [Value.oneCell']) (by simp only [maxLen]; omega) (by omega) (by first | omega | (simp; omega)) ?_; intro A3 c3 w3 hown3 hg3 hat3))
          obtain ⟨n4, hn4⟩ : ∃ n4, n4 = no + 1 := ⟨_, rfl⟩
          rw [← hn4] at ⊢
          have h65 : decide ((65536 : Int) < (n4 : Int)) = false := decide_eq_false (by omega)
          obtain ⟨o3, kk3⟩ := own_app (y := [33]) hk hown ((Kp.refl wr).alloc _) (by have := HZ.out; omega) hown3 hg3
          rw [← hn4] at o3
          have HN4 := Lib.hid hn4
          clear hn4
          go_wp2_with fail
          go_roundg (q + 1 - (i + 1 + 1))
          case measure => omega
          case rel => exact ⟨i + 1 + 1, o ++ [33], A3, n4, c3, by omega, by omega, by go_num, rfl, o3, HE, by have := HN4.out; omega, kk3⟩
        · have HE : Hid (exF L s = (exF L (s.drop (i + 1))).map ((o ++ [x]) ++ ·)) := by
            show _ = _
            refine adv hf.out ?_
            rw [hdr, exF_chr L h33]
            rintro ⟨h1, h2⟩
            by_cases h3 : i + 1 < q
            · rw [drop_cons (s := s) (a := i + 1) (by rw [HLEN.out]; exact h3)] at h2
              exact hesc ⟨h1, h3, by simpa using h2⟩
            · rw [List.drop_eq_nil_of_le (by rw [HLEN.out]; omega)] at h2
              cases h2
          have b33 : (x != 33) = true := by simpa using h33
          by_cases h92 : x = 92
          · subst h92
            by_cases he1 : i + 1 < q
            · have he1i : (i : Int) + 1 < (q : Int) := by omega
              obtain ⟨ad', e', hcb⟩ := Ru.get (Sl.kp HS1.out hk) he1
              injection e' with e'
              subst e'
              obtain ⟨y, hy⟩ : ∃ y, y = s[i + 1]?.getD 0 := ⟨_, rfl⟩
              rw [← hy] at hcb
              have hcb2 := hcb
              rw [Addr.add, if_neg (by omega)] at hcb2
              have hy33 : (y == 33) = false := by
                simp
                rintro rfl
                exact hesc ⟨rfl, he1, hy.symm⟩
              clear hdr hy hf h33 hesc
              go_upto_region 17 with ((at_builtin; refine wpList_append_sl _ rfl (.tmp 75) (.tmp 80) _ rfl (w.heap.size + 1) 21 _ 1 4 Try.underlying23 info32 rfl (by omega) Ao no co (R32 o) rfl (hown.alloc _) Any _ 1 1 [.int .i32 92] rfl (Sl.new _ _ _ _ _ trivial rfl (by omega)) (by simp [Value.oneCell']) (by simp only [maxLen]; omega) (by omega) (by first | omega | (simp; omega)) ?_; intro A3 c3 w3 hown3 hg3 hat3))
              obtain ⟨n4, hn4⟩ : ∃ n4, n4 = no + 1 := ⟨_, rfl⟩
              rw [← hn4] at ⊢
              have h65 : decide ((65536 : Int) < (n4 : Int)) = false := decide_eq_false (by omega)
              obtain ⟨o3, kk3⟩ := own_app (y := [92]) hk hown ((Kp.refl wr).alloc _) (by have := HZ.out; omega) hown3 hg3
              rw [← hn4] at o3
              have HN4 := Lib.hid hn4
              clear hn4
              go_wp2_with fail
              go_roundg (q + 1 - (i + 1))
              case measure => omega
              case rel => exact ⟨i + 1, o ++ [92], A3, n4, c3, by omega, by omega, by go_num, rfl, o3, HE, by have := HN4.out; omega, kk3⟩
            · have he1i : ¬ (i : Int) + 1 < (q : Int) := by omega
              clear hdr hf h33 hesc
              go_upto_region 17 with ((at_builtin; refine wpList_append_sl _ rfl (.tmp 75) (.tmp 80) _ rfl (w.heap.size + 1) 21 _ 1 4 Try.underlying23 info32 rfl (by omega) Ao no co (R32 o) rfl (hown.alloc _) Any _ 1 1 [.int .i32 92] rfl (Sl.new _ _ _ _ _ trivial rfl (by omega)) (by simp [Value.oneCell']) (by simp only [maxLen]; omega) (by omega) (by first | omega | (simp; omega)) ?_; intro A3 c3 w3 hown3 hg3 hat3))
              obtain ⟨n4, hn4⟩ : ∃ n4, n4 = no + 1 := ⟨_, rfl⟩
              rw [← hn4] at ⊢
              have h65 : decide ((65536 : Int) < (n4 : Int)) = false := decide_eq_false (by omega)
              obtain ⟨o3, kk3⟩ := own_app (y := [92]) hk hown ((Kp.refl wr).alloc _) (by have := HZ.out; omega) hown3 hg3
              rw [← hn4] at o3
              have HN4 := Lib.hid hn4
              clear hn4
              go_wp2_with fail
              go_roundg (q + 1 - (i + 1))
              case measure => omega
              case rel => exact ⟨i + 1, o ++ [92], A3, n4, c3, by omega, by omega, by go_num, rfl, o3, HE, by have := HN4.out; omega, kk3⟩
          · have b92 : (x == 92) = false := by simpa using h92
            clear hdr hf h33 hesc h92
            go_upto_region 17 with ((at_builtin; refine wpList_append_sl _ rfl (.tmp 75) (.tmp 80) _ rfl (w.heap.size + 1) 21 _ 1 4 Try.underlying23 info32 rfl (by omega) Ao no co (R32 o) rfl (hown.alloc _) Any _ 1 1 [.int .i32 x] rfl (Sl.new _ _ _ _ _ trivial rfl (by omega)) (by simp [Value.oneCell']) (by simp only [maxLen]; omega) (by omega) (by first | omega | (simp; omega)) ?_; intro A3 c3 w3 hown3 hg3 hat3))
            obtain ⟨n4, hn4⟩ : ∃ n4, n4 = no + 1 := ⟨_, rfl⟩
            rw [← hn4] at ⊢
            have h65 : decide ((65536 : Int) < (n4 : Int)) = false := decide_eq_false (by omega)
            obtain ⟨o3, kk3⟩ := own_app (y := [x]) hk hown ((Kp.refl wr).alloc _) (by have := HZ.out; omega) hown3 hg3
            rw [← hn4] at o3
            have HN4 := Lib.hid hn4
            clear hn4
            go_wp2_with fail
            go_roundg (q + 1 - (i + 1))
            case measure => omega
            case rel => exact ⟨i + 1, o ++ [x], A3, n4, c3, by omega, by omega, by go_num, rfl, o3, HE, by have := HN4.out; omega, kk3⟩
    · have hiqi : ¬ (i : Int) < (q : Int) := by omega
      have HE : Hid (exF L s = some o) := by
        show _ = _
        rw [hf.out, List.drop_eq_nil_of_le (by rw [HLEN.out]; omega), exF_nil]
        simp
      clear hf
      go_wp2_with fail
      go_ret2
      rw [HE.out]
      exact ⟨Ao, no, co, 0, rfl, rfl, hown.sl.weak fun k _ hk => by unfold From at *; omega, kp1.trans hk⟩
end Go.Proofs.Ytcbachblhfkcoaa
