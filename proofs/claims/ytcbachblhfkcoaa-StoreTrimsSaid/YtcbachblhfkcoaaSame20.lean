/-
  typebarlaw20.same at a past and the document's past that say the same: it returns true, and what was there stays. Conditions: not more than 2000 lines, of bounded length.
-/
import Derived.Deep.RegionHeld3
import Derived.Test.YtcbachblhfkcoaaRefAdd
import Derived.Test.YtcbachblhfkcoaaAll
namespace Go.Proofs.Ytcbachblhfkcoaa
open Go.RowKit

set_option maxRecDepth 100000 in
set_option maxHeartbeats 3200000 in
theorem same20_true (F : Nat → Prop) (A A' B B' C : Option Addr) (n n' c c' m m' d d' k e_ : Nat) (at_ i : Int) (L : List (List Int)) (st now : List Int) (w : World)
    (hT : Txs w F F A n c L) (hS : Ru w F B m d st) (hX : Txs w F F A' n' c' L.reverse) (hS' : Ru w F B' m' d' st) (hN : Ru w F C k e_ now) (hn : n ≤ 2000) (hm : m ≤ 1099511627776) (hk : k ≤ 1099511627776) (hL : ∀ x ∈ L, x.length ≤ 1099511627776) :
    Calls Try.prog 23 #[.agg #[.slice A n c, .int .i64 at_, .slice B m d], .agg #[.slice A' n' c', .int .i64 at_, .slice B' m' d'], .int .i64 i, .slice C k e_] w fun e w' => e = .returned (.bool true) ∧ Kp w w' := by
  have hnn : n' = n := by rw [← hX.len, ← hT.len, List.length_reverse]
  subst hnn
  have HL := Lib.hid hL
  clear hL
  have hcl := hT.cap
  have hle := hT.le
  have hcl' := hX.cap
  have hle' := hX.le
  unfold maxLen at hcl hcl'
  go_enter Try.func23, Try.ntmps23
  go_wp2_with fail
  have KP : Kp w ((w.alloc (.cells #[.slice A n' c, .int .i64 at_, .slice B m d] 27)).alloc (.cells #[.slice A' n' c', .int .i64 at_, .slice B' m' d'] 37)) := ((Kp.refl _).alloc _).alloc _
  have bp := (Bx.new w #[.slice A n' c, .int .i64 at_, .slice B m d] 27).alloc (.cells #[.slice A' n' c', .int .i64 at_, .slice B' m' d'] 37)
  have bx := Bx.new (w.alloc (.cells #[.slice A n' c, .int .i64 at_, .slice B m d] 27)) #[.slice A' n' c', .int .i64 at_, .slice B' m' d'] 37
  rw [World.size_alloc] at bx
  generalize (w.alloc (.cells #[.slice A n' c, .int .i64 at_, .slice B m d] 27)).alloc (.cells #[.slice A' n' c', .int .i64 at_, .slice B' m' d'] 37) = W0 at *
  refine (past_line F F F F A B C n' c m d k e_ at_ i L st now W0 (hT.kp KP) (hS.kp KP) (hN.kp KP) hn hm hk HL.out).mono ?_
  rintro e w1 ⟨A1, n1, c1, rfl, hr1, k1⟩
  have bp := bp.kp k1
  have bx := bx.kp k1
  have KP := KP.trans k1
  clear k1
  obtain ⟨p0, p1, p2, q0, q1, q2⟩ := bx.three
  go_wp2_with fail
  refine (refLine_any F A' B' C n' c' m' d' k e_ at_ i L.reverse st now w1 (hX.kp KP) (hS'.kp KP) (hN.kp KP)).mono ?_
  rintro e w2 ⟨A2, n2, c2, rfl, hr2, k2⟩
  rw [lineR_rev] at hr2 ⊢
  have hr1 := hr1.kp k2
  have bp := bp.kp k2
  have bx := bx.kp k2
  have KP := KP.trans k2
  clear k2 p0 p1 p2 q0 q1 q2
  generalize lineM L at_ st i now = o at *
  generalize o.getD [] = x at *
  have hx : sameB x x = true := (sameB_iff _ _).2 rfl
  have hT2 := (hT.kp KP).any
  have hX2 := (hX.kp KP).any
  have bp := bp.drew
  have bx := bx.drew
  obtain ⟨k0, k1, k2, _, _, _⟩ := bp.three
  obtain ⟨l0, l1, l2, _, _, _⟩ := bx.three
  have KK := KP.drew
  clear hT hX hS hS' hN KP
  go_wp2_with fail
  go_region_held3 (fun w' => w'.cell? ⟨w.heap.size, 0, none⟩ = some (.slice A n' c) ∧ w'.cell? ⟨w.heap.size, 1, none⟩ = some (.int .i64 at_) ∧ w'.cell? ⟨w.heap.size, 2, none⟩ = some (.slice B m d) ∧ w'.cell? ⟨w.heap.size + 1, 0, none⟩ = some (.slice A' n' c') ∧ w'.cell? ⟨w.heap.size + 1, 1, none⟩ = some (.int .i64 at_))
    (first | (with_reducible exact ⟨k0, k1, k2, l0, l1⟩) | go_keep)
    (first
      | (go_at_call 18; go_loud (refine (same_any _ _ A1 A2 n1 c1 n2 c2 x x _ (Sl.drew hr1) (Sl.drew hr2)).mono ?_); rintro e w3 ⟨rfl, hd3⟩; rw [hx]; have bp := bp.kp hd3.kp; have bx := bx.kp hd3.kp; have KK := KK.trans hd3.kp; have hT2 := hT2.kp ((Kp.refl _).drew.trans hd3.kp); have hX2 := hX2.kp ((Kp.refl _).drew.trans hd3.kp); obtain ⟨k0, k1, k2, _, _, _⟩ := bp.three; obtain ⟨l0, l1, l2, _, _, _⟩ := bx.three)
      | (go_at_call 19; go_loud (refine (past_at A B n' c m d at_ _).mono ?_); rintro e w4 ⟨rfl, hk4⟩; have bp := bp.kp hk4; have bx := bx.kp hk4; have KK := KK.trans hk4; have hT2 := hT2.kp hk4; have hX2 := hX2.kp hk4; obtain ⟨k0, k1, k2, _, _, _⟩ := bp.three; obtain ⟨l0, l1, l2, _, _, _⟩ := bx.three)
      | (go_at_call 16; go_loud (refine (past_len A B n' c m d at_ _).mono ?_); rintro e w4 ⟨rfl, hk4⟩; have bp := bp.kp hk4; have bx := bx.kp hk4; have KK := KK.trans hk4; have hT2 := hT2.kp hk4; have hX2 := hX2.kp hk4; obtain ⟨k0, k1, k2, _, _, _⟩ := bp.three; obtain ⟨l0, l1, l2, _, _, _⟩ := bx.three)
      | (go_at_call 24; go_loud (refine (past_all Any A B n' c m d at_ L _ hT2 hn HL.out).mono ?_); rintro e w5 ⟨A5, n5, c5, rfl, hT5, hk4⟩; have bp := bp.kp hk4; have bx := bx.kp hk4; have KK := KK.trans hk4; have hX2 := hX2.kp hk4; obtain ⟨k0, k1, k2, _, _, _⟩ := bp.three; obtain ⟨l0, l1, l2, _, _, _⟩ := bx.three)
      | (go_at_call 33; go_loud (refine (sameTexts_true _ _ _ _ A5 A' n5 c5 n' c' L.reverse _ hT5 hX2).mono ?_); rintro e w6 ⟨rfl, hd6⟩; have hk4 := hd6.kp; have bp := bp.kp hk4; have bx := bx.kp hk4; have KK := KK.trans hk4; obtain ⟨k0, k1, k2, _, _, _⟩ := bp.three; obtain ⟨l0, l1, l2, _, _, _⟩ := bx.three))
  all_goals go_wp2_with fail
  all_goals
    go_ret
    exact ⟨rfl, KK⟩
end Go.Proofs.Ytcbachblhfkcoaa
