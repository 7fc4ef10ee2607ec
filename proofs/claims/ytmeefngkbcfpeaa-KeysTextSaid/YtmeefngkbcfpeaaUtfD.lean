/-
  package utf: Decode: what it returns, as the plain function of UtfM; the memory that was there stays. Conditions: not more than 2^30 bytes.
-/
import Derived.Test.YtmeefngkbcfpeaaUtfF
import Derived.Deep.LoopGhost
namespace Go.Proofs.Ytmeefngkbcfpeaa
open Go.RowKit

/-- The bytes of a string as numbers. -/
def by8 (s : ByteArray) : List Int := s.data.toList.map fun b => (b.toNat : Int)
theorem by8_length (s : ByteArray) : (by8 s).length = s.size := by simp [by8]
theorem by8_bd (s : ByteArray) : ∀ b ∈ by8 s, 0 ≤ b ∧ b ≤ 255 := by
  intro b hb
  simp only [by8, List.mem_map] at hb
  obtain ⟨u, _, rfl⟩ := hb
  have := u.toNat_lt
  omega

/-- Bytes as cells. -/
def U8 (xs : List Int) : List Value := xs.map (Value.int .u8)
theorem U8_one (xs : List Int) : ∀ u ∈ U8 xs, u.oneCell' = true := by
  intro u hu
  simp [U8] at hu
  obtain ⟨x, _, rfl⟩ := hu
  rfl
/-- What '[]byte(s)' lays. -/
def brow (w : World) (s : ByteArray) (e : TypeId) : Obj := .cells (bytesRow s (grownCap w s.size 0 e)) e ((bytesRow s (grownCap w s.size 0 e)).size, (bytesRow s (grownCap w s.size 0 e)).size + 1)
def bcap (w : World) (s : ByteArray) (e : TypeId) : Nat := grownCap w s.size 0 e
theorem run_brow {P : Program} (w : World) (src dst e : TypeId) (s : ByteArray) (hs : P.underlying src = some .string) (hd : P.underlying dst = some (.slice e)) (he : P.underlying e = some (.int .u8)) :
    (convert src dst (.string s)).run P w = .ok (.slice (some ⟨w.heap.size, 0, none⟩) s.size (bcap w s e)) (w.drew.alloc (brow w s e)) := run_bytes_of_string w src dst e s hs hd he
theorem brow_sl (w wx : World) (s : ByteArray) (e : TypeId) (F : Nat → Prop) (s0 : Nat) (hs0 : w.heap.size = s0) (hF : F s0) (hs : s.size ≤ maxLen) : Sl (w.alloc (brow wx s e)) F 1 (some ⟨s0, 0, none⟩) s.size (bcap wx s e) (U8 (by8 s)) := by
  subst hs0
  refine ⟨grownCap_ge _ _ _ _, grownCap_le_maxLen _ _ _ _ hs, by simp [U8, by8_length], fun _ => ⟨_, rfl, hF, by simp, fun j u hu => ?_⟩⟩
  have hj : j < s.data.size := by
    have := (List.getElem?_eq_some_iff.1 hu).1
    simpa [U8, by8] using this
  have hb : (w.alloc (brow wx s e)).heap[w.heap.size]? = some (brow wx s e) := heap_alloc_new w _
  have ha : (⟨w.heap.size, 0, none⟩ : Addr).add j = ⟨w.heap.size, j, none⟩ := by unfold Addr.add; split <;> simp_all
  rw [ha]
  rw [cell_of_row _ _ _ _ _ _ hb, bytesRow_at s _ j hj, ← hu]
  simp [U8, by8, Array.getElem?_eq_getElem hj]

theorem Sl.weak' {w : World} {F G : Nat → Prop} {size n c : Nat} {A : Option Addr} {vs : List Value} (h : Sl w F size A n c vs) (hG : ∀ ad, A = some ad → G ad.block) : Sl w G size A n c vs :=
  ⟨h.le, h.cap, h.len, fun hn => by
    obtain ⟨ad, e, _, hb, hc⟩ := h.at_ hn
    exact ⟨ad, e, hG ad e, hb, hc⟩⟩

set_option maxHeartbeats 1600000 in
theorem decode_any (s : ByteArray) (hs : s.size ≤ 1073741824) (w : World) : Calls Try.prog 14 #[.string s] w (RetRu (decodeM (by8 s)) w) := by
  have hcv := fun wx : World => run_brow (P := Try.prog) wx 9 60 5 s Try.underlying9 Try.underlying60 Try.underlying5
  go_enter Try.func14, Try.ntmps14
  go_wp2_with fail
  go_loopg [4, 12] s.size (fun g out i wr => ∃ (k : Nat) (A : Option Addr) (m c : Nat) (d : Dm) (xs : List Int), k + g = s.size ∧ i = .int .i64 k ∧ out = .slice A m c ∧ Own wr (w.heap.size + 2) 21 1 A m c (R32 xs) ∧
    Bx wr w.heap.size #[.int .i64 d.need, .int .i64 d.has, .int .u8 d.low, .int .u8 d.high, .int .i32 d.val] 28 ∧ Sl wr (To (w.heap.size + 2)) 1 (some ⟨w.heap.size + 1, 0, none⟩) s.size (bcap (w.alloc (.cells #[.int .i64 0, .int .i64 0, .int .u8 0, .int .u8 0, .int .i32 0] 28)) s 5) (U8 (by8 s)) ∧
    w.heap.size + 2 ≤ wr.heap.size ∧ Kp w wr ∧ Hid (feedsM Dm.zero ((by8 s).take k) = (d, xs)))
  case atStart =>
    refine ⟨0, none, 0, 0, Dm.zero, [], by omega, rfl, rfl, Own.nil _ _ _ _, ?_, ?_, by simp, ?_, by show _ = _; simp [feedsM]⟩
    · exact Bx.drew (Bx.alloc (Bx.new _ _ _) _)
    · exact Sl.drew (brow_sl _ _ _ _ _ _ (by simp) (by unfold To; omega) (by unfold maxLen; omega))
    · exact ((((Kp.refl _).alloc _).alloc _).drew)
  case round =>
    obtain ⟨k, A, m, c, d, xs, hk, rfl, rfl, hown, hbx, hsl, hsz, hkp, hfe⟩ := hrel
    have hcp := hown.cap.1
    by_cases hlt : k < s.size
    · obtain ⟨ad, u, hA, hu, hc⟩ := hsl.get hlt
      have hkl : k < (by8 s).length := by rw [by8_length]; exact hlt
      have hub : u = .int .u8 ((by8 s)[k]) := by
        rw [U8, List.getElem?_map, List.getElem?_eq_getElem hkl] at hu
        simpa using hu.symm
      cases hA
      subst hub
      have hbd := by8_bd s _ (List.getElem_mem hkl)
      have hnext : Hid (feedsM Dm.zero ((by8 s).take (k + 1)) = ((feedM d (by8 s)[k]).1, xs ++ (feedM d (by8 s)[k]).2)) := by
        show _ = _
        rw [List.take_succ_eq_append_getElem hkl, feedsM_snoc, hfe.out]
      have hdok : d.ok := by
        have := feedsM_ok Dm.zero ((by8 s).take k) (.inl rfl)
        rw [hfe.out] at this
        exact this
      have hxl : xs.length ≤ 2147483648 := by
        have := feedsM_len Dm.zero ((by8 s).take k)
        rw [hfe.out] at this
        simp at this
        have h2 := by8_length s
        omega
      generalize (by8 s)[k] = b at *
      clear hkl hu hfe
      have hc' : wr.cell? ⟨w.heap.size + 1, k, none⟩ = some (.int .u8 b) := by
        have e : (⟨w.heap.size + 1, 0, none⟩ : Addr).add k = ⟨w.heap.size + 1, k, none⟩ := by unfold Addr.add; split <;> simp_all
        rw [e] at hc
        exact hc
      clear hc
      obtain ⟨p0, p1, p2, p3, p4, q0, q1, q2, q3, q4⟩ := hbx.five
      go_wp2_with fail
      refine (feed_any d hdok b hbd.1 hbd.2 wr).mono ?_
      rintro e w1 ⟨A1, n1, c1, rfl, hr1, hk1⟩
      have hn1 : n1 ≤ 2 := by have := hr1.len; have := feedM_len d b; omega
      have hxx : Hid ((feedM d b).2 = (feedM d b).2) := rfl
      obtain ⟨d1, hd1⟩ : ∃ d1, d1 = (feedM d b).1 := ⟨_, rfl⟩
      obtain ⟨ys, hys⟩ : ∃ ys, ys = (feedM d b).2 := ⟨_, rfl⟩
      rw [← hd1]
      rw [← hys] at hr1
      rw [← hd1, ← hys] at hnext
      clear hxx hd1 hys
      unfold Dm.v
      have hkp1 := hkp.trans hk1
      have hbx1 := hbx.kp hk1
      have hsl1 := hsl.kp hk1
      have hown1 := hown.kp hk1
      have hz1 := hk1.size
      have hz2 := hbx1.lt
      have by_ := Bx.new w1 #[.int .i64 d1.need, .int .i64 d1.has, .int .u8 d1.low, .int .u8 d1.high, .int .i32 d1.val] 28
      have ka := (Kp.refl w1).alloc (.cells #[.int .i64 d1.need, .int .i64 d1.has, .int .u8 d1.low, .int .u8 d1.high, .int .i32 d1.val] 28)
      have hbx2 := hbx1.kp ka
      have hsl2 := hsl1.kp ka
      have hown2 := hown1.kp ka
      have hr2 := hr1.kp ka
      have hkp2 := hkp1.trans ka
      have hrow : ∀ g, rowOf A = some g → w.heap.size + 2 ≤ g ∧ g < wr.heap.size := hown.lt
      obtain ⟨s0, s1, s2, s3, s4, _, _, _, _, _⟩ := by_.five
      have hne : w.heap.size ≠ w1.heap.size := by omega
      have HFar : ∀ (wx : World) (x y z u v : Value), Bx wx w1.heap.size #[.int .i64 d1.need, .int .i64 d1.has, .int .u8 d1.low, .int .u8 d1.high, .int .i32 d1.val] 28 → Bx (set5 wx w.heap.size x y z u v) w1.heap.size #[.int .i64 d1.need, .int .i64 d1.has, .int .u8 d1.low, .int .u8 d1.high, .int .i32 d1.val] 28 :=
        fun wx x y z u v h => (((((h.far (p := ⟨_, _, _⟩) hne.symm x).far (p := ⟨_, _, _⟩) hne.symm y).far (p := ⟨_, _, _⟩) hne.symm z).far (p := ⟨_, _, _⟩) hne.symm u).far (p := ⟨_, _, _⟩) hne.symm v)
      have HF := Lib.hid HFar
      have HR := Lib.hid hrow
      have hml : m ≤ 2147483648 := by have := hown.len; rw [R32_length] at this; omega
      clear HFar hne hrow p0 p1 p2 p3 p4 q0 q1 q2 q3 q4 hk1 hbx hbx1 hsl hsl1 hown hown1 hr1 hkp hkp1 hc' ka hdok hbd
      go_wp2_with fail
      go_region_held3 (fun w' => w'.cell? ⟨w1.heap.size, 0, none⟩ = some (.int .i64 d1.need) ∧ w'.cell? ⟨w1.heap.size, 1, none⟩ = some (.int .i64 d1.has) ∧ w'.cell? ⟨w1.heap.size, 2, none⟩ = some (.int .u8 d1.low) ∧ w'.cell? ⟨w1.heap.size, 3, none⟩ = some (.int .u8 d1.high) ∧ w'.cell? ⟨w1.heap.size, 4, none⟩ = some (.int .i32 d1.val))
        (first | (with_reducible exact ⟨u0, u1, u2, u3, u4⟩) | (have f5 := Bx.five (HF.out w4 (.int .i64 d1.need) (.int .i64 d1.has) (.int .u8 d1.low) (.int .u8 d1.high) (.int .i32 d1.val) by4); exact ⟨f5.1, f5.2.1, f5.2.2.1, f5.2.2.2.1, f5.2.2.2.2.1⟩) | go_keep)
        ((refine step_append_sl _ (by rfl) _ _ _ (by rfl) (w.heap.size + 2) 21 _ 1 4 Try.underlying23 info32 rfl (by omega) A m c (R32 xs) (by rfl) (by first | exact hown2 | exact Own.drew hown2) _ A1 n1 c1 (R32 ys) (by rfl) (by first | exact hr2 | exact Sl.drew hr2) (R32_one _) (by simp only [maxLen]; omega) (by omega) (by simp; omega) ?_; intro A4 c4 w4 hown4 hg hat; have by4 : Bx w4 w1.heap.size #[.int .i64 d1.need, .int .i64 d1.has, .int .u8 d1.low, .int .u8 d1.high, .int .i32 d1.val] 28 := Bx.grown (by first | exact by_ | exact Bx.drew by_) hg (fun h => by have := HR.out _ h; omega); have bx4 := Bx.grown (w' := w4) (row := rowOf A) (by first | exact hbx2 | exact Bx.drew hbx2) hg (fun h => by have := HR.out _ h; omega); obtain ⟨u0, u1, u2, u3, u4, _, _, _, _, _⟩ := by4.five; obtain ⟨v0, v1, v2, v3, v4, v5, v6, v7, v8, v9⟩ := bx4.five; have z4 := bx4.lt; have kp4 : Kp w w4 := Kp.grown (by first | exact hkp2 | exact Kp.drew hkp2) hg (fun g h => by have := HR.out _ h; omega); have sl4 := Sl.grown (w' := w4) (row := rowOf A) (by first | exact hsl2 | exact Sl.drew hsl2) hg (fun g h hF => by have := HR.out _ h; unfold To at hF; omega); have sz4 : w.heap.size + 2 ≤ w4.heap.size := by have := hg.size; simp at this; omega))
      go_wp2_with fail
      go_roundg (s.size - (k + 1))
      case measure => omega
      case rel =>
        have fr := set5_frame (w := w4) (b := w.heap.size) (x := .int .i64 d1.need) (y := .int .i64 d1.has) (z := .int .u8 d1.low) (u := .int .u8 d1.high) (v := .int .i32 d1.val)
        rw [R32_append] at hown4
        refine ⟨k + 1, A4, m + n1, c4, d1, xs ++ ys, by omega, by go_num, rfl, ?_, Bx.set5 bx4 _ _ _ _ _, ?_, ?_, kp4.set5 (Nat.le_refl _) _ _ _ _ _, hnext⟩
        · exact hown4.frame fun g hg => fr.2 g (by have := hown4.lt g hg; omega) (hown4.lt g hg).2
        · refine Sl.weak (F := fun k => k < w.heap.size + 2 ∧ k ≠ w.heap.size) (Sl.frame (Sl.weak' sl4 ?_) fr.1 (fun g hF hl => fr.2 g hF.2 hl)) (fun _ _ h => h.1)
          intro ad had
          cases had
          show w.heap.size + 1 < w.heap.size + 2 ∧ w.heap.size + 1 ≠ w.heap.size
          omega
        · have := fr.1; unfold set5 at this; omega
    · obtain rfl : k = s.size := by omega
      have hfe' : Hid (feedsM Dm.zero (by8 s) = (d, xs)) := by
        have := hfe.out
        rwa [List.take_of_length_le (by rw [by8_length]; omega)] at this
      have hxl : xs.length ≤ 2147483648 := by
        have := feedsM_len Dm.zero (by8 s)
        rw [hfe'.out] at this
        simp at this
        have h2 := by8_length s
        omega
      have hml : m ≤ 2147483648 := by have := hown.len; rw [R32_length] at this; omega
      clear hfe
      obtain ⟨p0, p1, p2, p3, p4, q0, q1, q2, q3, q4⟩ := hbx.five
      go_wp2_with fail
      refine (end_any d wr).mono ?_
      rintro e w1 ⟨A1, n1, c1, rfl, hr1, hk1⟩
      have hn1 : n1 ≤ 1 := by have := hr1.len; unfold endM at this; split at this <;> simp at this <;> omega
      have hkp1 := hkp.trans hk1
      have hown1 := hown.kp hk1
      have hsz1 : w.heap.size + 2 ≤ w1.heap.size := by have := hk1.size; omega
      have HE : Hid (decodeM (by8 s) = xs ++ endM d) := by show _ = _; rw [decodeM, hfe'.out]
      clear hkp hown hk1 hbx hsl p0 p1 p2 p3 p4 q0 q1 q2 q3 q4 hfe'
      go_wp2_with (at_builtin; refine wpList_append_sl _ rfl (.tmp 27) (.tmp 29) _ rfl (w.heap.size + 2) 21 _ 1 4 Try.underlying23 info32 rfl (by omega) A m c (R32 xs) rfl hown1 _ A1 n1 c1 (R32 (endM d)) rfl hr1 (R32_one _) (by simp only [maxLen]; omega) (by omega) hsz1 ?_; intro A4 c4 w4 hown4 hg hat)
      go_ret
      rw [HE.out]
      rw [R32_append] at hown4
      exact ⟨A4, m + n1, c4, rfl, Sl.weak hown4.sl (fun g _ hF => by unfold From at *; omega), hkp1.grown hg (fun g h => by have := (hown1.lt g h).1; omega)⟩
end Go.Proofs.Ytmeefngkbcfpeaa
