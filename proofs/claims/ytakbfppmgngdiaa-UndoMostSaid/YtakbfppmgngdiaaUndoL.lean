/-
  package undo: Stack.All: the line ahead of the oldest group, and the cursor there. Conditions: the groups and the line can be read, and are not too long.
-/
import Derived.Test.YtakbfppmgngdiaaUndoU
namespace Go.Proofs.Ytakbfppmgngdiaa
open Go.RowKit

theorem undoL_len : ∀ {es : List Ed} {l l' : List Int}, undoL es l = some l' → (∀ e ∈ es, e.old.length ≤ 1000) → l'.length ≤ l.length + 1000 * es.length
  | [], l, l', h, _ => by cases h; simp
  | e :: r, l, l', h, hb => by
    unfold undoL at h
    cases hd : doM e.back l with
    | none => rw [hd] at h; cases h
    | some l1 =>
      rw [hd] at h
      have h1 := doM_len hd
      have h2 := undoL_len h fun e he => hb e (by simp [he])
      have h3 : e.back.new.length ≤ 1000 := hb e (by simp)
      simp only [List.length_cons]
      omega
/-- How many edits. -/
def tot : List Grp → Nat
  | [] => 0
  | g :: r => g.es.length + tot r
theorem tot_append (p q : List Grp) : tot (p ++ q) = tot p + tot q := by
  induction p with
  | nil => simp [tot]
  | cons g r ih => simp [tot, ih]; omega
theorem tot_mem {gs : List Grp} {g : Grp} (h : g ∈ gs) : g.es.length ≤ tot gs := by
  induction gs with
  | nil => cases h
  | cons a r ih =>
    rcases List.mem_cons.1 h with rfl | h
    · unfold tot; omega
    · have := ih h; unfold tot; omega
/-- What is good enough to be undone. -/
def okE (e : Ed) : Prop := e.old.length ≤ 1000 ∧ e.new.length ≤ 1000 ∧ e.at_ ≤ 9223372036854775807
def okG (g : Grp) : Prop := ∀ e ∈ g.es, okE e
theorem undoM_len {g : Grp} {l l' : List Int} (hg : okG g) (h : undoM g l = some l') : l'.length ≤ l.length + 1000 * g.es.length := by
  have := undoL_len h fun e he => (hg e (List.mem_reverse.1 he)).1
  simpa using this
/-- One group more. -/
theorem allM_snoc (p : List Grp) (g : Grp) (l : List Int) (c : Int) : allM (p ++ [g]) l c = match undoM g l with | some l' => allM p l' g.cur | none => none := by
  unfold allM
  rw [List.reverse_append]
  rfl
theorem allM_nil (l : List Int) (c : Int) : allM [] l c = some (l, c) := rfl

theorem retLast_info {gs : List Grp} {n : Nat} {w0 w w' : World} {e : Ending} (h : RetLast gs w0 w e w') (hl : gs.length = n) : ∃ E m d gc, e = .returned (.tuple #[.agg #[.slice E m d, .int .i64 gc], .bool (decide (0 < n))]) ∧ Kp w w' ∧
    ∀ g, 0 < n → gs[n - 1]? = some g → gc = g.cur ∧ EdsF (From w.heap.size) w0 w' E m d g.es := by
  unfold RetLast at h
  rcases Nat.eq_zero_or_pos n with h0 | h0
  · have hg : gs = [] := List.eq_nil_of_length_eq_zero (by omega)
    subst hg
    subst h0
    obtain ⟨h1, h2⟩ := h
    exact ⟨none, 0, 0, 0, h1, h2, fun g h => absurd h (by omega)⟩
  · obtain ⟨g, hg, hgl, -, -⟩ := last_split (gs := gs) (n := n - 1) (by omega)
    rw [hgl] at h
    obtain ⟨B, m, d, h1, h2, h3⟩ := h
    refine ⟨B, m, d, g.cur, ?_, h3, fun g' _ h' => ?_⟩
    · rw [h1]; simp [h0]
    · rw [hg] at h'
      cases h'
      exact ⟨rfl, h2⟩

def RetAll (o : Option (List Int × Int)) (w : World) (e : Ending) (w' : World) : Prop :=
  match o with
  | some (l, c) => ∃ A n d, e = .returned (.tuple #[.slice A n d, .int .i64 c, .bool true]) ∧ Ru w' Any A n d l ∧ Kp w w'
  | none => e = .returned (.tuple #[.slice none 0 0, .int .i64 0, .bool false]) ∧ Kp w w'

/-- Ahead of a round: k groups are left. -/
def AllJ (w wr : World) (A : Option Addr) (n c : Nat) (gs : List Grp) (line : List Int) (cur : Int) (k : Nat) (v1 v2 v10 v11 : Value) : Prop :=
  ∃ A1 n1 c1 l1 cur1 b ck, v1 = .slice A1 n1 c1 ∧ v2 = .int .i64 cur1 ∧ v10 = .pointer (some ⟨b, 0, none⟩) ∧ v11 = .bool (decide (0 < k)) ∧ w.heap.size < b ∧ Bx wr w.heap.size #[.slice A k ck] 47 ∧ k ≤ n ∧ k ≤ ck ∧ ck ≤ c ∧
    Ru wr (fun g => g ≠ w.heap.size ∧ g ≠ b) A1 n1 c1 l1 ∧ (∃ E m d gc, Bx wr b #[.slice E m d, .int .i64 gc] 62 ∧ ∀ g, 0 < k → gs[k - 1]? = some g → gc = g.cur ∧ EdsF (fun g => g ≠ w.heap.size ∧ g ≠ b) w wr E m d g.es) ∧
    Kp w wr ∧ Hid (allM gs line cur = allM (gs.take k) l1 cur1 ∧ l1.length + 1000 * tot (gs.take k) ≤ line.length + 1000 * tot gs)

theorem retAll_some {o : Option (List Int × Int)} {w w' : World} {e : Ending} {A : Option Addr} {n d : Nat} {l : List Int} {c : Int} (ho : o = some (l, c)) (he : e = .returned (.tuple #[.slice A n d, .int .i64 c, .bool true])) (h : Ru w' Any A n d l) (k : Kp w w') : RetAll o w e w' := by
  subst ho; exact ⟨A, n, d, he, h, k⟩
theorem retAll_none {o : Option (List Int × Int)} {w w' : World} {e : Ending} (ho : o = none) (he : e = .returned (.tuple #[.slice none 0 0, .int .i64 0, .bool false])) (k : Kp w w') : RetAll o w e w' := by
  subst ho; exact ⟨he, k⟩
theorem take_next {gs : List Grp} {g : Grp} {k : Nat} (h0 : 0 < k) (h : gs[k - 1]? = some g) : gs.take k = gs.take (k - 1) ++ [g] := by
  obtain ⟨j, rfl⟩ : ∃ j, k = j + 1 := ⟨k - 1, by omega⟩
  rw [List.take_add_one]
  simp at h ⊢
  rw [h]
theorem tot_next {gs : List Grp} {g : Grp} {k : Nat} (h : gs.take k = gs.take (k - 1) ++ [g]) : tot (gs.take k) = tot (gs.take (k - 1)) + g.es.length := by
  rw [h, tot_append]; rfl

set_option maxRecDepth 100000 in
set_option maxHeartbeats 6400000 in
theorem undo_all (A B : Option Addr) (n c m d : Nat) (gs : List Grp) (line : List Int) (cur : Int) (w : World) (hG : Grps w A n c gs) (hL : Ru w Any B m d line) (hm : m ≤ 1000000) (ht : tot gs ≤ 2000) (hok : ∀ g ∈ gs, okG g) :
    Calls Try.prog 35 #[.agg #[.slice A n c], .slice B m d, .int .i64 cur] w (RetAll (allM gs line cur) w) := by
  have hle := hG.le
  have hcap := hG.cap
  have HLEN := Lib.hid hG.len
  have HLL := Lib.hid hL.len
  have HOK := Lib.hid hok
  clear hok
  go_enter Try.func35, Try.ntmps35
  go_upto_region 2 with fail
  have ka := (Kp.refl w).alloc (.cells #[.slice A n c] 47)
  have b0 := Bx.new w #[.slice A n c] 47
  have hsz : (w.alloc (.cells #[.slice A n c] 47)).heap.size = w.heap.size + 1 := by simp
  generalize (w.alloc (.cells #[.slice A n c] 47)) = w1 at *
  obtain ⟨p0, p1⟩ := b0.one
  go_wp2_with fail
  refine (undo_last A n c gs w w1 hG ka (fun g hg => by have := tot_mem hg; omega)).mono ?_
  intro e w2 hlast
  obtain ⟨E, m2, d2, gc, rfl, k2, hinfo⟩ := retLast_info hlast HLEN.out
  have b2 := b0.kp k2
  have kw := ka.trans k2
  have hinfo' := Lib.hid hinfo
  clear hlast hinfo b0 p0 p1
  have hz2 := k2.size
  rw [hsz] at hz2
  have kc := (Kp.refl w2).alloc (.cells #[.slice E m2 d2, .int .i64 gc] 62)
  have bb := Bx.new w2 #[.slice E m2 d2, .int .i64 gc] 62
  have b3 := b2.kp kc
  have hJ : AllJ w (w2.alloc (.cells #[.slice E m2 d2, .int .i64 gc] 62)) A n c gs line cur n (.slice B m d) (.int .i64 cur) (.pointer (some ⟨w2.heap.size, 0, none⟩)) (.bool (decide (0 < n))) :=
    ⟨B, m, d, line, cur, w2.heap.size, c, rfl, rfl, rfl, rfl, by omega, b3, Nat.le_refl _, hle, Nat.le_refl _, (Sl.weak hL fun k hk _ => ⟨by omega, by omega⟩).kp (kw.trans kc),
      ⟨E, m2, d2, gc, bb, fun g h0 hg => ⟨(hinfo'.out g h0 hg).1, (((hinfo'.out g h0 hg).2).weak fun k hk h => by unfold From at h; exact ⟨by omega, by omega⟩).kp kc⟩⟩, kw.trans kc, by rw [List.take_of_length_le (by rw [HLEN.out]; omega)], by rw [List.take_of_length_le (by rw [HLEN.out]; omega)]; omega⟩
  have hd0 : decide ((0 : Int) < n) = decide (0 < n) := by simp
  clear hinfo' bb b3 kc kw b2 k2 hz2 hsz ka
  go_upto_block 0 with fail
  go_wp2_with fail
  go_loopg [1, 2, 9, 10, 11] n (fun g v1 v2 v9 v10 v11 wr => ∃ k, g = k ∧ AllJ w wr A n c gs line cur k v1 v2 v10 v11)
  case atStart => exact ⟨n, rfl, hJ⟩
  case round =>
    clear hJ hd0
    obtain ⟨k, rfl, A1, n1, c1, l1, cur1, b, ck, rfl, rfl, rfl, hv11, hb, hs, hkn, hkc, hcc, hru, ⟨E1, m1, d1, g1, hbb, hinf⟩, kw, hacc⟩ := hrel
    have HI := Lib.hid hinf
    clear hinf
    have hb' : ¬ w.heap.size = b := by omega
    rcases Nat.eq_zero_or_pos gk with hk0 | hk0
    · subst hk0
      rw [decide_eq_false (by omega)] at hv11
      subst hv11
      go_wp2_with fail
      refine bodyPost_ret (v := .tuple #[.slice A1 n1 c1, .int .i64 cur1, .bool true]) (by simp [results, Try.results35, go_sem]) rfl ?_
      exact retAll_some (by rw [hacc.out.1, List.take_zero, allM_nil]) rfl hru.any kw
    · rw [decide_eq_true hk0] at hv11
      subst hv11
      obtain ⟨g, hg⟩ : ∃ g, gs[gk - 1]? = some g := ⟨gs[gk - 1]'(by rw [HLEN.out]; omega), List.getElem?_eq_getElem _⟩
      obtain ⟨hgc, hE⟩ := HI.out g hk0 hg
      subst hgc
      have hgm : g ∈ gs := List.mem_of_getElem? hg
      have hok := HOK.out g hgm
      have hm1 : m1 ≤ 2000 := by have h1 := hE.eds kw; have := Lst.len h1; have := tot_mem hgm; omega
      have hn1 : n1 ≤ 100000000 := by have h1 := hru.len; have h2 := hacc.out.2; have := HLL.out; omega
      have htk := take_next hk0 hg
      have HTK := Lib.hid htk
      have HOKG := Lib.hid hok
      have hEd := hE.eds kw
      clear htk hok hg hgm hE
      obtain ⟨s0, s1⟩ := hs.one
      obtain ⟨t0, t1, t2, t3⟩ := hbb.two
      go_wp2_with fail
      refine (undo_undo (fun x => x ≠ w.heap.size ∧ x ≠ b) E1 A1 m1 d1 n1 c1 g l1 wr hEd hru hm1 hn1 HOKG.out).mono ?_
      intro e w3 hret
      cases hu : undoM g l1 with
      | none =>
        rw [hu] at hret
        obtain ⟨rfl, k3⟩ := hret
        have HU := Lib.hid hu
        clear hu s0 s1 t0 t1 t2 t3
        go_wp2_with fail
        refine bodyPost_ret (v := .tuple #[.slice none 0 0, .int .i64 0, .bool false]) (by simp [results, Try.results35, go_sem]) rfl ?_
        exact retAll_none (by rw [hacc.out.1, HTK.out, allM_snoc, HU.out]) rfl (kw.trans k3)
      | some l2 =>
        rw [hu] at hret
        obtain ⟨A2, n2, c2, rfl, hr2, k3⟩ := hret
        have HU := Lib.hid hu
        have hs3 := hs.kp k3
        have hbb3 := hbb.kp k3
        have hz3 := k3.size
        have hbl := hbb.lt
        clear hu s0 s1 t0 t1 t2 t3
        obtain ⟨s0, s1⟩ := hs3.one
        obtain ⟨t0, t1, t2, t3⟩ := hbb3.two
        go_upto_region 8 with fail
        go_region_with (go_at_call 29; refine (undo_drop_s A gk ck _ hk0 hkc (by omega)).mono ?_; rintro e w4 ⟨rfl, k4'⟩; have k4 : Kp w3 w4 := (by first | exact k4' | exact ((Kp.refl w3).drew).trans k4'); have hs4 := hs3.kp k4; have hb4 := hbb3.kp k4; obtain ⟨s0', s1'⟩ := hs4.one; obtain ⟨t0', t1', t2', t3'⟩ := hb4.two)
        all_goals
          have hsw : w.heap.size < wr.heap.size := hs.lt
          have s5 := hs4.set 0 (.slice A (gk - 1) (gk - 1))
          have r5 := (Sl.kp hr2 k4).setCell (p := ⟨w.heap.size, 0, none⟩) (by show ¬ (_ ∨ _); dsimp only; omega) (.slice A (gk - 1) (gk - 1))
          have k5 := ((kw.trans k3).trans k4).setCell (p := ⟨w.heap.size, 0, none⟩) (Nat.le_refl _) (.slice A (gk - 1) (gk - 1))
          have b5 := hb4.far (p := ⟨w.heap.size, 0, none⟩) (by dsimp only; omega) (.slice A (gk - 1) (gk - 1))
          have hz5 : wr.heap.size ≤ (w4.setCell ⟨w.heap.size, 0, none⟩ (.slice A (gk - 1) (gk - 1))).heap.size := by have := k4.size; simp [World.setCell]; omega
          clear s0 s1 t0 t1 t2 t3 s0' s1' t0' t1' t2' t3' hs4 hb4 k4 k4' hr2 k3 hs3 hbb3 hs hbb hz3
          generalize (w4.setCell ⟨w.heap.size, 0, none⟩ (.slice A (gk - 1) (gk - 1))) = w5 at *
          obtain ⟨t0, t1, t2, t3⟩ := b5.two
          go_upto_region 4 with fail
          have ka := (Kp.refl w5).alloc (.cells #[.slice E1 m1 d1, .int .i64 g.cur] 62)
          have b6 := Bx.new w5 #[.slice E1 m1 d1, .int .i64 g.cur] 62
          have s6 := Bx.kp s5 ka
          have r6 := Sl.kp (Sl.weak (G := fun x => x ≠ w.heap.size ∧ x ≠ w5.heap.size) r5 fun x hx h => ⟨by omega, by omega⟩) ka
          have k6 := k5.trans ka
          have hz6 : w5.heap.size < (w5.alloc (.cells #[.slice E1 m1 d1, .int .i64 g.cur] 62)).heap.size := b6.lt
          clear t0 t1 t2 t3 b5 s5 r5 k5 ka
          generalize (w5.alloc (.cells #[.slice E1 m1 d1, .int .i64 g.cur] 62)) = w6 at *
          obtain ⟨s0, s1⟩ := s6.one
          go_wp2_with fail
          refine (undo_last A (gk - 1) (gk - 1) (gs.take (gk - 1)) w w6 (Lst.take GrpV.len hG (by omega) (gk - 1) (Nat.le_refl _) (by omega)) k6 (fun g hg => by have := tot_mem (List.mem_of_mem_take hg); omega)).mono ?_
          intro e w7 hlast
          obtain ⟨E7, m7, d7, g7, rfl, k7, hinfo⟩ := retLast_info (n := gk - 1) hlast (by rw [List.length_take, HLEN.out]; omega)
          have HI7 := Lib.hid hinfo
          have b7 := b6.kp k7
          have s7 := Bx.kp s6 k7
          have r7 := Sl.kp r6 k7
          have k77 := k6.trans k7
          clear hlast hinfo b6 s6 r6 k6 s0 s1
          obtain ⟨t0, t1, t2, t3⟩ := b7.two
          go_wp2_with fail
          have b8 := (b7.set 0 (.slice E7 m7 d7)).set 1 (.int .i64 g7)
          have s8 := (s7.far (p := ⟨w5.heap.size, 0, none⟩) (by dsimp only; omega) (.slice E7 m7 d7)).far (p := ⟨w5.heap.size, 1, none⟩) (by dsimp only; omega) (.int .i64 g7)
          have r8 := (Sl.setCell r7 (p := ⟨w5.heap.size, 0, none⟩) (fun h => h.2 rfl) (.slice E7 m7 d7)).setCell (p := ⟨w5.heap.size, 1, none⟩) (fun h => h.2 rfl) (.int .i64 g7)
          have k8 := (k77.setCell (p := ⟨w5.heap.size, 0, none⟩) (by dsimp only; omega) (.slice E7 m7 d7)).setCell (p := ⟨w5.heap.size, 1, none⟩) (by dsimp only; omega) (.int .i64 g7)
          have hz7 := k7.size
          have HI8 : Hid (∀ g', 0 < gk - 1 → gs[gk - 1 - 1]? = some g' → g7 = g'.cur ∧ EdsF (fun x => x ≠ w.heap.size ∧ x ≠ w5.heap.size) w ((w7.setCell ⟨w5.heap.size, 0, none⟩ (.slice E7 m7 d7)).setCell ⟨w5.heap.size, 1, none⟩ (.int .i64 g7)) E7 m7 d7 g'.es) := fun g' h0 hg => by
            obtain ⟨h1, h2⟩ := HI7.out g' h0 (by rw [List.getElem?_take_of_lt (by omega)]; exact hg)
            exact ⟨h1, ((h2.weak (G := fun x => x ≠ w.heap.size ∧ x ≠ w5.heap.size) fun x hx h => by unfold From at h; exact ⟨by omega, by omega⟩).setCell (p := ⟨w5.heap.size, 0, none⟩) (fun h => h.2 rfl) _).setCell (p := ⟨w5.heap.size, 1, none⟩) (fun h => h.2 rfl) _⟩
          have HA : Hid (allM gs line cur = allM (gs.take (gk - 1)) l2 g.cur ∧ l2.length + 1000 * tot (gs.take (gk - 1)) ≤ line.length + 1000 * tot gs) := by
            refine ⟨by rw [hacc.out.1, HTK.out, allM_snoc, HU.out], ?_⟩
            have h1 := hacc.out.2
            have h2 := tot_next HTK.out
            have h3 := undoM_len HOKG.out HU.out
            omega
          clear HI7 b7 s7 r7 k77 t0 t1 t2 t3 k7
          go_roundg (gk - 1)
          case measure => omega
          case rel => exact ⟨gk - 1, rfl, A2, n2, c2, l2, g.cur, w5.heap.size, gk - 1, rfl, rfl, rfl, rfl, by omega, s8, by omega, Nat.le_refl _, by omega, r8, ⟨E7, m7, d7, g7, b8, HI8.out⟩, k8, HA⟩
end Go.Proofs.Ytakbfppmgngdiaa
