/-
  typebarlaw20.PastPlain: the walk: it returns true, and what was in memory stays. Conditions: the arguments can be read.
-/
import Derived.Test.YtcbachblhfkcoaaExQ
namespace Go.Proofs.Ytcbachblhfkcoaa
open Go.RowKit

/-- What the law makes of a text. -/
def plainM (s : List Int) : List Int := s.filter fun x => x != 33
def wantM (s : List Int) : List Int := s.filter fun x => x != 92
def quoteM (s : List Int) : List Int := s.flatMap fun x => if x = 92 then [] else if x = 33 then [92, 33] else [x]
theorem plainM_snoc (s : List Int) (x : Int) : plainM (s ++ [x]) = plainM s ++ (if x = 33 then [] else [x]) := by
  unfold plainM; rw [List.filter_append]; by_cases h : x = 33 <;> simp [h]
theorem wantM_snoc (s : List Int) (x : Int) : wantM (s ++ [x]) = wantM s ++ (if x = 92 then [] else [x]) := by
  unfold wantM; rw [List.filter_append]; by_cases h : x = 92 <;> simp [h]
theorem quoteM_snoc (s : List Int) (x : Int) : quoteM (s ++ [x]) = quoteM s ++ (if x = 92 then [] else if x = 33 then [92, 33] else [x]) := by
  unfold quoteM; simp
theorem plainM_len (s : List Int) : (plainM s).length ≤ s.length := List.length_filter_le _ _
theorem wantM_len (s : List Int) : (wantM s).length ≤ s.length := List.length_filter_le _ _
theorem quoteM_len (s : List Int) : (quoteM s).length ≤ 2 * s.length := by
  induction s with
  | nil => simp [quoteM]
  | cons x t ih =>
    have e : quoteM (x :: t) = (if x = 92 then [] else if x = 33 then [92, 33] else [x]) ++ quoteM t := by simp [quoteM]
    rw [e, List.length_append]
    have : (if x = 92 then ([] : List Int) else if x = 33 then [92, 33] else [x]).length ≤ 2 := by split; simp; split <;> simp
    simp only [List.length_cons]
    omega
theorem exF_plain (L : List (List Int)) : ∀ s : List Int, (∀ x ∈ s, x ≠ 33) → exF L s = some s
  | [], _ => rfl
  | c :: t, h => by
    rw [exF_chr L (h c (by simp)) (fun hh => by
      cases t with
      | nil => cases hh.2
      | cons y u => exact h y (by simp) (by simpa using hh.2)), exF_plain L t fun x hx => h x (by simp [hx])]
    rfl
theorem exF_quote (L : List (List Int)) : ∀ s : List Int, exF L (quoteM s) = some (wantM s)
  | [] => rfl
  | c :: t => by
    have e : quoteM (c :: t) = (if c = 92 then [] else if c = 33 then [92, 33] else [c]) ++ quoteM t := by simp [quoteM]
    rw [e]
    by_cases h92 : c = 92
    · rw [if_pos h92, List.nil_append, exF_quote L t]
      simp [wantM, h92]
    · rw [if_neg h92]
      by_cases h33 : c = 33
      · rw [if_pos h33]
        show exF L (92 :: 33 :: quoteM t) = _
        rw [exF_esc, exF_quote L t]
        simp [wantM, h33]
      · rw [if_neg h33]
        show exF L (c :: quoteM t) = _
        rw [exF_chr L h33 (fun hh => h92 hh.1), exF_quote L t]
        simp [wantM, h92]

/-- Three rows of the call's own. -/
def R3 (w : World) (base : Nat) (A : Option Addr) (n c : Nat) (xs : List Int) (B : Option Addr) (m d : Nat) (ys : List Int) (C : Option Addr) (k e : Nat) (zs : List Int) : Prop :=
  Own w base 21 1 A n c (R32 xs) ∧ Own w base 21 1 B m d (R32 ys) ∧ Own w base 21 1 C k e (R32 zs) ∧ (∀ g, rowOf A = some g → rowOf B ≠ some g) ∧ (∀ g, rowOf A = some g → rowOf C ≠ some g) ∧ (∀ g, rowOf B = some g → rowOf C ≠ some g)
section
variable {w wa w3 : World} {base n c m d k e : Nat} {A B C : Option Addr} {xs ys zs : List Int}
theorem R3.kp {w' : World} (h : R3 w base A n c xs B m d ys C k e zs) (kk : Kp w w') : R3 w' base A n c xs B m d ys C k e zs := ⟨h.1.kp kk, h.2.1.kp kk, h.2.2.1.kp kk, h.2.2.2⟩
theorem R3.s2 (h : R3 w base A n c xs B m d ys C k e zs) : R3 w base B m d ys A n c xs C k e zs :=
  ⟨h.2.1, h.1, h.2.2.1, fun g hb ha => h.2.2.2.1 g ha hb, h.2.2.2.2.2, h.2.2.2.2.1⟩
theorem R3.s3 (h : R3 w base A n c xs B m d ys C k e zs) : R3 w base C k e zs B m d ys A n c xs :=
  ⟨h.2.2.1, h.2.1, h.1, fun g hc hb => h.2.2.2.2.2 g hb hc, fun g hc ha => h.2.2.2.2.1 g ha hc, fun g hb ha => h.2.2.2.1 g ha hb⟩
theorem R3.app {A3 : Option Addr} {p c3 : Nat} {y : List Int} (h : R3 wa base A n c xs B m d ys C k e zs)
    (h3 : Own w3 base 21 1 A3 (n + p) c3 (R32 xs ++ R32 y)) (hg : wa.grownBy w3 (rowOf A)) (hat : rowOf A3 = rowOf A ∨ rowOf A3 = some wa.heap.size) : R3 w3 base A3 (n + p) c3 (xs ++ y) B m d ys C k e zs := by
  rw [R32_append] at h3
  refine ⟨h3, h.2.1.grown hg fun g hb ha => h.2.2.2.1 g ha hb, h.2.2.1.grown hg fun g hc ha => h.2.2.2.2.1 g ha hc, fun g ha hb => ?_, fun g ha hc => ?_, h.2.2.2.2.2⟩
  · rcases hat with e | e
    · exact h.2.2.2.1 g (e ▸ ha) hb
    · rw [e] at ha; cases ha; have := (h.2.1.lt _ hb).2; omega
  · rcases hat with e | e
    · exact h.2.2.2.2.1 g (e ▸ ha) hc
    · rw [e] at ha; cases ha; have := (h.2.2.1.lt _ hc).2; omega
end

/-- Between two rounds of the second loop. -/
def PlainI (w1 wr : World) (s : List Int) (i : Nat) (v7 v8 v9 : Value) : Prop :=
  ∃ (A : Option Addr) (n c : Nat) (B : Option Addr) (m d : Nat) (C : Option Addr) (k e : Nat), v7 = .slice A n c ∧ v8 = .slice B m d ∧ v9 = .slice C k e ∧
    R3 wr w1.heap.size A n c (plainM (s.take i)) B m d (quoteM (s.take i)) C k e (wantM (s.take i)) ∧ Kp w1 wr
theorem r3_len {w : World} {base n c : Nat} {A : Option Addr} {xs : List Int} (h : Own w base 21 1 A n c (R32 xs)) : xs.length = n := by have := h.len; rw [R32_length] at this; omega

set_option maxRecDepth 100000 in
set_option maxHeartbeats 6400000 in
theorem pastPlain_walk' (A S : Option Addr) (n c m d : Nat) (T : List (List Int)) (s : List Int) (w : World) (hT : Txs w Any Any A n c T) (hs0 : Ru w Any S m d s) :
    Calls Try.prog 7 #[.slice A n c, .slice S m d] w fun e w' => e = .returned (.bool true) ∧ Kp w w' := by
  have hnc := hT.cap
  have hnl := hT.le
  have hml := hs0.le
  have hmc := hs0.cap
  unfold maxLen at hnc hmc
  obtain ⟨F, hFd⟩ : ∃ F : Nat → Prop, F = fun k => k ≠ w.heap.size := ⟨_, rfl⟩
  have hFn : ∀ s, w.heap.size < s → ∀ k, s ≤ k → F k := fun s hs k hk => by rw [hFd]; show k ≠ _; omega
  have hFo : ∀ k, F k → k ≠ w.heap.size := fun k hk => by rw [hFd] at hk; exact hk
  have hFl : ∀ k, k < w.heap.size → F k := fun k hk => by rw [hFd]; show k ≠ _; omega
  have HFN := Lib.hid hFn
  have HFO := Lib.hid hFo
  have HFL := Lib.hid hFl
  clear hFd hFn hFo hFl
  have hs1 := Sl.take hs0 (k := min m 40) (by omega)
  rw [Nat.mul_one, R32_take] at hs1
  have HS : Hid (Ru w F S (min m 40) d (s.take (min m 40))) := Sl.weak hs1 fun k hk _ => HFL.out k hk
  clear hs1
  generalize s.take (min m 40) = s' at *
  have hq40 : min m 40 ≤ 40 := by omega
  have HFEW := Lib.hid fun wx => few_any S m d 40 hml (by unfold maxLen; omega) (by omega) wx
  have hqd : min m 40 ≤ d := by omega
  generalize min m 40 = q at *
  clear hs0 hml
  go_enter Try.func7, Try.ntmps7
  go_upto_block 0 with (go_at_call 14; refine (HFEW.out _).mono ?_; rintro e w' ⟨rfl, rfl⟩)
  go_cut [6] (fun _ wx => ∃ L' : List (List Int), Kp w wx ∧ PBox wx F w.heap.size L' 0 [] ∧ Hid (L'.length ≤ 12 ∧ ∀ x ∈ L', x.length ≤ 20))
  case first =>
    go_wp2_with fail
    go_loopg [6] 12 (fun g i wr => ∃ j : Nat, j + g = 12 ∧ i = .int .i64 j ∧ Kp w wr ∧ ∃ L' : List (List Int), PBox wr F w.heap.size L' 0 [] ∧ Hid (L'.length ≤ j ∧ ∀ x ∈ L', x.length ≤ 20))
    case atStart => exact ⟨0, rfl, rfl, (Kp.refl _).alloc _, [], ⟨none, 0, 0, none, 0, 0, Bx.new _ _ _, Txs.nil _ _ _, Ru.nil _ _⟩, ⟨by simp, by simp⟩⟩
    case round =>
      obtain ⟨j, hj, rfl, hkp, L', ⟨A1, n1, c1, B1, m1, d1, hbx, hT1, hS1⟩, hL'⟩ := hrel
      by_cases hlt : j < n ∧ j < 12
      · obtain ⟨h1, h2⟩ := hlt
        obtain ⟨ad, A2, n2, c2, rfl, hc, hr⟩ := (hT.kp hkp).get h1
        obtain ⟨p0, p1, p2, q0, q1, q2⟩ := hbx.three
        have h2b : decide ((j : Int) < 12) = true := by simp; omega
        have hn1 : n1 ≤ 500 := by have := hT1.len; have := hL'.out.1; omega
        have hr2 := Sl.take hr (k := min n2 20) (by omega)
        rw [Nat.mul_one, R32_take] at hr2
        have hlx := few_len (T[j]?.getD []) n2 20 hr.len
        have hle2 := hr.le
        have hcc2 := hr.cap
        generalize (T[j]?.getD []).take (min n2 20) = x at *
        clear hr
        go_wp2
        refine wp_region_still_tail 6 (by kernel_rfl) (by kernel_rfl) ?_
        simp only [List.take_succ_cons, List.take_zero, List.drop_succ_cons, List.drop_zero]
        repeat still_step
        still_call ((few_any A2 n2 c2 20 hle2 hcc2 (by omega) _).mono fun e w' ⟨he, hw⟩ => ⟨he, hw.symm⟩)
        repeat still_step
        refine wpStill_nil ?_
        change wpList _ _ _ _ _ wr.drew
        go_wp2_with fail
        refine (past_add F Any A1 B1 A2 n1 c1 m1 d1 (min n2 20) c2 0 L' x _ (HFN.out _ (by have := hbx.lt; simp; omega)) (hT1.kp (Kp.refl _).drew) (Sl.any (Sl.drew hr2)) (by omega) (by omega)).mono ?_
        rintro e w1 ⟨A3, n3, c3, B3, m3, d3, rfl, hT3, hS3, hk3⟩
        have b3 := (Bx.drew hbx).kp hk3
        obtain ⟨p30, p31, p32, q30, q31, q32⟩ := b3.three
        have hkp3 := hkp.drew.trans hk3
        clear hk3 p0 p1 p2 q0 q1 q2 hc hT1 hS1 hr2
        go_wp2_with fail
        go_roundg (12 - (j + 1))
        case measure => omega
        case rel =>
          refine ⟨j + 1, by omega, by go_num, hkp3.set3 (Nat.le_refl _) _ _ _, addM L' x, pbox_store HFO.out b3 hT3 hS3, ?_, fun y hy => ?_⟩
          · have := addM_length L' x; have := hL'.out.1; omega
          · rcases addM_mem hy with h | rfl
            · exact hL'.out.2 y h
            · exact hlx
      · have HI : ∃ L' : List (List Int), Kp w wr ∧ PBox wr F w.heap.size L' 0 [] ∧ Hid (L'.length ≤ 12 ∧ ∀ x ∈ L', x.length ≤ 20) := ⟨L', hkp, ⟨A1, n1, c1, B1, m1, d1, hbx, hT1, hS1⟩, ⟨by have := hL'.out.1; omega, hL'.out.2⟩⟩
        have HI := Lib.hid HI
        clear hbx hT1 hS1 hL'
        by_cases h1 : j < n
        · have h2b : decide ((j : Int) < 12) = false := by simp; omega
          clear hlt
          go_wp2
          go_meet
          exact HI.out
        · clear hlt
          go_wp2
          go_meet
          exact HI.out
  case rest =>
    obtain ⟨L', hkp, hpb, hL'⟩ := hcut
    obtain ⟨w1, hw1⟩ : ∃ w1 : World, w1 = wc := ⟨_, rfl⟩
    subst hw1
    have HS1 := Lib.hid (Ru.kp HS.out hkp)
    go_upto_block 2 with fail
    go_cut [7, 8, 9, 10] (fun v7 v8 v9 _ wx => PlainI w1 wx s' q v7 v8 v9)
    case first =>
      go_wp2_with fail
      go_loopg [7, 8, 9, 10] q (fun g v7 v8 v9 i wr => ∃ j : Nat, j + g = q ∧ i = .int .i64 j ∧ PlainI w1 wr s' j v7 v8 v9)
      case atStart => exact ⟨0, by omega, rfl, none, 0, 0, none, 0, 0, none, 0, 0, rfl, rfl, rfl, ⟨Own.nil _ _ _ _, Own.nil _ _ _ _, Own.nil _ _ _ _, fun _ h => (by cases h), fun _ h => (by cases h), fun _ h => (by cases h)⟩, Kp.refl _⟩
      case round =>
        obtain ⟨j, hj, rfl, A7, n7, c7, A8, n8, c8, A9, n9, c9, rfl, rfl, rfl, hR, hk⟩ := hrel
        by_cases hjq : j < q
        · have hjqi : (j : Int) < (q : Int) := by omega
          obtain ⟨ad, rfl, hc0⟩ := Ru.get HS1.out hjq
          have hts : s'.take (j + 1) = s'.take j ++ [s'[j]?.getD 0] := by
            have hl : j < s'.length := by rw [HS1.out.len]; exact hjq
            rw [List.take_succ_eq_append_getElem hl, List.getElem?_eq_getElem hl]; rfl
          obtain ⟨x, hx⟩ : ∃ x, x = s'[j]?.getD 0 := ⟨_, rfl⟩
          rw [← hx] at hts hc0
          have hca := cell_kp_ hk hc0
          have hl7 : n7 ≤ 40 := by have := r3_len hR.1; have := plainM_len (s'.take j); rw [List.length_take] at this; omega
          have hl8 : n8 ≤ 80 := by have := r3_len hR.2.1; have := quoteM_len (s'.take j); rw [List.length_take] at this; omega
          have hl9 : n9 ≤ 40 := by have := r3_len hR.2.2.1; have := wantM_len (s'.take j); rw [List.length_take] at this; omega
          have HTS := Lib.hid hts
          clear hx hts
          have hzr := hk.size
          by_cases h33 : x = 33
          · subst h33
            go_wp2_with (first
              | (at_builtin; refine wpList_append_sl _ rfl (.tmp 62) (.tmp 63) _ rfl w1.heap.size 21 _ 1 4 Try.underlying23 info32 rfl (by omega) A8 n8 c8 (R32 (quoteM (s'.take j))) rfl ((hR.s2).1.alloc _) Any _ 1 1 (R32 [92]) rfl (Sl.new _ _ _ _ _ trivial rfl (by omega)) (R32_one [92]) (by simp only [maxLen]; omega) (by omega) (by first | omega | (simp; omega)) ?_; intro Aa ca wa ha hga hata; have Ra := R3.app (y := [92]) (R3.kp (hR.s2) ((Kp.refl _).alloc _)) ha hga hata; have Ka := Kp.grown (hk.alloc _) hga (fun k e => ((hR.s2).1.lt k e).1); have hza := Ka.size; have hc0a := cell_kp_ Ka hc0)
              | (at_builtin; refine wpList_append_sl _ rfl (.tmp 65) (.tmp 70) _ rfl w1.heap.size 21 _ 1 4 Try.underlying23 info32 rfl (by omega) Aa (n8 + 1) ca (R32 (quoteM (s'.take j) ++ [92])) rfl ((Ra).1.alloc _) Any _ 1 1 (R32 [33]) rfl (Sl.new _ _ _ _ _ trivial rfl (by omega)) (R32_one [33]) (by simp only [maxLen]; omega) (by omega) (by first | omega | (simp; omega)) ?_; intro Ab cb wb hb hgb hatb; have Rb := R3.app (y := [33]) (R3.kp (Ra) ((Kp.refl _).alloc _)) hb hgb hatb; have Kb := Kp.grown (Ka.alloc _) hgb (fun k e => ((Ra).1.lt k e).1); have hzb := Kb.size; have hc0b := cell_kp_ Kb hc0)
              | (at_builtin; refine wpList_append_sl _ rfl (.tmp 72) (.tmp 77) _ rfl w1.heap.size 21 _ 1 4 Try.underlying23 info32 rfl (by omega) A9 n9 c9 (R32 (wantM (s'.take j))) rfl ((Rb.s3).1.alloc _) Any _ 1 1 (R32 [33]) rfl (Sl.new _ _ _ _ _ trivial rfl (by omega)) (R32_one [33]) (by simp only [maxLen]; omega) (by omega) (by first | omega | (simp; omega)) ?_; intro Ac cc wc hc hgc hatc; have Rc := R3.app (y := [33]) (R3.kp (Rb.s3) ((Kp.refl _).alloc _)) hc hgc hatc; have Kc := Kp.grown (Kb.alloc _) hgc (fun k e => ((Rb.s3).1.lt k e).1); have hzc := Kc.size; have hc0c := cell_kp_ Kc hc0))
            have RF := Rc.s2.s3.s2.s3
            clear Ra Rb Rc hR
            go_roundg (q - (j + 1))
            case measure => omega
            case rel =>
              refine ⟨j + 1, by omega, by go_num, _, _, _, _, _, _, _, _, _, rfl, rfl, rfl, ?_, Kc⟩
              rw [HTS.out, plainM_snoc, quoteM_snoc, wantM_snoc, if_pos rfl, if_neg (by decide), if_pos rfl, if_neg (by decide), List.append_nil]
              rw [List.append_assoc] at RF
              exact RF
          · by_cases h92 : x = 92
            · subst h92
              go_wp2_with (at_builtin; refine wpList_append_sl _ rfl (.tmp 45) (.tmp 50) _ rfl w1.heap.size 21 _ 1 4 Try.underlying23 info32 rfl (by omega) A7 n7 c7 (R32 (plainM (s'.take j))) rfl ((hR).1.alloc _) Any _ 1 1 (R32 [92]) rfl (Sl.new _ _ _ _ _ trivial rfl (by omega)) (R32_one [92]) (by simp only [maxLen]; omega) (by omega) (by first | omega | (simp; omega)) ?_; intro Aa ca wa ha hga hata; have Ra := R3.app (y := [92]) (R3.kp (hR) ((Kp.refl _).alloc _)) ha hga hata; have Ka := Kp.grown (hk.alloc _) hga (fun k e => ((hR).1.lt k e).1); have hza := Ka.size; have hc0a := cell_kp_ Ka hc0)
              clear hR
              go_roundg (q - (j + 1))
              case measure => omega
              case rel =>
                refine ⟨j + 1, by omega, by go_num, _, _, _, _, _, _, _, _, _, rfl, rfl, rfl, ?_, Ka⟩
                rw [HTS.out, plainM_snoc, quoteM_snoc, wantM_snoc, if_neg (by decide), if_pos rfl, if_pos rfl, List.append_nil, List.append_nil]
                exact Ra
            · have b33 : (x != 33) = true := by simpa using h33
              have b33' : (x == 33) = false := by simpa using h33
              have b92 : (x == 92) = false := by simpa using h92
              have H33 := Lib.hid h33
              have H92 := Lib.hid h92
              clear h33 h92
              go_wp2_with (first
                | (at_builtin; refine wpList_append_sl _ rfl (.tmp 45) (.tmp 50) _ rfl w1.heap.size 21 _ 1 4 Try.underlying23 info32 rfl (by omega) A7 n7 c7 (R32 (plainM (s'.take j))) rfl ((hR).1.alloc _) Any _ 1 1 (R32 [x]) rfl (Sl.new _ _ _ _ _ trivial rfl (by omega)) (R32_one [x]) (by simp only [maxLen]; omega) (by omega) (by first | omega | (simp; omega)) ?_; intro Aa ca wa ha hga hata; have Ra := R3.app (y := [x]) (R3.kp (hR) ((Kp.refl _).alloc _)) ha hga hata; have Ka := Kp.grown (hk.alloc _) hga (fun k e => ((hR).1.lt k e).1); have hza := Ka.size; have hc0a := cell_kp_ Ka hc0)
                | (at_builtin; refine wpList_append_sl _ rfl (.tmp 65) (.tmp 70) _ rfl w1.heap.size 21 _ 1 4 Try.underlying23 info32 rfl (by omega) A8 n8 c8 (R32 (quoteM (s'.take j))) rfl ((Ra.s2).1.alloc _) Any _ 1 1 (R32 [x]) rfl (Sl.new _ _ _ _ _ trivial rfl (by omega)) (R32_one [x]) (by simp only [maxLen]; omega) (by omega) (by first | omega | (simp; omega)) ?_; intro Ab cb wb hb hgb hatb; have Rb := R3.app (y := [x]) (R3.kp (Ra.s2) ((Kp.refl _).alloc _)) hb hgb hatb; have Kb := Kp.grown (Ka.alloc _) hgb (fun k e => ((Ra.s2).1.lt k e).1); have hzb := Kb.size; have hc0b := cell_kp_ Kb hc0)
                | (at_builtin; refine wpList_append_sl _ rfl (.tmp 72) (.tmp 77) _ rfl w1.heap.size 21 _ 1 4 Try.underlying23 info32 rfl (by omega) A9 n9 c9 (R32 (wantM (s'.take j))) rfl ((Rb.s3).1.alloc _) Any _ 1 1 (R32 [x]) rfl (Sl.new _ _ _ _ _ trivial rfl (by omega)) (R32_one [x]) (by simp only [maxLen]; omega) (by omega) (by first | omega | (simp; omega)) ?_; intro Ac cc wc hc hgc hatc; have Rc := R3.app (y := [x]) (R3.kp (Rb.s3) ((Kp.refl _).alloc _)) hc hgc hatc; have Kc := Kp.grown (Kb.alloc _) hgc (fun k e => ((Rb.s3).1.lt k e).1); have hzc := Kc.size; have hc0c := cell_kp_ Kc hc0))
              have RF := Rc.s2.s3.s2.s3
              clear Ra Rb Rc hR
              go_roundg (q - (j + 1))
              case measure => omega
              case rel =>
                refine ⟨j + 1, by omega, by go_num, _, _, _, _, _, _, _, _, _, rfl, rfl, rfl, ?_, Kc⟩
                rw [HTS.out, plainM_snoc, quoteM_snoc, wantM_snoc, if_neg H33.out, if_neg H92.out, if_neg H33.out, if_neg H92.out]
                exact RF
        · obtain rfl : j = q := by omega
          have HI : Hid (PlainI w1 wr s' j (.slice A7 n7 c7) (.slice A8 n8 c8) (.slice A9 n9 c9)) := ⟨A7, n7, c7, A8, n8, c8, A9, n9, c9, rfl, rfl, rfl, hR, hk⟩
          clear hR hk
          go_wp2
          go_meet
          exact HI.out
    case rest =>
      obtain ⟨A7, n7, c7, A8, n8, c8, A9, n9, c9, rfl, rfl, rfl, hR, hk⟩ := hcut
      obtain ⟨w2, hw2⟩ : ∃ w2 : World, w2 = wc := ⟨_, rfl⟩
      subst hw2
      have hsl := HS1.out.len
      rw [List.take_of_length_le (by omega)] at hR
      have hl7 : n7 ≤ 40 := by have := r3_len hR.1; have := plainM_len s'; omega
      have hl8 : n8 ≤ 80 := by have := r3_len hR.2.1; have := quoteM_len s'; omega
      obtain ⟨A1, n1, c1, B1, m1, d1, hbx, hT1, hS1⟩ := hpb.kp hk
      have hn1 : n1 ≤ 12 := by rw [← hT1.len]; exact hL'.out.1
      have hm1 : m1 = 0 := hS1.len.symm
      have HL60 := Lib.hid fun (y : List Int) (hy : y ∈ L') => show y.length ≤ 60 by have := hL'.out.2 y hy; omega
      obtain ⟨r0, r1, r2, r3, r4, r5⟩ := hbx.three
      have r7 := hR.1.sl
      have r8 := hR.2.1.sl
      have r9 := hR.2.2.1.sl
      have HC1 := Lib.hid (expand_any F F _ F A1 B1 A7 n1 c1 m1 d1 n7 c7 0 L' [] (plainM s') w2 hT1 hS1 r7 (by omega) (by omega) (by omega) HL60.out)
      have HC2 := Lib.hid fun wx (kk : Kp w2 wx) => expand_any F F _ F A1 B1 A8 n1 c1 m1 d1 n8 c8 0 L' [] (quoteM s') wx (hT1.kp kk) (hS1.kp kk) (Sl.kp r8 kk) (by omega) (by omega) (by omega) HL60.out
      rw [exF_plain L' (plainM s') (fun x hx => by unfold plainM at hx; simpa using (List.mem_filter.1 hx).2)] at HC1
      rw [exF_quote L' s'] at HC2
      clear hpb hT1 hS1 hm1 hR
      go_wp2_with fail
      refine HC1.out.mono ?_
      rintro e w3 ⟨A3, n3, c3, er, rfl, her, hr3, k2⟩
      obtain rfl : er = 0 := her.out
      obtain ⟨x0, x1, x2, x3, x4, x5⟩ := (hbx.kp k2).three
      clear r0 r1 r2 r3 r4 r5
      go_wp2_with fail
      refine (HC2.out _ k2).mono ?_
      rintro e w4 ⟨A4, n4, c4, er2, rfl, her2, hr4, k3⟩
      obtain rfl : er2 = 0 := her2.out
      have KK := (hkp.trans hk).trans (k2.trans k3)
      have HSM := Lib.hid (same_any _ _ A3 A7 n3 c3 n7 c7 (plainM s') (plainM s') w4 (Ru.kp hr3 k3) (Sl.kp r7 (k2.trans k3)))
      have HSM2 := Lib.hid fun wx (kk : Kp w4 wx) => same_any _ _ A4 A9 n4 c4 n9 c9 (wantM s') (wantM s') wx (Ru.kp hr4 kk) (Sl.kp r9 ((k2.trans k3).trans kk))
      rw [show sameB (plainM s') (plainM s') = true from (sameB_iff _ _).2 rfl] at HSM
      rw [show sameB (wantM s') (wantM s') = true from (sameB_iff _ _).2 rfl] at HSM2
      clear x0 x1 x2 x3 x4 x5 hr3 hr4 r7 r8 r9 her her2
      go_wp2_with fail
      refine HSM.out.mono ?_
      rintro e w5 ⟨rfl, hd⟩
      go_wp2_with fail
      refine (HSM2.out _ hd.kp).mono ?_
      rintro e w6 ⟨rfl, hd2⟩
      have KK6 := (KK.trans hd.kp).trans hd2.kp
      go_wp2_with fail
      refine (awake20 w6).mono ?_
      rintro e w7 ⟨rfl, hk7⟩
      go_wp2_with fail
      go_ret
      exact ⟨rfl, KK6.trans hk7⟩
/-- As the frame asks it. -/
theorem pastPlain_walk {w0 : World} (A : Option Addr) (n c : Nat) (L : List (List Int)) (hT : Txs w0 Any Any A n c L) (_ : ∀ l ∈ L, ∀ y ∈ l, (Lit.int .i32 y).wf = true)
    (B : Option Addr) (m d : Nat) (now : List Int) (hN : Ru w0 Any B m d now) (_ : ∀ y ∈ now, (Lit.int .i32 y).wf = true) (w : World) (hw : w = w0 := by rfl) :
    Calls Try.prog 7 #[.slice A n c, .slice B m d] w fun e w' => e = .returned (.bool true) ∧ Kp w w' := by
  subst hw
  exact pastPlain_walk' A B n c m d L now w hT hN
end Go.Proofs.Ytcbachblhfkcoaa
