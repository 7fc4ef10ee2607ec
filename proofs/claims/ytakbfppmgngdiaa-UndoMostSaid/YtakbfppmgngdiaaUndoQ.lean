/-
  undo.Add, in a group of its own, with a word on where the groups lie: what F lets, and what is new. Conditions: the groups and the edit can be read, out of blocks that F lets.
-/
import Derived.Test.YtakbfppmgngdiaaUndoA
namespace Go.Proofs.Ytakbfppmgngdiaa
open Go.RowKit

section
variable {w w' : World} {F G : Nat → Prop} {A : Option Addr} {n c : Nat} {es : List Ed} {gs : List Grp}
def EdVF (F : Nat → Prop) (w : World) (e : Ed) (cs : List Value) : Prop := ∃ A n c B m d, cs = [.int .i64 e.at_, .slice A n c, .slice B m d] ∧ Ru w F A n c e.old ∧ Ru w F B m d e.new
def EdsG (F : Nat → Prop) (w : World) (A : Option Addr) (n c : Nat) (es : List Ed) : Prop := ∃ css, Sl w F 3 A n c css.flatten ∧ RelL (EdVF F w) es css ∧ es.length = n
def GrpVF (F : Nat → Prop) (w : World) (g : Grp) (cs : List Value) : Prop := ∃ A n c, cs = [.slice A n c, .int .i64 g.cur] ∧ EdsG F w A n c g.es
def GrpsF (F : Nat → Prop) (w : World) (A : Option Addr) (n c : Nat) (gs : List Grp) : Prop := ∃ css, Sl w F 2 A n c css.flatten ∧ RelL (GrpVF F w) gs css ∧ gs.length = n
theorem EdVF.ed (e : Ed) (cs : List Value) (h : EdVF F w e cs) : EdV w e cs := by
  obtain ⟨A, n, c, B, m, d, hc, h1, h2⟩ := h
  exact ⟨A, n, c, B, m, d, hc, h1.any, h2.any⟩
theorem GrpVF.grp (g : Grp) (cs : List Value) (h : GrpVF F w g cs) : GrpV w g cs := by
  obtain ⟨A, n, c, hc, css, h1, h2, h3⟩ := h
  exact ⟨A, n, c, hc, css, h1.any, h2.mono EdVF.ed, h3⟩
theorem GrpsF.grps (h : GrpsF F w A n c gs) : Grps w A n c gs := by
  obtain ⟨css, h1, h2, h3⟩ := h
  exact ⟨css, h1.any, h2.mono GrpVF.grp, h3⟩
/-- Whatever turns nothing in F's blocks. -/
theorem EdVF.frame (hs : w.heap.size ≤ w'.heap.size) (hk : ∀ k, F k → k < w.heap.size → w'.heap[k]? = w.heap[k]?) (e : Ed) (cs : List Value) (h : EdVF F w e cs) : EdVF F w' e cs := by
  obtain ⟨A, n, c, B, m, d, hc, h1, h2⟩ := h
  exact ⟨A, n, c, B, m, d, hc, Sl.frame h1 hs hk, Sl.frame h2 hs hk⟩
theorem GrpVF.frame (hs : w.heap.size ≤ w'.heap.size) (hk : ∀ k, F k → k < w.heap.size → w'.heap[k]? = w.heap[k]?) (g : Grp) (cs : List Value) (h : GrpVF F w g cs) : GrpVF F w' g cs := by
  obtain ⟨A, n, c, hc, css, h1, h2, h3⟩ := h
  exact ⟨A, n, c, hc, css, Sl.frame h1 hs hk, h2.mono (EdVF.frame hs hk), h3⟩
theorem GrpsF.frame (h : GrpsF F w A n c gs) (hs : w.heap.size ≤ w'.heap.size) (hk : ∀ k, F k → k < w.heap.size → w'.heap[k]? = w.heap[k]?) : GrpsF F w' A n c gs := by
  obtain ⟨css, h1, h2, h3⟩ := h
  exact ⟨css, Sl.frame h1 hs hk, h2.mono (GrpVF.frame hs hk), h3⟩
theorem GrpVF.kp (k : Kp w w') (g : Grp) (cs : List Value) (h : GrpVF F w g cs) : GrpVF F w' g cs := GrpVF.frame k.size (fun i _ hi => k.block i hi) g cs h
theorem GrpsF.kp (h : GrpsF F w A n c gs) (k : Kp w w') : GrpsF F w' A n c gs := h.frame k.size (fun i _ hi => k.block i hi)
theorem GrpsF.grown {row : Option Nat} (h : GrpsF F w A n c gs) (hg : w.grownBy w' row) (hr : ∀ g, row = some g → ¬ F g) : GrpsF F w' A n c gs :=
  h.frame hg.size fun i hF hi => hg.block i hi (fun e => hr i e.symm hF)
theorem GrpsF.setCell (h : GrpsF F w A n c gs) {p : Addr} (hp : ¬ F p.block) (u : Value) : GrpsF F (w.setCell p u) A n c gs :=
  h.frame (by simp [World.setCell]) fun i hF _ => Below.heap_setCell w p u i (by rintro rfl; exact hp hF)
theorem EdVF.weak (hG : ∀ k, k < w.heap.size → F k → G k) (e : Ed) (cs : List Value) (h : EdVF F w e cs) : EdVF G w e cs := by
  obtain ⟨A, n, c, B, m, d, hc, h1, h2⟩ := h
  exact ⟨A, n, c, B, m, d, hc, h1.weak hG, h2.weak hG⟩
theorem GrpVF.weak (hG : ∀ k, k < w.heap.size → F k → G k) (g : Grp) (cs : List Value) (h : GrpVF F w g cs) : GrpVF G w g cs := by
  obtain ⟨A, n, c, hc, css, h1, h2, h3⟩ := h
  exact ⟨A, n, c, hc, css, h1.weak hG, h2.mono (EdVF.weak hG), h3⟩
theorem GrpsF.weak (h : GrpsF F w A n c gs) (hG : ∀ k, k < w.heap.size → F k → G k) : GrpsF G w A n c gs := by
  obtain ⟨css, h1, h2, h3⟩ := h
  exact ⟨css, h1.weak hG, h2.mono (GrpVF.weak hG), h3⟩
theorem GrpsF.drop (h : GrpsF F w A n c gs) {m : Nat} (hm : m ≤ n) : GrpsF F w (if c = m then A else A.map (·.add (m * 2))) (n - m) (c - m) (gs.drop m) := by
  obtain ⟨css, h1, h2, h3⟩ := h
  have h4 := Sl.drop h1 hm
  rw [flat_drop m (h2.all fun g cs h => GrpV.len g cs (GrpVF.grp g cs h))] at h4
  exact ⟨css.drop m, h4, h2.drop m, by rw [List.length_drop, h3]⟩
theorem GrpsF.nil : GrpsF F w none 0 0 [] := ⟨[], Sl.nil _ _ _, trivial, rfl⟩
end
theorem Sl.of_bxF {w : World} {F : Nat → Prop} {b : Nat} {cs : Array Value} {t : TypeId} (h : Bx w b cs t) (hF : F b) (k n : Nat) (hs : cs.size = n * k) (hn : n ≤ 1099511627776) : Sl w F k (some ⟨b, 0, none⟩) n n cs.toList :=
  ⟨Nat.le_refl _, by unfold maxLen; omega, by simp [hs], fun _ => ⟨⟨b, 0, none⟩, rfl, hF, h.lt, fun j u hu => by
    have e : (⟨b, 0, none⟩ : Addr).add j = ⟨b, j, none⟩ := by unfold Addr.add; split <;> simp_all
    rw [e, h.cell j]; simpa using hu⟩⟩
theorem grpVF_new {w : World} {F : Nat → Prop} {b : Nat} {t : TypeId} {B C : Option Addr} {m d p q : Nat} (ed : Ed) (cur : Int) (h : Bx w b #[.int .i64 ed.at_, .slice B m d, .slice C p q] t) (hF : F b) (hB : Ru w F B m d ed.old) (hC : Ru w F C p q ed.new) :
    GrpVF F w ⟨[ed], cur⟩ [.slice (some ⟨b, 0, none⟩) 1 1, .int .i64 cur] := ⟨_, _, _, rfl, [[.int .i64 ed.at_, .slice B m d, .slice C p q]], by simpa using Sl.of_bxF h hF 3 1 rfl (by omega), RelL.one ⟨B, m, d, C, p, q, rfl, hB, hC⟩, rfl⟩

def RetAddF (F : Nat → Prop) (gs : List Grp) (w : World) (e : Ending) (w' : World) : Prop := ∃ A n c, e = .returned (.agg #[.slice A n c]) ∧ GrpsF F w' A n c gs ∧ Kp w w'

set_option maxRecDepth 100000 in
set_option maxHeartbeats 3200000 in
theorem undo_add_F (F : Nat → Prop) (A B C : Option Addr) (n c m d p q : Nat) (gs : List Grp) (ed : Ed) (cur : Int) (w : World) (hFn : ∀ k, w.heap.size ≤ k → F k) (h : GrpsF F w A n c gs) (hB : Ru w F B m d ed.old) (hC : Ru w F C p q ed.new)
    (hn : n ≤ 2000) :
    Calls Try.prog 26 #[.agg #[.slice A n c], .agg #[.int .i64 ed.at_, .slice B m d, .slice C p q], .int .i64 cur, .bool false] w (RetAddF F (addM gs ed cur false) w) := by
  have hle := h.grps.le
  have hcap := h.grps.cap
  unfold maxLen at hcap
  obtain ⟨k, hk⟩ : ∃ k, k = n + 1 - 1000 := ⟨_, rfl⟩
  rw [addM_own (gs := gs) ed cur false (.inl rfl), h.grps.len, ← hk]
  have HFN := Lib.hid hFn
  clear hFn
  have HK := Lib.hid hk
  clear hk
  obtain ⟨css, hS, hR, hlen⟩ := h
  have HL := Lib.hid hlen
  have H1 := Lib.hid (Lst.one (w := w) GrpV.one (hR.mono GrpVF.grp))
  have HR := Lib.hid hR
  clear hlen hR
  go_enter Try.func26, Try.ntmps26
  go_upto_region 1 with fail
  have ka := (((Kp.refl w).alloc (.cells #[.slice A n c] 47)).alloc (.cells #[.int .i64 ed.at_, .slice B m d, .slice C p q] 56)).alloc (.cells #[.slice none 0 0] 47)
  have b0 := ((Bx.new w #[.slice A n c] 47).alloc (.cells #[.int .i64 ed.at_, .slice B m d, .slice C p q] 56)).alloc (.cells #[.slice none 0 0] 47)
  have b1 := (Bx.new (w.alloc (.cells #[.slice A n c] 47)) #[.int .i64 ed.at_, .slice B m d, .slice C p q] 56).alloc (.cells #[.slice none 0 0] 47)
  have b2 := Bx.new ((w.alloc (.cells #[.slice A n c] 47)).alloc (.cells #[.int .i64 ed.at_, .slice B m d, .slice C p q] 56)) #[.slice none 0 0] 47
  rw [World.size_alloc] at b1 b2
  rw [World.size_alloc] at b2
  have hS2 := hS.kp ka
  have hz2 : (((w.alloc (.cells #[.slice A n c] 47)).alloc (.cells #[.int .i64 ed.at_, .slice B m d, .slice C p q] 56)).alloc (.cells #[.slice none 0 0] 47)).heap.size = w.heap.size + 3 := by simp
  clear hS
  generalize (((w.alloc (.cells #[.slice A n c] 47)).alloc (.cells #[.int .i64 ed.at_, .slice B m d, .slice C p q] 56)).alloc (.cells #[.slice none 0 0] 47)) = w2 at *
  obtain ⟨b00, b01⟩ := b0.one
  go_wp2_with fail
  refine (cloneGrp_sl F A n c css.flatten w2 hS2 H1.out (by omega)).mono ?_
  rintro e w3 ⟨A3, c3, rfl, hown, k3⟩
  have b1' := b1.kp k3
  have b2' := b2.kp k3
  have kk := ka.trans k3
  have hz3 : w.heap.size + 3 ≤ w3.heap.size := by have := k3.size; omega
  rw [hz2] at hown
  clear b0 b1 b2 b00 b01 hS2 k3 ka hz2
  obtain ⟨e0, e1, e2, e3, e4, e5⟩ := b1'.three
  go_upto_region 3 with fail
  go_upto_region 7 with (at_builtin; refine wpList_append_sl _ rfl _ _ _ rfl (w.heap.size + 3) 62 _ 2 32 Try.underlying45 infoGrp rfl (by omega) A3 n c3 css.flatten rfl ((hown.alloc _).alloc _) Any _ 1 1 [.slice (some ⟨w3.heap.size, 0, none⟩) 1 1, .int .i64 cur] rfl (Sl.new_ (w3.alloc (.cells #[.int .i64 ed.at_, .slice B m d, .slice C p q] 56)) #[.slice (some ⟨w3.heap.size, 0, none⟩) 1 1, .int .i64 cur] _ 2 1 _ (by simp) trivial (by simp) (by omega)) (by simp [Value.oneCell']) (by simp only [maxLen]; omega) (by omega) (by simp; omega) ?_; intro A4 c4 w4 hown4 hg4 hat4)
  have hrow : ∀ g, rowOf A3 = some g → w.heap.size + 3 ≤ g ∧ g < w3.heap.size := hown.lt
  have kw4 : Kp w w4 := ((kk.alloc _).alloc _).grown hg4 (fun g e => by have := hrow g e; omega)
  have bE : Bx w4 w3.heap.size #[.int .i64 ed.at_, .slice B m d, .slice C p q] 56 := ((Bx.new w3 _ _).alloc _).grown hg4 (fun e => by have := hrow _ e; omega)
  have bR : Bx w4 (w.heap.size + 1 + 1) #[.slice none 0 0] 47 := ((b2'.alloc _).alloc _).grown hg4 (fun e => by have := hrow _ e; omega)
  have hrow4 : rowOf A4 ≠ some (w.heap.size + 1 + 1) := fun e => by have := (hown4.lt _ e).1; omega
  have hGL : ∀ v : Value, GrpsF F (w4.setCell ⟨w.heap.size + 1 + 1, 0, none⟩ v) A4 (n + 1) c4 (gs ++ [⟨[ed], cur⟩]) := fun v => by
    have kv := kw4.setCell (p := ⟨w.heap.size + 1 + 1, 0, none⟩) (by show w.heap.size ≤ w.heap.size + 1 + 1; omega) v
    have hs := (hown4.setCell (p := ⟨w.heap.size + 1 + 1, 0, none⟩) hrow4 v).sl.weak (G := F) fun k _ h => HFN.out k (by unfold From at h; omega)
    exact ⟨css ++ [[.slice (some ⟨w3.heap.size, 0, none⟩) 1 1, .int .i64 cur]], by rw [List.flatten_append]; simpa using hs, (HR.out.mono (GrpVF.kp kv)).app (RelL.one (grpVF_new ed cur (bE.far (p := ⟨w.heap.size + 1 + 1, 0, none⟩) (by show w3.heap.size ≠ w.heap.size + 1 + 1; omega) v) (HFN.out _ (by omega)) (hB.kp kv) (hC.kp kv))), by simp [HL.out]⟩
  have hcap4 := hown4.cap
  obtain ⟨mm, hmm⟩ : ∃ mm, mm = n + 1 := ⟨_, rfl⟩
  have hk := HK.out
  have hkm : k ≤ n + 1 := by omega
  rw [← hmm] at hGL hcap4 hkm ⊢
  have hc63 : c4 ≤ 9223372036854775807 := by have := hcap4.2; unfold maxLen at this; omega
  have hmc := hcap4.1
  have HMM := Lib.hid hmm
  clear hcap4 hrow hrow4 bE hat4 hg4 hown4 hown kk b1' b2' hk hz3 e0 e1 e2 e3 e4 e5
  obtain ⟨r0, r1⟩ := bR.one
  have hck : ¬ (c4 = k) := by have := HK.out; omega
  have HGL := Lib.hid hGL
  clear hGL
  by_cases hbig : 1000 ≤ mm
  · have ek : (mm : Int) - 1000 = (k : Int) := by have := HK.out; omega
    clear hmm
    go_wp2
    refine bodyPost_ret (v := .agg #[.slice (A4.map fun x => x.add (k * 2)) (mm - k) (c4 - k)]) (by simp [results, Try.results26, go_sem, r0]) rfl ?_
    have hGD := GrpsF.drop (HGL.out (.slice (A4.map fun x => x.add (k * 2)) (mm - k) (c4 - k))) (m := k) hkm
    rw [if_neg hck] at hGD
    exact ⟨_, _, _, rfl, hGD, kw4.setCell (by show w.heap.size ≤ w.heap.size + 1 + 1; omega) _⟩
  · have ek : (mm : Int) - 1000 < 0 := by omega
    have k0 : k = 0 := by have := HK.out; omega
    clear hmm
    go_wp2
    refine bodyPost_ret (v := .agg #[.slice A4 mm c4]) (by simp [results, Try.results26, go_sem, r0]) rfl ?_
    rw [k0, List.drop_zero]
    exact ⟨_, _, _, rfl, HGL.out _, kw4.setCell (by show w.heap.size ≤ w.heap.size + 1 + 1; omega) _⟩
end Go.Proofs.Ytakbfppmgngdiaa
