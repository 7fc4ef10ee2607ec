/-
  strings.Builder: copyCheck, WriteByte, WriteString, String, at a builder that the call made itself: it holds bytes. Conditions: not more than 2^40 bytes.
-/
import Derived.Test.YtcbachblhfkcoaaShelf
import Derived.Test.YtcbachblhfkcoaaSPutP
import Derived.Lib.Builder
namespace Go.Proofs.Ytcbachblhfkcoaa
open Go.RowKit

/-- A builder in block b holds the bytes l. -/
def Bld (w : World) (B b : Nat) (l : List Int) : Prop :=
  B ≤ b ∧ isB l ∧ ∃ (p : Option Addr) (A : Option Addr) (n c : Nat), (p = none ∨ p = some ⟨b, 0, none⟩) ∧ Bx w b #[.pointer p, .slice A n c] 100 ∧ Own w B 5 1 A n c (u8s l) ∧ rowOf A ≠ some b
/-- Below B nothing has turned. -/
theorem Kp.below_trans {w0 w w' : World} {B : Nat} (h : Kp w0 w) (hB : w0.heap.size ≤ B) (k : Below B w w') : Kp w0 w' := Below.trans h (Below.mono k hB)
theorem Bld.new (w : World) : Bld (w.alloc (.cells #[.pointer none, .slice none 0 0] 100)) w.heap.size w.heap.size [] :=
  ⟨Nat.le_refl _, isB_nil, none, none, 0, 0, .inl rfl, Bx.new _ _ _, Own.nil _ _ _ _, by simp [rowOf]⟩
theorem Bld.kp {w w' : World} {B b : Nat} {l : List Int} (h : Bld w B b l) (k : Kp w w') : Bld w' B b l := by
  obtain ⟨h1, h2, p, A, n, c, hp, hb, ho, hr⟩ := h
  exact ⟨h1, h2, p, A, n, c, hp, hb.kp k, ho.kp k, hr⟩
theorem Bld.lt {w : World} {B b : Nat} {l : List Int} (h : Bld w B b l) : B ≤ w.heap.size := by
  obtain ⟨h1, h2, p, A, n, c, hp, hb, ho, hr⟩ := h
  have := hb.lt; omega
theorem sizeB : (Try.prog.info? 100).map (·.size) = some 2 := by kernel_rfl
theorem liesB : liesAt Try.prog Try.prog.depth 100 (2 / Try.prog.cellsOf 100) 0 100 1 = true := by kernel_rfl

set_option maxHeartbeats 1000000 in
set_option maxRecDepth 100000 in
theorem bld_check (b : Nat) (p : Option Addr) (v : Value) (w : World) (hp : p = none ∨ p = some ⟨b, 0, none⟩) (hb : Bx w b #[.pointer p, v] 100) :
    Calls Try.prog 80 #[.pointer (some ⟨b, 0, none⟩)] w fun e w' => e = .returned (.tuple #[]) ∧ Bx w' b #[.pointer (some ⟨b, 0, none⟩), v] 100 ∧ (w' = w ∨ w' = w.setCell ⟨b, 0, none⟩ (.pointer (some ⟨b, 0, none⟩))) := by
  obtain ⟨j, hj, hjs⟩ := Option.map_eq_some_iff.1 sizeB
  have h0 := hb.cell 0
  have hf := hb.frozen 0
  have hsh : w.shape? b = some (100, 2) := by simp [World.shape?, show w.heap[b]? = _ from hb]
  rcases hp with rfl | rfl
  · go_enter Try.func80, Try.ntmps80
    go_wp2
    rw [Lib.run_to_unsafe w ⟨b, 0, none⟩ Try.underlying98 Try.underlying115 hj (by rw [hjs]; decide) hsh (Nat.zero_lt_succ 1)]
    simp only [Result.andThen]
    rw [Oper.upon_value]
    go_wp2
    rw [run_callFunc_extern Try.func89 (by kernel_rfl) (by kernel_rfl) (by kernel_rfl) (e := Extern.AbiNoEscape.same) (by kernel_rfl)]
    rw [Lib.run_noEscape]
    simp only [Result.andThen]
    rw [Oper.upon_value]
    go_wp2
    rw [Lib.run_from_unsafe w ⟨b, 0, none⟩ Try.underlying115 Try.underlying98 hj hsh liesB]
    simp only [Result.andThen]
    rw [Oper.upon_value]
    go_wp2
    go_end0
    exact ⟨rfl, hb.set 0 _, .inr rfl⟩
  · go_enter Try.func80, Try.ntmps80
    go_wp2
    rw [Lib.run_neq_ptr_same w _ Try.underlying98 hj]
    go_wp2
    go_end0
    exact ⟨rfl, hb, .inl rfl⟩

theorem Bld.below {w : World} {B b : Nat} {l : List Int} (h : Bld w B b l) {v : Value} {w1 : World} (h1 : w1 = w ∨ w1 = w.setCell ⟨b, 0, none⟩ v) : Below B w w1 := by
  rcases h1 with rfl | rfl
  · exact Below.refl _ _
  · exact Below.setCell (Below.refl _ _) (p := ⟨b, 0, none⟩) h.1 v
theorem Own.or_set {w w1 : World} {B b : Nat} {t : TypeId} {A : Option Addr} {n c : Nat} {xs : List Value} {v : Value} (ho : Own w B t 1 A n c xs) (hr : rowOf A ≠ some b) (h1 : w1 = w ∨ w1 = w.setCell ⟨b, 0, none⟩ v) : Own w1 B t 1 A n c xs := by
  rcases h1 with rfl | rfl
  · exact ho
  · exact ho.setCell (p := ⟨b, 0, none⟩) hr v
theorem u8s_len (l : List Int) : (u8s l).length = l.length := by simp [u8s]
theorem u8s_app (l m : List Int) : u8s (l ++ m) = u8s l ++ u8s m := by simp [u8s]

set_option maxHeartbeats 1600000 in
set_option maxRecDepth 100000 in
/-- The builder holds one byte more. -/
theorem bld_byte (B b : Nat) (l : List Int) (x : Int) (w : World) (h : Bld w B b l) (hx : 0 ≤ x ∧ x ≤ 255) (hl : l.length ≤ 1099511627776) :
    Calls Try.prog 84 #[.pointer (some ⟨b, 0, none⟩), .int .u8 x] w fun e w' => e = .returned .nilIface ∧ Bld w' B b (l ++ [x]) ∧ Below B w w' := by
  have h' := h
  obtain ⟨hB, hib, p, A, n, c, hp, hb, ho, hr⟩ := h
  have hn : n = l.length := by have := ho.len; rw [u8s_len] at this; omega
  have hnl : n ≤ 1099511627776 := by omega
  have hlt := hb.lt
  have HN := Lib.hid hn
  clear hn
  go_enter Try.func84, Try.ntmps84
  go_wp2_with fail
  refine (bld_check b p _ w hp hb).mono ?_
  rintro e w1 ⟨rfl, hb1, h1⟩
  have k1 := Bld.below h' h1
  have ho1 := ho.or_set hr h1
  have hz1 : B ≤ w1.heap.size := by have := hb1.lt; omega
  have hlt1 := hb1.lt
  clear h1 hb ho h' hp
  obtain ⟨c0, c1, f0, f1⟩ : w1.cell? ⟨b, 0, none⟩ = some (.pointer (some ⟨b, 0, none⟩)) ∧ w1.cell? ⟨b, 1, none⟩ = some (.slice A n c) ∧ w1.frozen? ⟨b, 0, none⟩ = false ∧ w1.frozen? ⟨b, 1, none⟩ = false := ⟨hb1.cell 0, hb1.cell 1, hb1.frozen 0, hb1.frozen 1⟩
  go_wp2_with (at_builtin; refine wpList_append_sl _ rfl _ _ _ rfl B 5 _ 1 1 Try.underlying61 infoU8 rfl (by omega) A n c (u8s l) rfl (ho1.alloc _) Any _ 1 1 (u8s [x]) rfl (Sl.new _ _ _ _ _ trivial rfl (by omega)) (by simp [u8s, Value.oneCell']) (by simp only [maxLen]; omega) (by omega) (by first | omega | (simp; omega)) ?_; intro A3 c3 w3 hown3 hg3 hat3; have hb3 := (hb1.alloc (.cells #[.int .u8 x] 5)).grown hg3 hr; obtain ⟨c0, c1, f0, f1⟩ : w3.cell? ⟨b, 0, none⟩ = some (.pointer (some ⟨b, 0, none⟩)) ∧ w3.cell? ⟨b, 1, none⟩ = some (.slice A n c) ∧ w3.frozen? ⟨b, 0, none⟩ = false ∧ w3.frozen? ⟨b, 1, none⟩ = false := ⟨hb3.cell 0, hb3.cell 1, hb3.frozen 0, hb3.frozen 1⟩)
  go_ret
  have hr3 : rowOf A3 ≠ some b := by
    rcases hat3 with e | e
    · rw [e]; exact hr
    · rw [e]; simp; omega
  refine ⟨rfl, ⟨hB, isB_app hib (by intro y hy; simp at hy; subst hy; exact hx), some ⟨b, 0, none⟩, A3, n + 1, c3, .inr rfl, hb3.set 1 _, ?_, hr3⟩, ?_⟩
  · rw [u8s_app]
    exact hown3.setCell (p := ⟨b, 1, none⟩) hr3 _
  · exact Below.setCell ((k1.trans (Below.alloc (Below.refl _ _) hz1 _)).grown hg3 (by simp; omega) fun k e => (ho1.lt k e).1) (p := ⟨b, 1, none⟩) hB _

set_option maxHeartbeats 1600000 in
set_option maxRecDepth 100000 in
/-- The builder holds a string's bytes more. -/
theorem bld_str (B b : Nat) (l y : List Int) (w : World) (h : Bld w B b l) (hy : isB y) (hl : l.length ≤ 1099511627776) (hyl : y.length ≤ 1099511627776) :
    Calls Try.prog 71 #[.pointer (some ⟨b, 0, none⟩), .string (bs y)] w fun e w' => e = .returned (.tuple #[.int .i64 (y.length : Int), .nilIface]) ∧ Bld w' B b (l ++ y) ∧ Below B w w' := by
  have h' := h
  obtain ⟨hB, hib, p, A, n, c, hp, hb, ho, hr⟩ := h
  have hn : n = l.length := by have := ho.len; rw [u8s_len] at this; omega
  have hnl : n ≤ 1099511627776 := by omega
  have hlt := hb.lt
  have HN := Lib.hid hn
  have HST := Lib.hid (strCells_bs hy)
  have hps := bs_size y
  obtain ⟨yl, hyd⟩ : ∃ yl, yl = y.length := ⟨_, rfl⟩
  rw [← hyd] at hps hyl ⊢
  have hbd : n + (bs y).size ≤ 140737488355328 := by rw [hps]; omega
  have HPS := Lib.hid hps
  clear hn hyd hps
  go_enter Try.func71, Try.ntmps71
  go_wp2_with fail
  refine (bld_check b p _ w hp hb).mono ?_
  rintro e w1 ⟨rfl, hb1, h1⟩
  have k1 := Bld.below h' h1
  have ho1 := ho.or_set hr h1
  have hz1 : B ≤ w1.heap.size := by have := hb1.lt; omega
  have hlt1 := hb1.lt
  clear h1 hb ho h' hp
  obtain ⟨c0, c1, f0, f1⟩ : w1.cell? ⟨b, 0, none⟩ = some (.pointer (some ⟨b, 0, none⟩)) ∧ w1.cell? ⟨b, 1, none⟩ = some (.slice A n c) ∧ w1.frozen? ⟨b, 0, none⟩ = false ∧ w1.frozen? ⟨b, 1, none⟩ = false := ⟨hb1.cell 0, hb1.cell 1, hb1.frozen 0, hb1.frozen 1⟩
  go_wp2_with (at_builtin; refine wpList_append_str _ rfl _ _ _ _ rfl B 5 Try.underlying61 Try.underlying9 infoU8 A n c (u8s l) rfl ho1 (bs y) rfl hbd hz1 ?_; intro A3 c3 w3 hown3 hg3; have hb3 := hb1.grown hg3 hr; obtain ⟨c0, c1, f0, f1⟩ : w3.cell? ⟨b, 0, none⟩ = some (.pointer (some ⟨b, 0, none⟩)) ∧ w3.cell? ⟨b, 1, none⟩ = some (.slice A n c) ∧ w3.frozen? ⟨b, 0, none⟩ = false ∧ w3.frozen? ⟨b, 1, none⟩ = false := ⟨hb3.cell 0, hb3.cell 1, hb3.frozen 0, hb3.frozen 1⟩)
  go_ret2
  rw [HST.out] at hown3
  have hr3 : rowOf A3 ≠ some b := by
    rw [← rowOf_own hown3]
    exact Lib.ownBlock_ne hown3 hb3 (by decide)
  refine ⟨by rw [HPS.out]; rfl, ⟨hB, isB_app hib hy, some ⟨b, 0, none⟩, A3, _, c3, .inr rfl, hb3.set 1 _, ?_, hr3⟩, ?_⟩
  · rw [u8s_app]
    exact hown3.setCell (p := ⟨b, 1, none⟩) hr3 _
  · exact Below.setCell (k1.grown hg3 hz1 fun k e => (ho1.lt k e).1) (p := ⟨b, 1, none⟩) hB _

theorem byteCells_bs {l : List Int} (h : isB l) : Lib.byteCells (l.map u8of) = u8s l := by
  have e := strCells_bs h
  unfold bs at e
  rwa [Lib.strCells_eq] at e
theorem Bld.is {w : World} {B b : Nat} {l : List Int} (h : Bld w B b l) : Lib.IsBuilder 100 5 B b (Lib.byteCells (l.map u8of)) w := by
  obtain ⟨hB, hib, p, A, n, c, hp, hb, ho, hr⟩ := h
  rw [byteCells_bs hib]
  have hn : n = (u8s l).length := by have := ho.len; omega
  have hat : Lib.BuilderAt 100 5 B b (.pointer p) (u8s l) w := ⟨hB, .slice A n c, hb, by rw [← hn]; exact ho, by rw [rowOf_own ho]; exact hr⟩
  rcases hp with rfl | rfl
  · exact .inl hat
  · exact .inr hat
/-- What was read of a builder, and may be read again. -/
def BldF (w : World) (B b : Nat) (l : List Int) : Prop := Lib.IsBuilderF 100 5 B b (Lib.byteCells (l.map u8of)) w ∧ B ≤ w.heap.size
theorem Bld.f {w : World} {B b : Nat} {l : List Int} (h : Bld w B b l) : BldF w B b l :=
  ⟨by
    rcases h.is with h1 | h1
    · exact .inl (Lib.BuilderAtF.of h1)
    · exact .inr (Lib.BuilderAtF.of h1), h.lt⟩
/-- The builder's bytes, as a string. -/
theorem bld_string (B b : Nat) (l : List Int) (w : World) (h : BldF w B b l) :
    Calls Try.prog 73 #[.pointer (some ⟨b, 0, none⟩)] w fun e w' => e = .returned (.string (bs l)) ∧ BldF w' B b l ∧ Below B w w' :=
  (Try.Builder_String_any_f B b (l.map u8of) w h.1 h.2).mono fun _ _ ⟨he, h1, h2⟩ => ⟨he, ⟨h1, Nat.le_trans h.2 h2.size⟩, h2⟩
end Go.Proofs.Ytcbachblhfkcoaa
