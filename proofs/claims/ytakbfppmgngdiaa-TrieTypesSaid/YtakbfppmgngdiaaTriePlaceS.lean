/-
  Package trie at string: place: the place of a block, as TrieM has it. Conditions: the maker is whole; not more than 10000 blocks.
-/
import Derived.Test.YtakbfppmgngdiaaTrieX
import Derived.Test.YtakbfppmgngdiaaAnyT
namespace Go.Proofs.Ytakbfppmgngdiaa
open Go.RowKit Go.Maps

/-- A value. -/
def wfS : ByteArray → Prop := fun _x => _x.size ≤ maxLen
theorem laidS : laidOutB Try.prog = true := by kernel_rfl
theorem arrKS : Keyed Try.prog 133 := Keyed.of_law (deep_law_laid laidS (m := 2) (by omega) (of_decide_eq_true (by kernel_rfl)) (by kernel_rfl) (by kernel_rfl))
theorem valKS : Keyed Try.prog 9 := string_keyed Try.underlying9
theorem injS : ∀ x y : ByteArray, (Value.string) x = (Value.string) y → x = y := fun x y h => by injection h
theorem arrKeyS (b : List ByteArray) (hb : b.length = 128) (hw : ∀ x ∈ b, wfS x) : ∃ kl, keyOf Try.prog 133 (.agg (b.map (Value.string)).toArray) = some kl :=
  ⟨_, keyOf_arr (lit := (fun s : ByteArray => Lit.string s.data.toList)) Try.underlying133 (by kernel_rfl) (by kernel_rfl) (by kernel_rfl) ⟨_, rfl⟩ b hb fun d x hx => by
    have := hw x hx
    unfold wfS at this
    simp [Program.keyLits, Try.underlying9, this]⟩
theorem infoArrS : (Try.prog.info? 133).map (fun i => (i.zero, i.size, i.bytes)) = some (some (.agg (Array.replicate 128 (.string ByteArray.empty))), 128, 2048) := by kernel_rfl
def TyS : TrTy := ⟨124, 129, 133, 9, 3⟩
theorem encOneS (b : List ByteArray) : ∀ u ∈ b.map (Value.string), u.oneCell' = true := by
  intro u hu
  obtain ⟨x, _, rfl⟩ := List.mem_map.1 hu
  rfl

abbrev TrAtS := TrB Try.prog TyS (Value.string) wfS

/-- What place and plain leave. -/
def RetPlS (w : World) (n base tB mB kB eB : Nat) (size : Int) (I : Value) (A : Option Addr) (bs : List (List ByteArray)) (k : Nat) (e : Ending) (w' : World) : Prop :=
  ∃ A' c', e = .returned (.int .i64 (k : Int)) ∧ TrAtS w' n base tB mB kB eB size I A' c' bs ∧ FrX (TrOwn tB kB eB A) w w' ∧ ∀ k, rowOf A' = some k → rowOf A = some k ∨ w.heap.size ≤ k

set_option maxRecDepth 100000 in
set_option maxHeartbeats 1600000 in
theorem placeS (n base tB mB kB eB : Nat) (size : Int) (I : Value) (A : Option Addr) (c : Nat) (bs : List (List ByteArray)) (b : List ByteArray) (w : World) (hb : b.length = 128) (hw : ∀ x ∈ b, wfS x)
    (h : TrAtS w n base tB mB kB eB size I A c bs) (hn : n ≤ 10000) (hl : bs.length ≤ 10000) :
    Calls Try.prog 62 #[.pointer (some ⟨mB, 0, none⟩), .agg (b.map (Value.string)).toArray] w (RetPlS w (n + 1) base tB mB kB eB size I A (addB bs b) (atB (addB bs b) b)) := by
  obtain ⟨kl, hkl⟩ := arrKeyS b hb hw
  obtain ⟨D, hown, hD⟩ := h.known
  obtain ⟨hh, hc⟩ := hD b hb hw kl hkl
  have HD := Lib.hid hD
  have HW := Lib.hid hw
  clear hD hw
  have kp1 : Kp w (w.alloc (.cells (b.map (Value.string)).toArray 133)) := (Kp.refl w).alloc _
  have h1 := h.kp kp1
  have bx1 := Bx.new w (b.map (Value.string)).toArray 133
  have hown1 := hown.alloc (.cells (b.map (Value.string)).toArray 133)
  have hbase := h.lt
  have hne := h.ne
  have hU := Try.underlying133
  have hI : (Try.prog.info? 133).map (·.size) = some (b.map (Value.string)).length := by rw [List.length_map, hb]; kernel_rfl
  by_cases hin : b ∈ bs
  · rw [if_pos hin] at hc
    rw [decide_eq_true hin] at hh
    have hadd : addB bs b = bs := if_pos hin
    rw [hadd]
    obtain ⟨m0, m1, m2, _, _, _⟩ := h1.mb.three
    have rg1 := bx1.range
    have H1 := Lib.hid h1
    clear h h1 bx1
    have hlk := look_run arrKS Try.underlying126 Try.underlying3 rfl hown1.drew hkl hc hh
    go_enter Try.func62, Try.ntmps62
    go_upto_region 1 with fail
    go_region_held3 (fun w' => w'.cell? ⟨mB, 1, none⟩ = some (.map (some kB)) ∧ w'.rangeAt w.heap.size 0 (b.map (Value.string))) (first | (with_reducible exact ⟨m1, rg1⟩) | go_keep) (fail)
    clear hU hI
    go_wp2_with fail
    go_ret
    exact ⟨A, c, rfl, (H1.out.kp (Kp.refl _).drew).mono (Nat.le_succ _), .of_kp kp1.drew, fun k hk => .inl hk⟩
  · rw [if_neg hin] at hc
    rw [decide_eq_false hin] at hh
    have hadd : addB bs b = bs ++ [b] := if_neg hin
    rw [atB_new hin]
    have hn1 := hown1.drew
    obtain ⟨w2, hput, hown2, hg2⟩ := World.ownsMap.update hown1.drew.drew arrKS Try.underlying126 (by unfold maxLen; omega) hkl (plainElem_int Try.underlying3 (a := (bs.length : Int)) (by simp [Lit.wf, IntKind.min, IntKind.max, IntKind.signed, IntKind.bits]; omega))
    have fr2 : FrX (fun k => k = kB) w w2 := (FrX.of_kp kp1.drew.drew).trans (.of_grown hg2 fun k hk _ => by cases hk; rfl) fun _ _ h => h
    have kno2 : Kno Try.prog 133 3 (Value.string) wfS w2 kB (n + 1) (addB bs b) := kno_put arrKS injS hown HD.out hin hkl hown2
    have tb2 := fr2.bx h.tb hne.2.1.symm
    have mb2 := fr2.bx h.mb hne.2.2.1.symm
    have bx2 := (FrX.of_grown (X := fun k => k = kB) hg2 fun k hk _ => by cases hk; rfl).bx bx1.drew.drew (by show ¬ w.heap.size = kB; omega)
    have ev2 := (h.even.frame fr2 hne.2.2.2.2.2.symm).add b
    have row2 := fr2.own h.row fun k hk e => by have := h.row.lt k hk; omega
    have hz2 := fr2.size
    have hz2' : w.heap.size < w2.heap.size := bx2.lt
    have kp2 : ∀ w0, Kp w0 w → w0.heap.size ≤ kB → Kp w0 w2 := fun w0 k hk => fr2.kp k fun b hb => by rw [hb]; exact hk
    obtain ⟨m0, m1, m2, _, _, _⟩ := h1.mb.three
    obtain ⟨t0, t1, t2, _, _, _⟩ := h1.tb.three
    have rg1 := bx1.range
    obtain ⟨m0', m1', m2', _, _, _⟩ := mb2.three
    obtain ⟨t0', t1', t2', _, _, t5'⟩ := tb2.three
    have rg1' := bx2.range
    have mb3 := mb2.drew.alloc (.cells (b.map (Value.string)).toArray 133)
    have tb3 := tb2.drew.alloc (.cells (b.map (Value.string)).toArray 133)
    have bx3 := bx2.drew.alloc (.cells (b.map (Value.string)).toArray 133)
    have row3 := row2.drew.alloc (.cells (b.map (Value.string)).toArray 133)
    have m0'' := mb3.three.1
    have t2'' := tb3.three.2.2.1
    have t5'' := tb3.three.2.2.2.2.2
    have rg1'' := bx3.range
    have hlk := look_run arrKS Try.underlying126 Try.underlying3 rfl hown1.drew hkl hc hh
    have HB := Lib.hid mb3
    have HT := Lib.hid tb3
    have HX := Lib.hid bx3
    have HROW := Lib.hid row3
    have HK2 := Lib.hid kno2
    have HE2 := Lib.hid ev2
    have HKP := Lib.hid kp2
    have HF := Lib.hid fr2
    have HLT : Hid (∀ k, rowOf A = some k → base ≤ k ∧ k < w.heap.size) := h.row.lt
    clear h h1 bx1 mb2 tb2 bx2 mb3 tb3 bx3 row2 row3 hown hown1 hown2 kno2 ev2 kp2 fr2 hg2 hn1
    go_enter Try.func62, Try.ntmps62
    go_upto_region 1 with fail
    go_region_held3 (fun w' => w'.cell? ⟨mB, 1, none⟩ = some (.map (some kB)) ∧ w'.rangeAt w.heap.size 0 (b.map (Value.string))) (first | (with_reducible exact ⟨m1, rg1⟩) | go_keep) (fail)
    go_upto_region 4 with fail
    go_region_held3 (fun w' => w'.cell? ⟨mB, 1, none⟩ = some (.map (some kB)) ∧ w'.rangeAt w.heap.size 0 (b.map (Value.string))) (first | (with_reducible exact ⟨m1, rg1⟩) | (with_reducible exact ⟨m1', rg1'⟩) | go_keep) (fail)
    go_upto_region 5 with fail
    clear rg1 hlk hput hh hc
    have hS : w2.drew.cell? ⟨mB, 0, none⟩ = some (.pointer (some ⟨tB, 0, none⟩)) ∧ w2.drew.cell? ⟨tB, 2, none⟩ = some (.slice A bs.length c) ∧ w2.drew.rangeAt w.heap.size 0 (b.map (Value.string)) := ⟨m0', t2', rg1'⟩
    refine wp_region_noPanic ?_
    refine wp_region_T (fun w' => w'.cell? ⟨mB, 0, none⟩ = some (.pointer (some ⟨tB, 0, none⟩)) ∧ w'.cell? ⟨tB, 2, none⟩ = some (.slice A bs.length c) ∧ w'.rangeAt w.heap.size 0 (b.map (Value.string))) 16 (by kernel_rfl) (by kernel_rfl) fun inv => ?_
    refine wpAnyT_take (i := 0) (v := ?v15) inv (by simp only [List.getElem?_toArray, List.getElem?_cons_zero]; rfl) (by decide) (by kernel_rfl) (by kernel_rfl) ?hQ15 hS ?hy15 (fun inv => ?rest15)
    case hy15 =>
      refine yields_mk (by rfl) fun wy hy => ?_
      obtain ⟨y0, y1, y2⟩ := hy
      go_simp
      try with_reducible rfl
    case hQ15 => exact fun _ _ _ h => h
    simp only [Act.put, List.setIfInBounds_toArray, List.set_cons_zero, List.set_cons_succ]
    refine wpAnyT_take (i := 1) (v := ?v16) inv (by simp only [List.getElem?_toArray, List.getElem?_cons_succ, List.getElem?_cons_zero]; rfl) (by decide) (by kernel_rfl) (by kernel_rfl) ?hQ16 hS ?hy16 (fun inv => ?rest16)
    case hy16 =>
      refine yields_mk (by rfl) fun wy hy => ?_
      obtain ⟨y0, y1, y2⟩ := hy
      go_simp
      try with_reducible rfl
    case hQ16 => exact fun _ _ _ h => h
    simp only [Act.put, List.setIfInBounds_toArray, List.set_cons_zero, List.set_cons_succ]
    refine wpAnyT_take (i := 2) (v := ?v17) inv (by simp only [List.getElem?_toArray, List.getElem?_cons_succ, List.getElem?_cons_zero]; rfl) (by decide) (by kernel_rfl) (by kernel_rfl) ?hQ17 hS ?hy17 (fun inv => ?rest17)
    case hy17 =>
      refine yields_mk (by rfl) fun wy hy => ?_
      obtain ⟨y0, y1, y2⟩ := hy
      go_simp
      try with_reducible rfl
    case hQ17 => exact fun _ _ _ h => h
    simp only [Act.put, List.setIfInBounds_toArray, List.set_cons_zero, List.set_cons_succ]
    refine wpAnyT_take (i := 3) (v := ?v18) inv (by simp only [List.getElem?_toArray, List.getElem?_cons_succ, List.getElem?_cons_zero]; rfl) (by decide) (by kernel_rfl) (by kernel_rfl) ?hQ18 hS ?hy18 (fun inv => ?rest18)
    case hy18 =>
      refine yields_mk (by rfl) fun wy hy => ?_
      obtain ⟨y0, y1, y2⟩ := hy
      go_simp
      try with_reducible rfl
    case hQ18 => exact fun _ _ _ h => h
    simp only [Act.put, List.setIfInBounds_toArray, List.set_cons_zero, List.set_cons_succ]
    refine wpAnyT_take (i := 4) (v := ?v19) inv (by simp only [List.getElem?_toArray, List.getElem?_cons_succ, List.getElem?_cons_zero]; rfl) (by decide) (by kernel_rfl) (by kernel_rfl) ?hQ19 hS ?hy19 (fun inv => ?rest19)
    case hy19 =>
      refine yields_mk (by rfl) fun wy hy => ?_
      obtain ⟨y0, y1, y2⟩ := hy
      go_simp
      try with_reducible rfl
    case hQ19 => exact fun _ _ _ h => h
    simp only [Act.put, List.setIfInBounds_toArray, List.set_cons_zero, List.set_cons_succ]
    refine wpAnyT_take (i := 5) (v := ?v20) inv (by simp only [List.getElem?_toArray, List.getElem?_cons_succ, List.getElem?_cons_zero]; rfl) (by decide) (by kernel_rfl) (by kernel_rfl) ?hQ20 hS ?hy20 (fun inv => ?rest20)
    case hy20 =>
      refine yields_mk (by rfl) fun wy hy => ?_
      obtain ⟨y0, y1, y2⟩ := hy
      go_simp
      try with_reducible rfl
    case hQ20 => exact fun _ _ _ h => h
    simp only [Act.put, List.setIfInBounds_toArray, List.set_cons_zero, List.set_cons_succ]
    refine wpAnyT_take (i := 6) (v := ?v21) inv (by simp only [List.getElem?_toArray, List.getElem?_cons_succ, List.getElem?_cons_zero]; rfl) (by decide) (by kernel_rfl) (by kernel_rfl) ?hQ21 hS ?hy21 (fun inv => ?rest21)
    case hy21 =>
      refine yields_mk (by rfl) fun wy hy => ?_
      obtain ⟨y0, y1, y2⟩ := hy
      go_simp
      try with_reducible rfl
    case hQ21 => exact fun _ _ _ h => h
    simp only [Act.put, List.setIfInBounds_toArray, List.set_cons_zero, List.set_cons_succ]
    refine wpAnyT_take (i := 7) (v := ?v22) inv (by simp only [List.getElem?_toArray, List.getElem?_cons_succ, List.getElem?_cons_zero]; rfl) (by decide) (by kernel_rfl) (by kernel_rfl) ?hQ22 hS ?hy22 (fun inv => ?rest22)
    case hy22 =>
      refine yields_mk (by rfl) fun wy hy => ?_
      obtain ⟨y0, y1, y2⟩ := hy
      go_simp
      try with_reducible rfl
    case hQ22 => exact fun _ _ _ h => h
    simp only [Act.put, List.setIfInBounds_toArray, List.set_cons_zero, List.set_cons_succ]
    refine wpAnyT_take (i := 8) (v := ?v23) inv (by simp only [List.getElem?_toArray, List.getElem?_cons_succ, List.getElem?_cons_zero]; rfl) (by decide) (by kernel_rfl) (by kernel_rfl) ?hQ23 hS ?hy23 (fun inv => ?rest23)
    case hy23 =>
      refine yields_mk (by rfl) fun wy hy => ?_
      obtain ⟨y0, y1, y2⟩ := hy
      go_simp
      try with_reducible rfl
    case hQ23 => exact fun _ _ _ h => h
    simp only [Act.put, List.setIfInBounds_toArray, List.set_cons_zero, List.set_cons_succ]
    refine wpAnyT_take (i := 9) (v := ?v24) inv (by simp only [List.getElem?_toArray, List.getElem?_cons_succ, List.getElem?_cons_zero]; rfl) (by decide) (by kernel_rfl) (by kernel_rfl) ?hQ24 hS ?hy24 (fun inv => ?rest24)
    case hy24 =>
      refine yields_mk (by rfl) fun wy hy => ?_
      obtain ⟨y0, y1, y2⟩ := hy
      go_simp
      try with_reducible rfl
    case hQ24 => exact fun _ _ _ h => h
    simp only [Act.put, List.setIfInBounds_toArray, List.set_cons_zero, List.set_cons_succ]
    refine wpAnyT_take (i := 10) (v := ?v25) inv (by simp only [List.getElem?_toArray, List.getElem?_cons_succ, List.getElem?_cons_zero]; rfl) (by decide) (by kernel_rfl) (by kernel_rfl) ?hQ25 hS ?hy25 (fun inv => ?rest25)
    case hy25 =>
      refine yields_mk (by rfl) fun wy hy => ?_
      obtain ⟨y0, y1, y2⟩ := hy
      go_simp
      try with_reducible rfl
    case hQ25 => exact fun _ _ _ h => h
    simp only [Act.put, List.setIfInBounds_toArray, List.set_cons_zero, List.set_cons_succ]
    refine wpAnyT_take (i := 11) (v := ?v26) inv (by simp only [List.getElem?_toArray, List.getElem?_cons_succ, List.getElem?_cons_zero]; rfl) (by decide) (by kernel_rfl) (by kernel_rfl) ?hQ26 hS ?hy26 (fun inv => ?rest26)
    case hy26 =>
      refine yields_of ?_ (yieldsIf_load_mid (by rfl) _ (.tmp 3) (by rfl) w.heap.size 0 (by rfl) _ _ (by intro wy hy; exact hy.2.2) hU rfl hI)
      with_reducible rfl
    case hQ26 => exact fun _ _ _ h => h
    simp only [Act.put, List.setIfInBounds_toArray, List.set_cons_zero, List.set_cons_succ]
    refine wpAnyT_one (i := 12) inv (by kernel_rfl) (by decide) (by simp only [List.getElem?_toArray, List.getElem?_cons_succ, List.getElem?_cons_zero]; rfl) fun K hK => ?_
    refine step_build (by rfl) _ 133 _ (by rfl) _ 128 2048 Try.underlying122 infoArrS (by omega) (by omega) (b.map (Value.string)) (by rw [List.length_map, hb]) (by rfl) ?_
    refine hK _ _ ?_ (fun inv => ?_)
    · exact ⟨m0'', t2'', rg1''⟩
    clear hK K hS
    try simp only [Act.put, List.setIfInBounds_toArray, List.set_cons_zero, List.set_cons_succ]
    refine wpAnyT_one (i := 13) inv (by kernel_rfl) (by decide) (by simp only [List.getElem?_toArray, List.getElem?_cons_succ, List.getElem?_cons_zero]; rfl) fun K hK => ?_
    refine step_append_sl _ (by rfl) _ _ _ (by rfl) base 133 _ 128 2048 Try.underlying122 infoArrS (by simp [Value.cells]) (by omega) A bs.length c (cellsB (Value.string) bs) (by rfl) HROW.out Any _ 1 1 (b.map (Value.string)) (by rfl) (Sl.new _ _ _ _ _ trivial (by simp [hb]) (by omega)) (encOneS b) (by simp only [maxLen]; omega) (by omega) (by simp; omega) ?_
    intro A4 c4 w4 hown4 hg4 hat4
    have hrow : ∀ k, rowOf A = some k → base ≤ k ∧ k < w.heap.size := HLT.out
    have mb4 := HB.out.grown hg4 (fun e => by have := hrow _ e; omega)
    have tb4 := HT.out.grown hg4 (fun e => by have := hrow _ e; omega)
    have bx4 := HX.out.grown hg4 (fun e => by have := hrow _ e; omega)
    obtain ⟨x0, x1, x2, x3, x4, x5⟩ := tb4.three
    refine hK _ _ ?_ (fun inv => ?_)
    · exact ⟨mb4.three.1, x2, bx4.range⟩
    clear hK K
    try simp only [Act.put, List.setIfInBounds_toArray, List.set_cons_zero, List.set_cons_succ]
    have hS : w4.cell? ⟨mB, 0, none⟩ = some (.pointer (some ⟨tB, 0, none⟩)) ∧ w4.cell? ⟨tB, 2, none⟩ = some (.slice A bs.length c) ∧ w4.rangeAt w.heap.size 0 (b.map (Value.string)) := ⟨mb4.three.1, x2, bx4.range⟩
    refine wpAnyT_take (i := 14) (v := ?v27) inv (by simp only [List.getElem?_toArray, List.getElem?_cons_succ, List.getElem?_cons_zero]; rfl) (by decide) (by kernel_rfl) (by kernel_rfl) ?hQ27 hS ?hy27 (fun inv => ?rest27)
    case hy27 =>
      refine yields_mk (by rfl) fun wy hy => ?_
      obtain ⟨y0, y1, y2⟩ := hy
      go_simp
      try with_reducible rfl
    case hQ27 => exact fun _ _ _ h => h
    simp only [Act.put, List.setIfInBounds_toArray, List.set_cons_zero, List.set_cons_succ]
    refine wpAnyT_take (i := 15) (v := ?v28) inv (by simp only [List.getElem?_toArray, List.getElem?_cons_succ, List.getElem?_cons_zero]; rfl) (by decide) (by kernel_rfl) (by kernel_rfl) ?hQ28 hS ?hy28 (fun inv => ?rest28)
    case hy28 =>
      refine yields_mk (by rfl) fun wy hy => ?_
      obtain ⟨y0, y1, y2⟩ := hy
      go_simp
      try with_reducible rfl
    case hQ28 => exact fun _ _ _ h => h
    simp only [Act.put, List.setIfInBounds_toArray, List.set_cons_zero, List.set_cons_succ]
    refine wpAnyT_last (by kernel_rfl) (by simp only [List.getElem?_toArray, List.getElem?_cons_succ, List.getElem?_cons_zero]; rfl) (by kernel_rfl) fun K hK => ?_
    go_simp
    refine hK _ _ ?_
    clear hK K
    refine NoPanic.normal ?_
    go_wp2_with fail
    go_ret
    have f5 : FrX (fun k => k = tB ∨ rowOf A = some k) w2 (w4.setCell ⟨tB, 2, none⟩ (.slice A4 (bs.length + 1) c4)) :=
      ((FrX.of_kp ((Kp.refl w2).drew.alloc _)).trans (.of_grown hg4 fun k hk _ => .inr hk) fun _ _ h => h).trans (.of_setCell w4 (.inl rfl) _) fun _ _ h => h
    have hk5 : ¬ (kB = tB ∨ rowOf A = some kB) := by rintro (h | h); exact hne.2.1 h; have := hrow _ h; omega
    have he5 : ¬ (eB = tB ∨ rowOf A = some eB) := by rintro (h | h); exact hne.2.2.2.1 h; have := hrow _ h; omega
    have hlen : (addB bs b).length = bs.length + 1 := by rw [hadd]; simp
    refine ⟨A4, c4, rfl, ⟨?_, mb4.far (p := ⟨tB, 2, none⟩) hne.1.symm _, ?_, HK2.out.frame f5 hk5, HE2.out.mono (Nat.le_succ _) |>.frame f5 he5, ⟨hbase.1, hbase.2.1, hbase.2.2.1, hbase.2.2.2.1, ?_⟩, hne⟩, ?_, ?_⟩
    · rw [hlen]; exact tb4.set 2 _
    · rw [hlen, hadd, cellsB_add]
      exact hown4.setCell (fun e => by have := (hown4.lt _ e).1; dsimp only at this; omega) _
    · have := f5.size; omega
    · exact (HF.out.weak fun k _ hk => .inr (.inl hk)).trans f5 fun k _ hk => by rcases hk with h | h; exact .inl h; exact .inr (.inr (.inr h))
    · intro k hk
      rcases hat4 with h | h
      · exact .inl (h ▸ hk)
      · rw [h] at hk
        cases hk
        right
        simp
        omega
end Go.Proofs.Ytakbfppmgngdiaa
