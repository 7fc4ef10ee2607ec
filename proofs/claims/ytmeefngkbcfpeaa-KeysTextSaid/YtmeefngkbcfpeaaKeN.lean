/-
  What is typed, plainly: the bytes of a scalar that is no control become its key at the last of them. Plain lemmas, no program.
-/
import Derived.Test.YtmeefngkbcfpeaaKeI
import Derived.Test.YtmeefngkbcfpeaaPutM
namespace Go.Proofs.Ytmeefngkbcfpeaa

theorem firstM_quiet {b : Int} (h : (firstM b).2 = []) : (firstM b).1.has ≠ 0 := by
  unfold firstM at h ⊢
  split at h
  · cases h
  · split at h
    · cases h
    · rename_i h1 h2
      rw [if_neg h1, if_neg h2]
      split
      · simp
      · split <;> simp
theorem feedM_quiet {d : Dm} (hd : d.ok) {b : Int} (h : (feedM d b).2 = []) : (feedM d b).1.has ≠ 0 := by
  unfold feedM at h ⊢
  split at h
  · rename_i h1
    rw [if_pos h1]
    exact firstM_quiet h
  · split at h
    · cases h
    · split at h
      · cases h
      · rename_i h1 h2 h3
        rw [if_neg h1, if_neg h2, if_neg h3]
        rcases hd with rfl | hd
        · exact absurd rfl h1
        · simp only []
          omega
/-- The key of a scalar. -/
def keyM (r : Int) : Ky := ⟨1, r, false, []⟩
theorem charsM_false (l : List Int) : charsM l false = l.map keyM := by cases l <;> simp [charsM, keyM]
theorem feedP_plain {d : Dm} {x : Int} (h27 : x ≠ 27) (hc : ctlM x = false) : feedP ⟨0, false, d, []⟩ x = (⟨0, false, (feedM d x).1, []⟩, (feedM d x).2.map keyM) := by
  unfold feedP plainM scalarM
  simp only []
  rw [if_neg (by omega), if_neg (by omega), if_neg (by omega), if_neg (by omega), if_neg h27, if_neg (by rw [hc]; simp), charsM_false]
  simp
theorem feedsP_plain : ∀ (u : List Int) (d : Dm), (∀ x ∈ u, x ≠ 27 ∧ ctlM x = false) → feedsP ⟨0, false, d, []⟩ u = (⟨0, false, (feedsM d u).1, []⟩, (feedsM d u).2.map keyM)
  | [], _, _ => rfl
  | x :: u, d, h => by
    have hx := h x (by simp)
    rw [feedsP, feedP_plain hx.1 hx.2, feedsM_cons]
    simp only []
    rw [feedsP_plain u _ (fun y hy => h y (by simp [hy]))]
    simp
theorem putI_plain {n : Int} (hv : validB n = true) (h32 : 32 ≤ n) (h127 : n ≠ 127) : ∀ x ∈ putI n, x ≠ 27 ∧ ctlM x = false := by
  rw [validB_iff] at hv
  intro x hx
  have hc : ∀ y : Int, 32 ≤ y → y ≠ 127 → y ≠ 27 ∧ ctlM y = false := fun y h1 h2 => ⟨by omega, by unfold ctlM; simp; omega⟩
  unfold putI at hx
  split at hx
  · simp at hx; subst hx; exact hc _ h32 h127
  · split at hx
    · simp at hx; rcases hx with rfl | rfl <;> exact hc _ (by omega) (by omega)
    · split at hx
      · simp at hx; rcases hx with rfl | rfl | rfl <;> exact hc _ (by omega) (by omega)
      · simp at hx; rcases hx with rfl | rfl | rfl | rfl <;> exact hc _ (by omega) (by omega)
/-- The parser before each byte of a scalar, and what the byte makes known. -/
theorem text_state {r : Int} (hv : validB r = true) (h32 : 32 ≤ r) (h127 : r ≠ 127) {k : Nat} {x : Int} (hx : (putM r)[k]? = some x) :
    (feedsP Pm.zero ((putM r).take k)).1.inn = 0 ∧ (k + 1 < (putM r).length → (feedP (feedsP Pm.zero ((putM r).take k)).1 x).2 = []) ∧
    (k + 1 = (putM r).length → feedP (feedsP Pm.zero ((putM r).take k)).1 x = (Pm.zero, [⟨1, r, false, []⟩])) := by
  have hpm : putM r = putI r := by unfold putM fixM; rw [if_pos hv]
  rw [hpm] at hx ⊢
  have hpl := putI_plain hv h32 h127
  have htot := feed_putI hv
  generalize putI r = t at *
  have hk := (List.getElem?_eq_some_iff.1 hx).1
  have hst : feedsP Pm.zero (t.take k) = (⟨0, false, (feedsM Dm.zero (t.take k)).1, []⟩, (feedsM Dm.zero (t.take k)).2.map keyM) := feedsP_plain _ _ (fun y hy => hpl y (List.mem_of_mem_take hy))
  have hxp := hpl x (List.mem_of_getElem? hx)
  rw [hst]
  simp only []
  rw [feedP_plain hxp.1 hxp.2]
  have hok : ∀ u : List Int, (feedsM Dm.zero u).1.ok := fun u => feedsM_ok Dm.zero u (.inl rfl)
  -- the last byte tells
  have hlen : t.length ≠ 0 := by omega
  have hne : t ≠ [] := by rintro rfl; simp at hlen
  obtain ⟨u, y, hu⟩ : ∃ u y, t = u ++ [y] := ⟨t.dropLast, t.getLast hne, (List.dropLast_concat_getLast hne).symm⟩
  have hs := feedsM_snoc Dm.zero u y
  rw [← hu, htot] at hs
  have h1 : (feedM (feedsM Dm.zero u).1 y).1 = Dm.zero := (congrArg Prod.fst hs).symm
  have h2 : (feedsM Dm.zero u).2 ++ (feedM (feedsM Dm.zero u).1 y).2 = [r] := (congrArg Prod.snd hs).symm
  have h3 : (feedM (feedsM Dm.zero u).1 y).2 ≠ [] := fun h => feedM_quiet (hok u) h (by rw [h1]; rfl)
  have h4 : (feedsM Dm.zero u).2 = [] := by
    cases hq : (feedsM Dm.zero u).2 with
    | nil => rfl
    | cons a l =>
      rw [hq] at h2
      simp at h2
      exact absurd h2.2.2 h3
  rw [h4, List.nil_append] at h2
  refine ⟨trivial, fun hlt => ?_, fun heq => ?_⟩
  · have hul : k + 1 ≤ u.length := by rw [hu] at hlt; simp at hlt; omega
    have hsk := feedsM_snoc Dm.zero (t.take k) x
    rw [show t.take k ++ [x] = t.take (k + 1) by rw [List.take_succ_eq_append_getElem hk, (List.getElem?_eq_some_iff.1 hx).2]] at hsk
    have hpre := feedsM_append Dm.zero (t.take (k + 1)) (u.drop (k + 1))
    have hte : t.take (k + 1) = u.take (k + 1) := by rw [hu, List.take_append_of_le_length hul]
    rw [hte, List.take_append_drop] at hpre
    have h5 : (feedsM Dm.zero (u.take (k + 1))).2 = [] := by
      have := congrArg Prod.snd hpre
      rw [h4] at this
      exact (List.append_eq_nil_iff.1 this.symm).1
    rw [hte] at hsk
    rw [hsk] at h5
    rw [(List.append_eq_nil_iff.1 h5).2]
    rfl
  · have hul : k = u.length := by rw [hu] at heq; simp at heq; omega
    subst hul
    have hxy : x = y := by rw [hu] at hx; simpa using hx.symm
    have htu : t.take u.length = u := by rw [hu, List.take_left]
    rw [htu, hxy, h1, h2]
    rfl
theorem putM_take {r : Int} {k : Nat} {x : Int} (hx : (putM r)[k]? = some x) : (putM r).take (k + 1) = (putM r).take k ++ [x] := by
  have hj := (List.getElem?_eq_some_iff.1 hx).1
  rw [List.take_succ_eq_append_getElem hj, (List.getElem?_eq_some_iff.1 hx).2]
end Go.Proofs.Ytmeefngkbcfpeaa
