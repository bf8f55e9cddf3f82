/-
  Plain law: what AddDelivery and TryFirst leave, as their laws say it.
-/
import Derived.Test.YtadgmncngkkdnaaAdd
namespace Go.Proofs.Ytadgmncngkkdnaa
open Go.ChangeShapes Go.WideShapes Go.ChangeAt Go.RowKit Go.Joins
set_option linter.unusedVariables false

theorem ins_get {l : List De} {d : De} {q j : Nat} (hq : q ≤ l.length) : (l.take q ++ [d] ++ l.drop q)[j]? = if j < q then l[j]? else if j = q then some d else l[j - 1]? := by
  have hlt : (l.take q).length = q := by rw [List.length_take]; omega
  rw [List.append_assoc]
  by_cases h1 : j < q
  · rw [if_pos h1, List.getElem?_append_left (by omega), List.getElem?_take, if_pos h1]
  · rw [if_neg h1, List.getElem?_append_right (by omega), hlt]
    by_cases h2 : j = q
    · subst h2; simp
    · rw [if_neg h2]
      obtain ⟨m, hm⟩ : ∃ m, j - q = m + 1 := ⟨j - q - 1, by omega⟩
      rw [hm]
      show ([d] ++ l.drop q)[m + 1]? = _
      simp only [List.singleton_append, List.getElem?_cons_succ, List.getElem?_drop]
      congr 1; omega
theorem adM_get (l : List De) (d : De) (j : Nat) : (adM l d)[j]? = if j < adN l d then l[j]? else if j = adN l d then some d else l[j - 1]? := ins_get (adN_le l d)
theorem adM_at (l : List De) (d : De) : (adM l d)[adN l d]? = some d := by rw [adM_get]; simp
theorem deSm_self (d : De) : deSm d d = true := by simp [deSm]
theorem adB_parts {l : List De} {d : De} (h : adB l d = true) : deB l = true ∧ deB (adM l d) = true ∧ adL l d = adM l d := by
  have h' := h
  simp only [adB, Bool.and_eq_true] at h'
  exact ⟨h'.1, h'.2, (adL_yes h'.1 h'.2).1⟩
theorem V_ne {l : List De} (h : V deOk dePr deSm l) {i j : Nat} {y z : De} (hij : i ≠ j) (hy : l[i]? = some y) (hz : l[j]? = some z) : deSm y z = false := by
  rcases Nat.lt_or_gt_of_ne hij with hl | hl
  · exact (h j z hz).2.2 i y hl hy
  · have := (h i y hy).2.2 j z hl hz
    simp only [deSm, Bool.and_eq_false_iff, beq_eq_false_iff_ne, ne_eq] at this ⊢
    rcases this with h | h
    · exact .inl (fun e => h e.symm)
    · exact .inr (fun e => h e.symm)
/-- It cannot be added again. -/
theorem ad_again {l : List De} {d : De} : adB (adM l d) d = false := by
  cases h : adB (adM l d) d
  · rfl
  · obtain ⟨_, h2, _⟩ := adB_parts h
    have hv := deB_V h2
    generalize hx : adM l d = x at *
    have hp : x[adN l d]? = some d := by rw [← hx]; exact adM_at l d
    have hq := adM_at x d
    by_cases hlt : adN l d < adN x d
    · have hp' : (adM x d)[adN l d]? = some d := by rw [adM_get, if_pos hlt]; exact hp
      have := V_ne hv (Nat.ne_of_lt hlt) hp' hq
      rw [deSm_self] at this; cases this
    · have hp' : (adM x d)[adN l d + 1]? = some d := by rw [adM_get, if_neg (by omega), if_neg (by omega)]; exact hp
      have := V_ne hv (by omega : adN l d + 1 ≠ adN x d) hp' hq
      rw [deSm_self] at this; cases this
/-- Before its place stands another. -/
theorem ad_ne {l : List De} {d z : De} {k : Nat} (h : adB l d = true) (hz : (adM l d)[k]? = some z) (hk : k ≠ adN l d) : deSm z d = false :=
  V_ne (deB_V (adB_parts h).2.1) hk hz (adM_at l d)
/-- Without it the others are as before. -/
theorem ad_out (l : List De) (d : De) : (adM l d).take (adN l d) ++ (adM l d).drop (adN l d + 1) = l := by
  have hq := adN_le l d
  unfold adM
  generalize adN l d = q at *
  have hlt : (l.take q).length = q := by rw [List.length_take]; omega
  have e1 : (l.take q ++ [d] ++ l.drop q).take q = l.take q := by rw [List.append_assoc]; exact List.take_left' hlt
  have e2 : (l.take q ++ [d] ++ l.drop q).drop (q + 1) = l.drop q := List.drop_left' (by simp; omega)
  rw [e1, e2, List.take_append_drop]
theorem ad_lt (l : List De) (d : De) : adN l d < (adM l d).length := by rw [adM_len]; have := adN_le l d; omega
theorem deB_tail {z : De} {l : List De} (h : deB (z :: l) = true) : deB l = true := by
  simp only [deB, Bool.and_eq_true, decide_eq_true_eq, List.length_cons] at h ⊢
  exact ⟨by omega, by have := vAll_drop h.2; simpa using this⟩
theorem deB_ok {l : List De} {k : Nat} {z : De} (h : deB l = true) (hz : l[k]? = some z) : 0 ≤ z.a ∧ z.a ≤ 1000000000 ∧ wvB z.b = true ∧ 0 ≤ z.c ∧ z.c ≤ 5 ∧ 0 ≤ z.d ∧ z.d ≤ 1000000000 := by
  have := (deB_V h k z hz).1
  simp only [deOk, Bool.and_eq_true, wi_iff] at this
  exact ⟨this.1.1.1.1, this.1.1.1.2, this.1.1.2, this.1.2.1, this.1.2.2, this.2.1, this.2.2⟩

theorem ad_mem {l : List De} {d y : De} {k : Nat} (hy : (adM l d)[k]? = some y) : (k = adN l d ∧ y = d) ∨ ∃ i, l[i]? = some y ∧ ((k < adN l d ∧ i = k) ∨ (adN l d < k ∧ i + 1 = k)) := by
  rw [adM_get] at hy
  by_cases h1 : k < adN l d
  · rw [if_pos h1] at hy; exact .inr ⟨k, hy, .inl ⟨h1, rfl⟩⟩
  · rw [if_neg h1] at hy
    by_cases h2 : k = adN l d
    · rw [if_pos h2] at hy; injection hy with hy; exact .inl ⟨h2, hy.symm⟩
    · rw [if_neg h2] at hy; exact .inr ⟨k - 1, hy, .inr ⟨by omega, by omega⟩⟩
/-- A valid one that is the same as none of them may be added while there is room. -/
theorem ad_good {l : List De} {d : De} (h : deB l = true) (hl : l.length < 10) (hd : deOk d = true) (hn : ∀ (k : Nat) (z : De), l[k]? = some z → deSm z d = false) : adB l d = true := by
  have hV := deB_V h
  have hlt : ∀ (k : Nat) (z : De), k < adN l d → l[k]? = some z → z.d ≤ d.d := by
    intro k z hk hz
    have := List.not_of_lt_findIdx (p := fun z : De => decide (d.d < z.d)) (xs := l) (i := k) hk
    have e : l[k]'(by have := adN_le l d; omega) = z := (List.getElem?_eq_some_iff.1 hz).2
    simp only [e, decide_eq_false_iff_not] at this
    omega
  have hge : ∀ z : De, l[adN l d]? = some z → d.d < z.d := by
    intro z hz
    have hk : adN l d < l.length := get_lt hz
    have := List.findIdx_getElem (p := fun z : De => decide (d.d < z.d)) (xs := l) (w := hk)
    have e : l[adN l d]'hk = z := (List.getElem?_eq_some_iff.1 hz).2
    have e2 : l[List.findIdx (fun z : De => decide (d.d < z.d)) l]'hk = z := e
    simp only [e2, decide_eq_true_eq] at this
    exact this
  have hn' : ∀ (k : Nat) (z : De), l[k]? = some z → deSm d z = false := by
    intro k z hz
    have := hn k z hz
    simp only [deSm, Bool.and_eq_false_iff, beq_eq_false_iff_ne, ne_eq] at this ⊢
    rcases this with h | h
    · exact .inl (fun e => h e.symm)
    · exact .inr (fun e => h e.symm)
  have hm : deB (adM l d) = true := by
    simp only [deB, Bool.and_eq_true, decide_eq_true_eq]
    refine ⟨by rw [adM_len]; omega, vAll_iff.2 ?_⟩
    intro k z hz
    refine ⟨?_, fun y hk0 hy => ?_, fun j y hj hy => ?_⟩
    · rcases ad_mem hz with ⟨_, rfl⟩ | ⟨i, hi, _⟩
      · exact hd
      · exact (hV i z hi).1
    · simp only [dePr, decide_eq_false_iff_not]
      rcases ad_mem hz with ⟨ek, rfl⟩ | ⟨i, hi, hik⟩
      · rcases ad_mem hy with ⟨ek', _⟩ | ⟨i', hi', hik'⟩
        · omega
        · have := hlt i' y (by omega) hi'; omega
      · rcases ad_mem hy with ⟨ek', rfl⟩ | ⟨i', hi', hik'⟩
        · have := hge z (by rw [show adN l y = i by omega]; exact hi); omega
        · have := V_mono hV (i - i') i' y z hi' (by rw [show i' + (i - i') = i by omega]; exact hi); omega
    · rcases ad_mem hz with ⟨ek, rfl⟩ | ⟨i, hi, hik⟩
      · rcases ad_mem hy with ⟨ek', _⟩ | ⟨i', hi', hik'⟩
        · omega
        · exact hn i' y hi'
      · rcases ad_mem hy with ⟨ek', rfl⟩ | ⟨i', hi', hik'⟩
        · exact hn' i z hi
        · exact V_ne hV (by omega) hi' hi
  simp [adB, h, hm]

/-- The pause after so many tries. -/
def pau (t : Int) : Int := if wi t 1 6 = true then 60 * 4 ^ (t - 1).toNat else -1
def tfV (l : List De) (now : Int) : Bool := deB l && wi now 0 1000000
def tfD (z : De) (now : Int) : De := ⟨z.a, z.b, z.c + 1, now + pau (z.c + 1)⟩
def tfR (l : List De) (now : Int) (arr : Bool) : List De × Int :=
  if tfV l now = false then ([], -1) else match l with
    | [] => ([], -1)
    | z :: rest => if now < z.d then (z :: rest, -1) else if arr = true then (rest, 1) else if z.c + 1 = 6 then (rest, 2) else (adL rest (tfD z now), 0)
theorem pau_bd {t : Int} (h1 : 1 ≤ t) (h2 : t ≤ 6) : 60 ≤ pau t ∧ pau t ≤ 61440 := by
  have hh : t = 1 ∨ t = 2 ∨ t = 3 ∨ t = 4 ∨ t = 5 ∨ t = 6 := by omega
  rcases hh with rfl | rfl | rfl | rfl | rfl | rfl <;> decide
theorem tfR_len (l : List De) (now : Int) (arr : Bool) : (tfR l now arr).1.length ≤ l.length := by
  unfold tfR; split
  · simp
  · cases l with
    | nil => simp
    | cons z rest =>
      simp only
      split
      · simp
      · split
        · simp
        · split
          · simp
          · have := adL_len rest (tfD z now); simp only [List.length_cons]; exact this
theorem tfV_parts {l : List De} {now : Int} (h : tfV l now = true) : deB l = true ∧ 0 ≤ now ∧ now ≤ 1000000 := by
  simp only [tfV, Bool.and_eq_true, wi_iff] at h; exact h
theorem tf_ad {z : De} {rest : List De} {now : Int} (h : tfV (z :: rest) now = true) (hc : z.c + 1 ≠ 6) : adB rest (tfD z now) = true := by
  obtain ⟨hb, hn0, hn1⟩ := tfV_parts h
  obtain ⟨a1, a2, a3, a4, a5, a6, a7⟩ := deB_ok hb (k := 0) (z := z) rfl
  have hp := pau_bd (t := z.c + 1) (by omega) (by omega)
  refine ad_good (deB_tail hb) (by have := deB_len hb; simp at this; omega) ?_ ?_
  · simp only [deOk, tfD, Bool.and_eq_true, wi_iff]
    exact ⟨⟨⟨⟨a1, a2⟩, a3⟩, by omega, by omega⟩, by omega, by omega⟩
  · intro k y hy
    have := V_ne (deB_V hb) (i := k + 1) (j := 0) (by omega) (by simpa using hy) rfl
    exact this
end Go.Proofs.Ytadgmncngkkdnaa
