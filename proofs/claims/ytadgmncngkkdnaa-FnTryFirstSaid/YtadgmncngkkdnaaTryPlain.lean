/-
  Plain law: what TryFirst leaves, as its law says it.
-/
import Derived.Test.YtadgmncngkkdnaaTrySpec
namespace Go.Proofs.Ytadgmncngkkdnaa
open Go.ChangeShapes Go.WideShapes Go.ChangeAt Go.RowKit Go.Joins
set_option linter.unusedVariables false

/-- How many of the first k are z's. -/
def tw (R : List De) (z : De) (k : Nat) : Nat := ((R.take k).filter fun y => deSm y z).length
theorem tw_0 (R : List De) (z : De) : tw R z 0 = 0 := by simp [tw]
theorem tw_yes {R : List De} {z y : De} {k : Nat} (hy : R[k]? = some y) (h : deSm y z = true) : tw R z (k + 1) = tw R z k + 1 := by
  unfold tw; rw [take_snoc_get R k y hy, List.filter_append]; simp [h]
theorem tw_no {R : List De} {z y : De} {k : Nat} (hy : R[k]? = some y) (h : deSm y z = false) : tw R z (k + 1) = tw R z k := by
  unfold tw; rw [take_snoc_get R k y hy, List.filter_append]; simp [h]
theorem tw_le (R : List De) (z : De) (k : Nat) : tw R z k ≤ k := by
  unfold tw; have := List.length_filter_le (fun y => deSm y z) (R.take k); have h2 := List.length_take_le k R; omega
theorem tw_none {R : List De} {z : De} (h : ∀ (k : Nat) (y : De), R[k]? = some y → deSm y z = false) : ∀ k, k ≤ R.length → tw R z k = 0 := by
  intro k
  induction k with
  | zero => intro _; exact tw_0 _ _
  | succ k ih =>
    intro hk
    have hy : R[k]? = some (R[k]'(by omega)) := List.getElem?_eq_getElem _
    rw [tw_no hy (h k _ hy)]; exact ih (by omega)
theorem tw_one {R : List De} {z d : De} {p : Nat} (hp : R[p]? = some d) (hd : deSm d z = true) (h : ∀ (k : Nat) (y : De), k ≠ p → R[k]? = some y → deSm y z = false) : ∀ k, k ≤ R.length → tw R z k = if p < k then 1 else 0 := by
  intro k
  induction k with
  | zero => intro _; rw [tw_0]; rfl
  | succ k ih =>
    intro hk
    have hy : R[k]? = some (R[k]'(by omega)) := List.getElem?_eq_getElem _
    have hi := ih (by omega)
    by_cases e : k = p
    · subst e
      rw [hp] at hy; injection hy with hy
      rw [tw_yes (List.getElem?_eq_getElem (by omega)) (by rw [← hy]; exact hd), hi, if_neg (by omega), if_pos (by omega)]
    · rw [tw_no hy (h k _ e hy), hi]
      by_cases h1 : p < k
      · rw [if_pos h1, if_pos (by omega)]
      · rw [if_neg h1, if_neg (by omega)]
theorem deSm_false_symm {y z : De} (h : deSm z y = false) : deSm y z = false := by
  simp only [deSm, Bool.and_eq_false_iff, beq_eq_false_iff_ne, ne_eq] at h ⊢
  rcases h with h | h
  · exact .inl (fun e => h e.symm)
  · exact .inr (fun e => h e.symm)
/-- What TryFirst gives, case by case. -/
structure TryOk (l : List De) (now : Int) (arr : Bool) (R : List De) (rn : Int) (z : De) (l' : List De) : Prop where
  form : l = z :: l'
  valid : deB R = true
  wait : ∀ (k : Nat) (y : De), R[k]? = some y → deSm y z = true → y.c = z.c + 1 ∧ now < y.d
  much : (rn = 1 ∧ arr = true ∧ tw R z R.length = 0 ∧ R.length + 1 = l.length) ∨ (rn = 2 ∧ arr = false ∧ tw R z R.length = 0 ∧ R.length + 1 = l.length ∧ z.c = 5) ∨ (rn = 0 ∧ arr = false ∧ tw R z R.length = 1 ∧ R.length = l.length)
theorem try_cases {l : List De} {now : Int} {arr : Bool} {R : List De} {rn : Int} (h : tfR l now arr = (R, rn)) : (rn = -1 ∧ (R = [] ∨ R = l)) ∨ ∃ z l', TryOk l now arr R rn z l' := by
  cases hv : tfV l now
  · rw [tfR_bad hv] at h; injection h with h1 h2; exact .inl ⟨h2.symm, .inl h1.symm⟩
  · cases l with
    | nil => rw [tfR_nil] at h; injection h with h1 h2; exact .inl ⟨h2.symm, .inl h1.symm⟩
    | cons z l' =>
      by_cases hz : now < z.d
      · rw [tfR_late hv hz] at h; injection h with h1 h2; exact .inl ⟨h2.symm, .inr h1.symm⟩
      · obtain ⟨hb, hn0, hn1⟩ := tfV_parts hv
        have hV := deB_V hb
        have hno : ∀ (k : Nat) (y : De), l'[k]? = some y → deSm y z = false := fun k y hy => V_ne hV (i := k + 1) (j := 0) (by omega) (by simpa using hy) rfl
        refine .inr ⟨z, l', ?_⟩
        cases arr
        · by_cases hc : z.c + 1 = 6
          · rw [tfR_end hv hz hc] at h; injection h with h1 h2; subst h1 h2
            refine ⟨rfl, deB_tail hb, fun k y hy hs => ?_, .inr (.inl ⟨rfl, rfl, tw_none hno _ (Nat.le_refl _), by simp, by omega⟩)⟩
            rw [hno k y hy] at hs; cases hs
          · rw [tfR_more hv hz hc] at h; injection h with h1 h2
            have hB := tf_ad hv hc
            obtain ⟨_, hB2, hB3⟩ := adB_parts hB
            rw [hB3] at h1; subst h1 h2
            obtain ⟨a1, a2, a3, a4, a5, a6, a7⟩ := deB_ok hb (k := 0) (z := z) rfl
            have hpau := pau_bd (t := z.c + 1) (by omega) (by omega)
            have hsd : deSm (tfD z now) z = true := by simp [deSm, tfD]
            have hoth : ∀ (k : Nat) (y : De), k ≠ adN l' (tfD z now) → (adM l' (tfD z now))[k]? = some y → deSm y z = false := by
              intro k y hk hy
              rcases ad_mem hy with ⟨e, _⟩ | ⟨i, hi, _⟩
              · exact absurd e hk
              · exact hno i y hi
            refine ⟨rfl, hB2, fun k y hy hs => ?_, .inr (.inr ⟨rfl, rfl, ?_, by rw [adM_len]; simp⟩)⟩
            · by_cases e : k = adN l' (tfD z now)
              · subst e
                rw [adM_at] at hy; injection hy with hy; subst hy
                simp only [tfD]; exact ⟨trivial, by omega⟩
              · rw [hoth k y e hy] at hs; cases hs
            · rw [tw_one (adM_at _ _) hsd hoth _ (Nat.le_refl _), if_pos (ad_lt _ _)]
        · rw [tfR_arr hv hz] at h; injection h with h1 h2; subst h1 h2
          refine ⟨rfl, deB_tail hb, fun k y hy hs => ?_, .inl ⟨rfl, rfl, tw_none hno _ (Nat.le_refl _), by simp⟩⟩
          rw [hno k y hy] at hs; cases hs
end Go.Proofs.Ytadgmncngkkdnaa
