/-
  Plain law: lists whose elements are valid, stand in order, and come once.
-/
import Derived.Test.YtpbnbekkmifbpaaDoorMem
namespace Go.Proofs.YtpbnbekkmifbpaaDoor
set_option linter.unusedVariables false

section
variable {α : Type} (ok : α → Bool) (pr sm : α → α → Bool)
/-- Each element is ok, none stands badly behind the one before, none is the same as an earlier one. -/
def V (l : List α) : Prop := ∀ k z, l[k]? = some z → ok z = true ∧ (∀ y, 0 < k → l[k - 1]? = some y → pr y z = false) ∧ ∀ j y, j < k → l[j]? = some y → sm y z = false
def vOk (l : List α) (k : Nat) : Bool := match l[k]? with
  | none => true
  | some z => ok z && (k == 0 || (match l[k - 1]? with | none => true | some y => !pr y z)) && (List.range k).all (fun j => match l[j]? with | none => true | some y => !sm y z)
def vAll (l : List α) : Bool := (List.range l.length).all (vOk ok pr sm l)
variable {ok pr sm}
theorem vOk_iff {l : List α} {k : Nat} {z : α} (hz : l[k]? = some z) : vOk ok pr sm l k = true ↔ ok z = true ∧ (∀ y, 0 < k → l[k - 1]? = some y → pr y z = false) ∧ ∀ j y, j < k → l[j]? = some y → sm y z = false := by
  unfold vOk
  rw [hz]
  simp only [Bool.and_eq_true, Bool.or_eq_true, beq_iff_eq, List.all_eq_true, List.mem_range, and_assoc]
  constructor
  · rintro ⟨h1, h2, h3⟩
    refine ⟨h1, fun y hk hy => ?_, fun j y hj hy => ?_⟩
    · rcases h2 with h2 | h2
      · omega
      · rw [hy] at h2; simpa using h2
    · have := h3 j hj; rw [hy] at this; simpa using this
  · rintro ⟨h1, h2, h3⟩
    refine ⟨h1, ?_, fun j hj => ?_⟩
    · rcases Nat.eq_zero_or_pos k with h0 | h0
      · exact .inl h0
      · refine .inr ?_
        cases hy : l[k - 1]? with
        | none => rfl
        | some y => simp [h2 y h0 hy]
    · cases hy : l[j]? with
      | none => rfl
      | some y => simp [h3 j y hj hy]
theorem vAll_iff {l : List α} : vAll ok pr sm l = true ↔ V ok pr sm l := by
  unfold vAll V
  rw [List.all_eq_true]
  constructor
  · intro h k z hz
    exact (vOk_iff hz).1 (h k (List.mem_range.2 (get_lt hz)))
  · intro h k hk
    have hz : l[k]? = some (l[k]'(List.mem_range.1 hk)) := List.getElem?_eq_getElem (List.mem_range.1 hk)
    exact (vOk_iff hz).2 (h k _ hz)
/-- The first k are as they should be. -/
def VTo (ok : α → Bool) (pr sm : α → α → Bool) (l : List α) (k : Nat) : Prop := ∀ i, i < k → vOk ok pr sm l i = true
/-- None of the first j is the same as z. -/
def NTo (sm : α → α → Bool) (l : List α) (z : α) (j : Nat) : Prop := ∀ i y, i < j → l[i]? = some y → sm y z = false
theorem VTo_0 (l : List α) : VTo ok pr sm l 0 := fun i h => absurd h (by omega)
theorem VTo_succ {l : List α} {k : Nat} (h : VTo ok pr sm l k) (h1 : vOk ok pr sm l k = true) : VTo ok pr sm l (k + 1) := fun i hi => by
  by_cases e : i = k
  · subst e; exact h1
  · exact h i (by omega)
theorem NTo_0 (l : List α) (z : α) : NTo sm l z 0 := fun i y h => absurd h (by omega)
theorem NTo_succ {l : List α} {z y : α} {j : Nat} (h : NTo sm l z j) (hy : l[j]? = some y) (h1 : sm y z = false) : NTo sm l z (j + 1) := fun i x hi hx => by
  by_cases e : i = j
  · subst e; rw [hy] at hx; injection hx with hx; subst hx; exact h1
  · exact h i x (by omega) hx
theorem vOk_mk {l : List α} {k : Nat} {z : α} (hz : l[k]? = some z) (h1 : ok z = true) (h2 : ∀ y, 0 < k → l[k - 1]? = some y → pr y z = false) (h3 : NTo sm l z k) : vOk ok pr sm l k = true := (vOk_iff hz).2 ⟨h1, h2, h3⟩
theorem vAll_bad {l : List α} {k : Nat} (hk : k < l.length) (h : vOk ok pr sm l k = false) : vAll ok pr sm l = false := by
  unfold vAll; rw [List.all_eq_false]; exact ⟨k, List.mem_range.2 hk, by simp [h]⟩
theorem vAll_bad1 {l : List α} {k : Nat} {z : α} (hz : l[k]? = some z) (h : ok z = false) : vAll ok pr sm l = false := by
  cases hv : vAll ok pr sm l
  · rfl
  · have := (vAll_iff.1 hv k z hz).1; rw [h] at this; cases this
theorem vAll_bad2 {l : List α} {k : Nat} {z y : α} (hz : l[k]? = some z) (hk : 0 < k) (hy : l[k - 1]? = some y) (h : pr y z = true) : vAll ok pr sm l = false := by
  cases hv : vAll ok pr sm l
  · rfl
  · have := (vAll_iff.1 hv k z hz).2.1 y hk hy; rw [h] at this; cases this
theorem vAll_bad3 {l : List α} {k j : Nat} {z y : α} (hz : l[k]? = some z) (hj : j < k) (hy : l[j]? = some y) (h : sm y z = true) : vAll ok pr sm l = false := by
  cases hv : vAll ok pr sm l
  · rfl
  · have := (vAll_iff.1 hv k z hz).2.2 j y hj hy; rw [h] at this; cases this
theorem vAll_good {l : List α} (h : VTo ok pr sm l l.length) : vAll ok pr sm l = true := by
  unfold vAll; rw [List.all_eq_true]; intro k hk; exact h k (List.mem_range.1 hk)
theorem vAll_drop {l : List α} (h : vAll ok pr sm l = true) : vAll ok pr sm (l.drop 1) = true := by
  rw [vAll_iff] at *
  intro k z hz
  rw [List.getElem?_drop] at hz
  obtain ⟨h1, h2, h3⟩ := h (1 + k) z hz
  refine ⟨h1, fun y hk hy => ?_, fun j y hj hy => ?_⟩
  · rw [List.getElem?_drop] at hy
    exact h2 y (by omega) (by rw [show 1 + k - 1 = 1 + (k - 1) by omega]; exact hy)
  · rw [List.getElem?_drop] at hy
    exact h3 (1 + j) y (by omega) hy
theorem vAll_twice {l : List α} {z : α} (hz : l[0]? = some z) (h : sm z z = true) : vAll ok pr sm (z :: l) = false :=
  vAll_bad3 (k := 1) (j := 0) (z := z) (y := z) (by simpa using hz) (by omega) rfl h
end
end Go.Proofs.YtpbnbekkmifbpaaDoor
