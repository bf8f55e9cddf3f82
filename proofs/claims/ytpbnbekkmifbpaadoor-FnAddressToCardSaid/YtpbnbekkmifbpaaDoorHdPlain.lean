/-
  Plain law: followers stand in order.
-/
import Derived.Test.YtpbnbekkmifbpaaDoorListHandle
import Derived.Test.YtpbnbekkmifbpaaDoorValid
import Derived.Test.YtpbnbekkmifbpaaDoorWord
namespace Go.Proofs.YtpbnbekkmifbpaaDoor
open Go.ChangeShapes Go.WideShapes Go.ChangeAt Go.RowKit Go.Joins
set_option linter.unusedVariables false

theorem bl_irr : ∀ x : List UInt8, Op.bytesLess x x = false
  | [] => rfl
  | a :: x => by
    have h1 : (decide (a < a)) = false := by simp
    simp only [Op.bytesLess, h1, Bool.false_or, bl_irr x, Bool.and_false]
theorem bl_trans : ∀ x y z : List UInt8, Op.bytesLess x y = true → Op.bytesLess y z = true → Op.bytesLess x z = true
  | _, [], _, h, _ => by simp [Op.bytesLess] at h
  | _, _ :: _, [], _, h => by simp [Op.bytesLess] at h
  | [], _ :: _, _ :: _, _, _ => by simp [Op.bytesLess]
  | a :: x, b :: y, c :: z, h1, h2 => by
    simp only [Op.bytesLess, Bool.or_eq_true, decide_eq_true_eq, Bool.and_eq_true, beq_iff_eq] at h1 h2 ⊢
    rcases h1 with h1 | ⟨rfl, h1⟩
    · rcases h2 with h2 | ⟨rfl, h2⟩
      · exact .inl (UInt8.lt_trans h1 h2)
      · exact .inl h1
    · rcases h2 with h2 | ⟨rfl, h2⟩
      · exact .inl h2
      · exact .inr ⟨rfl, bl_trans x y z h1 h2⟩
def hdV (h : Ha) : Bool := wvB h.a && wvB h.b
/-- A handle stands before another one. -/
def hbB (x y : Ha) : Bool := if (x.b.toList == y.b.toList) = true then Op.bytesLess x.a.toList y.a.toList else Op.bytesLess x.b.toList y.b.toList
theorem hbB_eq {x y : Ha} (h : (x.b.toList == y.b.toList) = true) : hbB x y = Op.bytesLess x.a.toList y.a.toList := by rw [hbB, if_pos h]
theorem hbB_ne {x y : Ha} (h : (x.b.toList == y.b.toList) = false) : hbB x y = Op.bytesLess x.b.toList y.b.toList := by rw [hbB, if_neg (by rw [h]; simp)]
theorem hbB_trans {x y z : Ha} (h1 : hbB x y = true) (h2 : hbB y z = true) : hbB x z = true := by
  cases e1 : (x.b.toList == y.b.toList)
  · rw [hbB_ne e1] at h1
    cases e2 : (y.b.toList == z.b.toList)
    · rw [hbB_ne e2] at h2
      have h3 := bl_trans _ _ _ h1 h2
      cases e3 : (x.b.toList == z.b.toList)
      · rw [hbB_ne e3]; exact h3
      · simp only [beq_iff_eq] at e3; rw [e3, bl_irr] at h3; cases h3
    · simp only [beq_iff_eq] at e2
      rw [hbB_ne (by rw [← e2]; exact e1), ← e2]; exact h1
  · simp only [beq_iff_eq] at e1
    cases e2 : (y.b.toList == z.b.toList)
    · rw [hbB_ne e2] at h2
      rw [hbB_ne (by rw [e1]; exact e2), e1]; exact h2
    · rw [hbB_eq (by simpa using e1)] at h1
      rw [hbB_eq e2] at h2
      rw [hbB_eq (by rw [e1]; exact e2)]
      exact bl_trans _ _ _ h1 h2
def faPr (y z : Ha) : Bool := !hbB y z
def faSm (_ _ : Ha) : Bool := false
def fvB (l : List Ha) : Bool := decide (l.length ≤ 10) && vAll hdV faPr faSm l
theorem fvB_long {l : List Ha} (h : 10 < l.length) : false = fvB l := by
  unfold fvB; rw [decide_eq_false (by omega)]; rfl
theorem fvB_bad {l : List Ha} (h : vAll hdV faPr faSm l = false) : false = fvB l := by rw [fvB, h, Bool.and_false]
theorem fvB_good {l : List Ha} (h : VTo hdV faPr faSm l l.length) : decide (l.length ≤ 10) = fvB l := by rw [fvB, vAll_good h, Bool.and_true]
theorem fvB_parts {l : List Ha} (h : fvB l = true) : l.length ≤ 10 ∧ V hdV faPr faSm l := by
  simp only [fvB, Bool.and_eq_true, decide_eq_true_eq] at h; exact ⟨h.1, vAll_iff.1 h.2⟩
/-- A list in order: each pair of its members. -/
theorem fv_pair {l : List Ha} (h : V hdV faPr faSm l) : List.Pairwise (fun y z => hbB y z = true) l := by
  rw [List.pairwise_iff_getElem]
  have step : ∀ (m i : Nat) (y z : Ha), l[i]? = some y → l[i + m + 1]? = some z → hbB y z = true := by
    intro m
    induction m with
    | zero =>
      intro i y z hy hz
      have := (h _ z hz).2.1 y (by omega) (by simpa using hy)
      simpa [faPr] using this
    | succ m ih =>
      intro i y z hy hz
      have hlt := get_lt hz
      have hx : l[i + m + 1]? = some (l[i + m + 1]'(by omega)) := List.getElem?_eq_getElem _
      have h1 := ih i y _ hy hx
      have h2 := (h _ z hz).2.1 _ (by omega) (by rw [show i + (m + 1) + 1 - 1 = i + m + 1 by omega]; exact hx)
      exact hbB_trans h1 (by simpa [faPr] using h2)
  intro i j hi hj hij
  exact step (j - i - 1) i _ _ (List.getElem?_eq_getElem hi) (by rw [show i + (j - i - 1) + 1 = j by omega]; exact List.getElem?_eq_getElem hj)
theorem pair_fv {l : List Ha} (hl : l.length ≤ 10) (h1 : ∀ z ∈ l, hdV z = true) (h2 : List.Pairwise (fun y z => hbB y z = true) l) : fvB l = true := by
  simp only [fvB, Bool.and_eq_true, decide_eq_true_eq]
  refine ⟨hl, vAll_iff.2 fun k z hz => ⟨h1 z (List.mem_of_getElem? hz), fun y hk hy => ?_, fun _ _ _ _ => rfl⟩⟩
  rw [List.pairwise_iff_getElem] at h2
  have hlt := get_lt hz
  have := h2 (k - 1) k (by omega) hlt (by omega)
  rw [(List.getElem?_eq_some_iff.1 hy).2, (List.getElem?_eq_some_iff.1 hz).2] at this
  simp [faPr, this]
theorem fv_filter {l : List Ha} (p : Ha → Bool) (h : fvB l = true) : fvB (l.filter p) = true := by
  obtain ⟨h1, h2⟩ := fvB_parts h
  refine pair_fv (Nat.le_trans (List.length_filter_le _ _) h1) (fun z hz => ?_) ((fv_pair h2).filter p)
  obtain ⟨k, hk⟩ := List.mem_iff_getElem?.1 (List.mem_filter.1 hz).1
  exact (h2 k z hk).1

end Go.Proofs.YtpbnbekkmifbpaaDoor
