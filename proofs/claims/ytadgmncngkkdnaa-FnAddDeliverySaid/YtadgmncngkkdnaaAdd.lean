/-
  The contracts of AddDelivery; its plain function.
-/
import Derived.Test.YtadgmncngkkdnaaDelivV
import Derived.Test.YtadgmncngkkdnaaAppendAny
namespace Go.Proofs.Ytadgmncngkkdnaa
open Go.ChangeShapes Go.WideShapes Go.ChangeAt Go.RowKit Go.Joins
set_option linter.unusedVariables false

/-- Where a new one stands: before the first that is later. -/
def adN (l : List De) (d : De) : Nat := l.findIdx fun z => decide (d.d < z.d)
def adM (l : List De) (d : De) : List De := l.take (adN l d) ++ [d] ++ l.drop (adN l d)
def adL (l : List De) (d : De) : List De := if deB l = true then (if deB (adM l d) = true then adM l d else l) else []
def adB (l : List De) (d : De) : Bool := deB l && deB (adM l d)
theorem adN_le (l : List De) (d : De) : adN l d ≤ l.length := List.findIdx_le_length
theorem adM_len (l : List De) (d : De) : (adM l d).length = l.length + 1 := by
  have := adN_le l d
  simp only [adM, List.length_append, List.length_take, List.length_drop, List.length_cons, List.length_nil]; omega
theorem adL_bad {l : List De} {d : De} (h : deB l = false) : adL l d = [] ∧ adB l d = false := by simp [adL, adB, h]
theorem adL_no {l : List De} {d : De} (h : deB l = true) (h2 : deB (adM l d) = false) : adL l d = l ∧ adB l d = false := by simp [adL, adB, h, h2]
theorem adL_yes {l : List De} {d : De} (h : deB l = true) (h2 : deB (adM l d) = true) : adL l d = adM l d ∧ adB l d = true := by simp [adL, adB, h, h2]
theorem adL_len (l : List De) (d : De) : (adL l d).length ≤ l.length + 1 := by
  unfold adL; split
  · split
    · rw [adM_len]; exact Nat.le_refl _
    · omega
  · simp
theorem deB_len {l : List De} (h : deB l = true) : l.length ≤ 10 := by
  simp only [deB, Bool.and_eq_true, decide_eq_true_eq] at h; exact h.1
theorem deB_V {l : List De} (h : deB l = true) : V deOk dePr deSm l := by
  simp only [deB, Bool.and_eq_true] at h; exact vAll_iff.1 h.2
theorem adN_eq {l : List De} {d : De} {k : Nat} (hk : k ≤ l.length) (h1 : ∀ i z, i < k → l[i]? = some z → z.d ≤ d.d) (h2 : ∀ z, l[k]? = some z → d.d < z.d) : adN l d = k := by
  rcases Nat.lt_or_ge k l.length with h | h
  · unfold adN
    rw [List.findIdx_eq h]
    refine ⟨by simpa using h2 _ (List.getElem?_eq_getElem h), fun j hj => ?_⟩
    have := h1 j _ hj (List.getElem?_eq_getElem (by omega))
    simp; omega
  · obtain rfl : k = l.length := by omega
    unfold adN
    rw [List.findIdx_eq_length]
    intro x hx
    obtain ⟨i, hi⟩ := List.mem_iff_getElem?.1 hx
    have := h1 i x (get_lt hi) hi
    simp; omega
/-- Valid ones stand by times. -/
theorem V_mono {l : List De} (h : V deOk dePr deSm l) : ∀ (m i : Nat) (y z : De), l[i]? = some y → l[i + m]? = some z → y.d ≤ z.d := by
  intro m
  induction m with
  | zero => intro i y z hy hz; rw [Nat.add_zero, hy] at hz; injection hz with hz; subst hz; exact Int.le_refl _
  | succ m ih =>
    intro i y z hy hz
    have hlt := get_lt hz
    have hx : l[i + m]? = some (l[i + m]'(by omega)) := List.getElem?_eq_getElem _
    have h1 := ih i y _ hy hx
    have h2 := (h (i + (m + 1)) z hz).2.1 _ (by omega) (by rw [show i + (m + 1) - 1 = i + m by omega]; exact hx)
    simp only [dePr, decide_eq_false_iff_not] at h2
    omega
/-- The first k are not later. -/
def AdL (l : List De) (d : De) (k : Nat) : Prop := ∀ i z, i < k → l[i]? = some z → z.d ≤ d.d
theorem AdL_0 (l : List De) (d : De) : AdL l d 0 := fun i z h => absurd h (by omega)
theorem AdL_succ {l : List De} {d z : De} {k : Nat} (h : AdL l d k) (hz : l[k]? = some z) (h1 : z.d ≤ d.d) : AdL l d (k + 1) := fun i x hi hx => by
  by_cases e : i = k
  · subst e; rw [hz] at hx; injection hx with hx; subst hx; exact h1
  · exact h i x (by omega) hx
/-- Those from k on are later. -/
def AdG (l : List De) (d : De) (k : Nat) : Prop := ∀ i z, k ≤ i → l[i]? = some z → d.d < z.d
theorem AdG_n (l : List De) (d : De) : AdG l d l.length := fun i z h hz => absurd (get_lt hz) (by omega)
theorem AdG_pred {l : List De} {d z : De} {k : Nat} (h : AdG l d k) (h0 : 0 < k) (hz : l[k - 1]? = some z) (h1 : d.d < z.d) : AdG l d (k - 1) := fun i x hi hx => by
  by_cases e : i = k - 1
  · subst e; rw [hz] at hx; injection hx with hx; subst hx; exact h1
  · exact h i x (by omega) hx
theorem ad_at {l : List De} {d : De} {k : Nat} (hk : k ≤ l.length) (h : AdL l d k) (h2 : ∀ z, l[k]? = some z → d.d < z.d) : k = adN l d := (adN_eq hk h h2).symm
theorem ad_atG {l : List De} {d : De} {k : Nat} (hv : deB l = true) (hk : k ≤ l.length) (h : AdG l d k) (h2 : ∀ z, 0 < k → l[k - 1]? = some z → z.d ≤ d.d) : k = adN l d := by
  refine (adN_eq hk (fun i z hi hz => ?_) (fun z hz => h k z (Nat.le_refl _) hz)).symm
  have hx : l[k - 1]? = some (l[k - 1]'(by omega)) := List.getElem?_eq_getElem _
  have h3 := V_mono (deB_V hv) (k - 1 - i) i z _ hz (by rw [show i + (k - 1 - i) = k - 1 by omega]; exact hx)
  have h4 := h2 _ (by omega) hx
  omega
theorem adM_small {m : Nat} {l : List De} {d : De} (hs : ∀ z ∈ l, z.b.size ≤ m) (hd : d.b.size ≤ m) : ∀ z ∈ adM l d, z.b.size ≤ m := by
  intro z hz
  simp only [adM, List.mem_append, List.mem_cons, List.not_mem_nil, or_false] at hz
  rcases hz with (h | rfl) | h
  · exact hs z (List.mem_of_mem_take h)
  · exact hd
  · exact hs z (List.mem_of_mem_drop h)
theorem adL_small {m : Nat} {l : List De} {d : De} (hs : ∀ z ∈ l, z.b.size ≤ m) (hd : d.b.size ≤ m) : ∀ z ∈ adL l d, z.b.size ≤ m := by
  intro z hz
  unfold adL at hz
  split at hz
  · split at hz
    · exact adM_small hs hd z hz
    · exact hs z hz
  · cases hz
theorem des_oneC (l : List De) : ∀ u ∈ des l, u.oneCell' = true := by
  intro u hu
  simp only [des, List.mem_flatMap, dec, List.mem_cons, List.not_mem_nil, or_false] at hu
  obtain ⟨z, _, rfl | rfl | rfl | rfl⟩ := hu <;> rfl

theorem cpd_any (A : Option Addr) (n c : Nat) (l : List De) (w : World) (h : Rd w 4 A n (des l)) (hn : n ≤ 1048576) :
    Calls Try.prog 30 #[.slice A n c] w fun e w' => ∃ v, e = .returned v ∧ w'.ownsRow w.heap.size 25 4 v n (des l) ∧ Below w.heap.size w w' := by
  have H := Lib.hid h; clear h
  obtain ⟨i0, hi, hz0, hz1, hz2⟩ := info_parts de_info
  have HI := Lib.hid hi; have HZ0 := Lib.hid hz0; have HZ1 := Lib.hid hz1; have HZ2 := Lib.hid hz2
  clear hi hz0 hz1 hz2
  go_enter Try.func30, Try.ntmps30
  go_wp2_with (first
    | (at_builtin; refine wpList_append_any _ rfl _ _ 23 rfl w.heap.size 25 i0 _ 4 40 Try.underlying23 HI.out HZ0.out HZ1.out HZ2.out rfl (by omega) (.slice none 0 0) 0 [] rfl (World.ownsRow_nil _ _ _ _) w.heap.size A n c (des l) rfl (reads_of_rd H.out (by omega)) (des_oneC l) (by simp only [maxLen]; omega) (by omega) (Nat.le_refl _) ?_; intro v1 w1 hown1 hg1 hat1))
  have HO := Lib.hid hown1
  have HB : Hid (Below w.heap.size w w1) := Lib.hid ((Below.refl _ _).grown hg1 (Nat.le_refl _) (by simp [Value.ownBlock]))
  clear hown1 hg1 hat1
  go_wp2_with fail
  go_ret
  exact ⟨_, rfl, by have := HO.out; simpa using this, HB.out⟩
end Go.Proofs.Ytadgmncngkkdnaa
