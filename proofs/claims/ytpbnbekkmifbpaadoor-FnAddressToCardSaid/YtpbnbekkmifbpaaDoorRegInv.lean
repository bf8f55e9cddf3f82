/-
  A law for a region that draws its order: an invariant over which operations are done, what the temporaries hold, and the world. Whatever the order.
-/
import Derived.Test.YtpbnbekkmifbpaaDoorTypedG
namespace Go.Proofs.YtpbnbekkmifbpaaDoor
open Go.RowKit
set_option linter.unusedVariables false

structure IInv (J : (Nat → Bool) → (Nat → Value) → World → Prop) (a0 : Act) (ops : Array Oper) (listed : Array Bool) (a : Act) (w : World) : Prop where
  size : listed.size = ops.size
  asz : a.tmps.size = a0.tmps.size
  dfr : a.defers = a0.defers
  fr : ∀ t, (∀ (i : Nat) (o : Oper), ops[i]? = some o → o.dst ≠ some t) → a.tmps.getD t undef = a0.tmps.getD t undef
  j : J (fun i => listed.getD i false) (fun t => a.tmps.getD t undef) w
  cl : ∀ (i : Nat) (o : Oper) (e : Edge), ops[i]? = some o → listed.getD i false = true → e ∈ o.after → Region.binds .any e = true → listed.getD e.on false = true

section
variable {P : Program} {ops : Array Oper} {Q : Exit → Act → World → Prop}
theorem wpAny_inv (J : (Nat → Bool) → (Nat → Value) → World → Prop) (a0 : Act)
    (dst : ∀ (i : Nat) (o : Oper) (d : Tmp), ops[i]? = some o → o.dst = some d → d < a0.tmps.size)
    (back : ∀ (i : Nat) (o : Oper) (e : Edge), ops[i]? = some o → e ∈ o.after → Region.binds .any e = true → e.on < i)
    (hstep : ∀ (i : Nat) (o : Oper) (f : Nat → Bool) (a : Act) (w : World), ops[i]? = some o → f i = false → (∀ e, e ∈ o.after → Region.binds .any e = true → f e.on = true) →
      (∀ (j : Nat) (o' : Oper) (e : Edge), ops[j]? = some o' → f j = true → e ∈ o'.after → Region.binds .any e = true → f e.on = true) → a.tmps.size = a0.tmps.size →
      (∀ t, (∀ (j : Nat) (o' : Oper), ops[j]? = some o' → o'.dst ≠ some t) → a.tmps.getD t undef = a0.tmps.getD t undef) →
      J f (fun t => a.tmps.getD t undef) w →
      ∀ K : Act → World → Prop, (∀ v w', J (fun j => if j = i then true else f j) (fun t => if o.dst = some t then v else a.tmps.getD t undef) w' → K (a.put o.dst v) w') → if Region.wanted o (yielded ops a.tmps) = true then o.wp P a w K Q else K (a.put o.dst undef) w)
    (hfin : ∀ f a w, (∀ i, i < ops.size → f i = true) → a.tmps.size = a0.tmps.size → a.defers = a0.defers →
      (∀ t, (∀ (j : Nat) (o' : Oper), ops[j]? = some o' → o'.dst ≠ some t) → a.tmps.getD t undef = a0.tmps.getD t undef) →
      J f (fun t => a.tmps.getD t undef) w → Q .normal a w) :
    ∀ (fuel : Nat) (listed : Array Bool) (a : Act) (w : World), listed.toList.count false ≤ fuel → IInv J a0 ops listed a w → wpAny P .any ops Q fuel listed a w := by
  have done : ∀ (listed : Array Bool) (a : Act) (w : World), IInv J a0 ops listed a w → Region.ready .any ops listed = [] → Q .normal a w := by
    intro listed a w inv hr
    have all : ∀ i, i < ops.size → listed.getD i false = true := by
      intro i
      induction i using Nat.strongRecOn with
      | _ i ih =>
        intro hi
        cases hl : listed.getD i false
        · exfalso
          have hmem : i ∈ Region.ready .any ops listed := by
            rw [ready_iff]
            refine ⟨hi, ?_, ?_⟩
            · rw [Array.getD_eq_getD_getElem?] at hl ⊢
              have hi' : i < listed.size := by rw [inv.size]; exact hi
              rw [Array.getElem?_eq_getElem hi'] at hl ⊢
              simpa using hl
            · obtain ⟨o, ho⟩ : ∃ o, ops[i]? = some o := ⟨ops[i], Array.getElem?_eq_getElem hi⟩
              rw [ho]
              simp only [Option.map_some, Option.getD_some]
              rw [Array.all_eq_true']
              intro e he
              cases hbd : Region.binds .any e
              · simp
              · have hb := back i o e ho he hbd
                rw [ih e.on hb (by omega)]
                simp
          rw [hr] at hmem
          cases hmem
        · rfl
    exact hfin _ a w all inv.asz inv.dfr inv.fr inv.j
  intro fuel
  induction fuel with
  | zero =>
    intro listed a w hf inv
    have hz : Region.ready .any ops listed = [] := by
      rw [List.eq_nil_iff_forall_not_mem]
      intro i hi
      have hr := ready_iff.1 hi
      have hi' : i < listed.size := by rw [inv.size]; exact hr.1
      have h0 : listed[i] = false := by
        have := hr.2.1
        rw [Array.getD_eq_getD_getElem?, Array.getElem?_eq_getElem hi'] at this
        simpa using this
      have : 0 < listed.toList.count false := List.count_pos_iff.2 (by rw [← h0]; exact Array.getElem_mem_toList hi')
      omega
    exact ⟨hz, done listed a w inv hz⟩
  | succ fuel ih =>
    intro listed a w hf inv
    refine ⟨done listed a w inv, fun i hi => ?_⟩
    have hr := ready_iff.1 hi
    have hi' : i < listed.size := by rw [inv.size]; exact hr.1
    have h0 : listed[i] = false := by
      have := hr.2.1
      rw [Array.getD_eq_getD_getElem?, Array.getElem?_eq_getElem hi'] at this
      simpa using this
    have hpos : 0 < listed.toList.count false := List.count_pos_iff.2 (by rw [← h0]; exact Array.getElem_mem_toList hi')
    obtain ⟨o, ho⟩ : ∃ o, ops[i]? = some o := ⟨ops[i]'hr.1, Array.getElem?_eq_getElem hr.1⟩
    have hf0 : (fun i => listed.getD i false) i = false := by
      show listed.getD i false = false
      rw [Array.getD_eq_getD_getElem?, Array.getElem?_eq_getElem hi']; simpa using h0
    have hready : ∀ e, e ∈ o.after → Region.binds .any e = true → (fun i => listed.getD i false) e.on = true := by
      intro e he hb
      have := hr.2.2
      rw [ho] at this
      simp only [Option.map_some, Option.getD_some] at this
      rw [Array.all_eq_true'] at this
      have := this e he
      rw [hb] at this
      simpa using this
    have key : ∀ v w', J (fun j => if j = i then true else listed.getD j false) (fun t => if o.dst = some t then v else a.tmps.getD t undef) w' → wpAny P .any ops Q fuel (listed.setIfInBounds i true) (a.put o.dst v) w' := by
      intro v w' hJ
      have hcount : (listed.setIfInBounds i true).toList.count false + 1 = listed.toList.count false := by
        rw [Array.toList_setIfInBounds, List.count_set (by simpa using hi')]
        have e1 : (listed.toList[i]'(by simpa using hi') == false) = true := by simp [h0]
        rw [if_pos e1, if_neg (by decide)]
        omega
      refine ih _ _ _ (by omega) ?_
      refine ⟨by simpa using inv.size, put_size.trans inv.asz, put_defers.trans inv.dfr, fun t ht => (put_ne (ht i o ho)).trans (inv.fr t ht), ?_, ?_⟩
      rotate_left
      · have g1 : ∀ j, (listed.setIfInBounds i true).getD j false = if j = i then true else listed.getD j false := by
          intro j
          by_cases e : j = i
          · subst e
            rw [if_pos rfl, Array.getD_eq_getD_getElem?]
            simp [hi']
          · rw [if_neg e, Array.getD_eq_getD_getElem?, Array.getElem?_setIfInBounds_ne (by omega), Array.getD_eq_getD_getElem?]
        intro j o' e ho' hf' he hb
        rw [g1] at hf' ⊢
        by_cases q : e.on = i
        · rw [if_pos q]
        · rw [if_neg q]
          by_cases q2 : j = i
          · subst q2
            rw [ho] at ho'; injection ho' with ho'; subst ho'
            exact hready e he hb
          · rw [if_neg q2] at hf'
            exact inv.cl j o' e ho' hf' he hb
      have e1 : (fun j => (listed.setIfInBounds i true).getD j false) = fun j => if j = i then true else listed.getD j false := by
        funext j
        by_cases e : j = i
        · subst e
          rw [if_pos rfl, Array.getD_eq_getD_getElem?]
          simp [hi']
        · rw [if_neg e, Array.getD_eq_getD_getElem?, Array.getElem?_setIfInBounds_ne (by omega), Array.getD_eq_getD_getElem?]
      have e2 : (fun t => (a.put o.dst v).tmps.getD t undef) = fun t => if o.dst = some t then v else a.tmps.getD t undef := by
        funext t
        by_cases e : o.dst = some t
        · rw [if_pos e, e]
          exact put_get (by rw [inv.asz]; exact dst _ _ _ ho e)
        · rw [if_neg e]
          exact put_ne e
      rw [e1, e2]
      exact hJ
    have hs := hstep i o _ a w ho hf0 hready inv.cl inv.asz inv.fr inv.j _ key
    unfold wpOp
    simp only [ho]
    by_cases hw : Region.wanted o (yielded ops a.tmps) = true
    · rw [if_pos hw] at hs ⊢
      exact .inl hs
    · rw [if_neg hw] at hs ⊢
      exact hs

structure RegOkI (ops : Array Oper) (n : Nat) : Prop where
  dst : ∀ (i : Nat) (o : Oper) (d : Tmp), ops[i]? = some o → o.dst = some d → d < n
  back : ∀ (i : Nat) (o : Oper) (e : Edge), ops[i]? = some o → e ∈ o.after → Region.binds .any e = true → e.on < i
def regOkIB (ops : Array Oper) (n : Nat) : Bool :=
  (List.range ops.size).all fun i => match ops[i]? with
    | none => true
    | some o => (match o.dst with | some d => decide (d < n) | none => true) && o.after.toList.all (fun e => !Region.binds .any e || decide (e.on < i))
theorem regOkI_of {ops : Array Oper} {n : Nat} (h : regOkIB ops n = true) : RegOkI ops n := by
  have key : ∀ (i : Nat) (o : Oper), ops[i]? = some o → ((match o.dst with | some d => decide (d < n) | none => true) = true ∧ o.after.toList.all (fun e => !Region.binds .any e || decide (e.on < i)) = true) := by
    intro i o ho
    have hi : i < ops.size := (Array.getElem?_eq_some_iff.1 ho).1
    have := List.all_eq_true.1 h i (List.mem_range.2 hi)
    simp only [ho, Bool.and_eq_true] at this
    exact this
  refine ⟨fun i o d ho hd => ?_, fun i o e ho he hb => ?_⟩
  · have := (key i o ho).1
    simpa [hd] using this
  · have := (key i o ho).2
    rw [List.all_eq_true] at this
    simpa [hb] using this e (by simpa using he)
theorem RegOkG.toI {ops : Array Oper} {n : Nat} (h : RegOkG ops n) : RegOkI ops n := ⟨h.dst, h.back⟩
theorem wp_region_inv' {id : Nat} (J : (Nat → Bool) → (Nat → Value) → World → Prop) {a0 : Act} {w0 : World} (hm : P.follows .mixedOrders = true)
    (ok : RegOkI ops a0.tmps.size) (hJ : J (fun _ => false) (fun t => a0.tmps.getD t undef) w0.drew)
    (hstep : ∀ (i : Nat) (o : Oper) (f : Nat → Bool) (a : Act) (w : World), ops[i]? = some o → f i = false → (∀ e, e ∈ o.after → Region.binds .any e = true → f e.on = true) →
      (∀ (j : Nat) (o' : Oper) (e : Edge), ops[j]? = some o' → f j = true → e ∈ o'.after → Region.binds .any e = true → f e.on = true) → a.tmps.size = a0.tmps.size →
      (∀ t, (∀ (j : Nat) (o' : Oper), ops[j]? = some o' → o'.dst ≠ some t) → a.tmps.getD t undef = a0.tmps.getD t undef) →
      J f (fun t => a.tmps.getD t undef) w →
      ∀ K : Act → World → Prop, (∀ v w', J (fun j => if j = i then true else f j) (fun t => if o.dst = some t then v else a.tmps.getD t undef) w' → K (a.put o.dst v) w') → if Region.wanted o (yielded ops a.tmps) = true then o.wp P a w K Q else K (a.put o.dst undef) w)
    (hfin : ∀ f a w, (∀ i, i < ops.size → f i = true) → a.tmps.size = a0.tmps.size → a.defers = a0.defers →
      (∀ t, (∀ (j : Nat) (o' : Oper), ops[j]? = some o' → o'.dst ≠ some t) → a.tmps.getD t undef = a0.tmps.getD t undef) →
      J f (fun t => a.tmps.getD t undef) w → Q .normal a w) :
    (Code.region id ops true).wp P Q a0 w0 := by
  refine wp_region_any hm (wpAny_inv J a0 ok.dst ok.back hstep hfin ops.size _ a0 w0.drew ?_ ?_)
  · simp
  · refine ⟨by simp, rfl, rfl, fun _ _ => rfl, ?_, ?_⟩
    rotate_left
    · intro i o e _ hl
      exfalso
      rw [Array.getD_eq_getD_getElem?] at hl
      by_cases hi : i < ops.size
      · rw [Array.getElem?_eq_getElem (by simpa using hi)] at hl; simp at hl
      · rw [Array.getElem?_eq_none (by simpa using hi)] at hl; simp at hl
    have e : (fun i => (Array.replicate ops.size false).getD i false) = fun _ => false := by
      funext i
      rw [Array.getD_eq_getD_getElem?]
      by_cases hi : i < ops.size
      · rw [Array.getElem?_eq_getElem (by simpa using hi)]; simp
      · rw [Array.getElem?_eq_none (by simpa using hi)]; simp
    rw [e]
    exact hJ
theorem wp_region_inv {id : Nat} (J : (Nat → Bool) → (Nat → Value) → World → Prop) {a0 : Act} {w0 : World} (hm : P.follows .mixedOrders = true)
    (ok : RegOkG ops a0.tmps.size) (hJ : J (fun _ => false) (fun t => a0.tmps.getD t undef) w0.drew)
    (hstep : ∀ (i : Nat) (o : Oper) (f : Nat → Bool) (a : Act) (w : World), ops[i]? = some o → f i = false → (∀ e, e ∈ o.after → Region.binds .any e = true → f e.on = true) →
      (∀ (j : Nat) (o' : Oper) (e : Edge), ops[j]? = some o' → f j = true → e ∈ o'.after → Region.binds .any e = true → f e.on = true) → a.tmps.size = a0.tmps.size →
      (∀ t, (∀ (j : Nat) (o' : Oper), ops[j]? = some o' → o'.dst ≠ some t) → a.tmps.getD t undef = a0.tmps.getD t undef) →
      J f (fun t => a.tmps.getD t undef) w →
      ∀ K : Act → World → Prop, (∀ v w', J (fun j => if j = i then true else f j) (fun t => if o.dst = some t then v else a.tmps.getD t undef) w' → K (a.put o.dst v) w') → if Region.wanted o (yielded ops a.tmps) = true then o.wp P a w K Q else K (a.put o.dst undef) w)
    (hfin : ∀ f a w, (∀ i, i < ops.size → f i = true) → a.tmps.size = a0.tmps.size → a.defers = a0.defers →
      (∀ t, (∀ (j : Nat) (o' : Oper), ops[j]? = some o' → o'.dst ≠ some t) → a.tmps.getD t undef = a0.tmps.getD t undef) →
      J f (fun t => a.tmps.getD t undef) w → Q .normal a w) :
    (Code.region id ops true).wp P Q a0 w0 := by
  refine wp_region_any hm (wpAny_inv J a0 ok.dst ok.back hstep hfin ops.size _ a0 w0.drew ?_ ?_)
  · simp
  · refine ⟨by simp, rfl, rfl, fun _ _ => rfl, ?_, ?_⟩
    rotate_left
    · intro i o e _ hl
      exfalso
      rw [Array.getD_eq_getD_getElem?] at hl
      by_cases hi : i < ops.size
      · rw [Array.getElem?_eq_getElem (by simpa using hi)] at hl; simp at hl
      · rw [Array.getElem?_eq_none (by simpa using hi)] at hl; simp at hl
    have e : (fun i => (Array.replicate ops.size false).getD i false) = fun _ => false := by
      funext i
      rw [Array.getD_eq_getD_getElem?]
      by_cases hi : i < ops.size
      · rw [Array.getElem?_eq_getElem (by simpa using hi)]; simp
      · rw [Array.getElem?_eq_none (by simpa using hi)]; simp
    rw [e]
    exact hJ
end
end Go.Proofs.YtpbnbekkmifbpaaDoor
