/-
  The law of Typed.tpl for a region with guarded operations: one that is not wanted yields 'undef'.
-/
import Derived.Test.YtpbnbekkmifbpaaDoorTyped
namespace Go.Proofs.YtpbnbekkmifbpaaDoor
open Go.RowKit
set_option linter.unusedVariables false

structure RegOkG (ops : Array Oper) (n : Nat) : Prop where
  dst : ∀ (i : Nat) (o : Oper) (d : Tmp), ops[i]? = some o → o.dst = some d → d < n
  one : ∀ (i j : Nat) (o o' : Oper) (d : Tmp), ops[i]? = some o → ops[j]? = some o' → o.dst = some d → o'.dst = some d → i = j
  back : ∀ (i : Nat) (o : Oper) (e : Edge), ops[i]? = some o → e ∈ o.after → Region.binds .any e = true → e.on < i
  deps : ∀ (i : Nat) (o : Oper) (t : Tmp) (j : Nat) (o' : Oper), ops[i]? = some o → t ∈ opReads o → ops[j]? = some o' → o'.dst = some t → ∃ e, e ∈ o.after ∧ e.on = j ∧ Region.binds .any e = true
  gdep : ∀ (i : Nat) (o : Oper) (j : Nat) (want : Bool), ops[i]? = some o → o.guard = some (j, want) → ∃ e, e ∈ o.after ∧ e.on = j ∧ Region.binds .any e = true

def noGuards (ops : Array Oper) : Array Oper := ops.map fun o => { o with guard := none }
def gdepB (ops : Array Oper) : Bool := ops.toList.all fun o => match o.guard with | none => true | some (j, _) => o.after.toList.any (fun e => e.on == j && Region.binds .any e)
theorem regOkG_of {ops : Array Oper} {n : Nat} (h : regOkB (noGuards ops) n = true) (hg : gdepB ops = true) : RegOkG ops n := by
  have k := regOk_of h
  have up : ∀ (i : Nat) (o : Oper), ops[i]? = some o → (noGuards ops)[i]? = some { o with guard := none } := fun i o ho => by simp [noGuards, ho]
  refine ⟨fun i o d ho hd => k.dst i _ d (up i o ho) hd, fun i j o o' d ho ho' hd hd' => k.one i j _ _ d (up i o ho) (up j o' ho') hd hd', fun i o e ho he hb => k.back i _ e (up i o ho) he hb, fun i o t j o' ho ht ho' hd' => k.deps i { o with guard := none } t j { o' with guard := none } (up i o ho) ht (up j o' ho') hd', fun i o j want ho hj => ?_⟩
  have hm : o ∈ ops.toList := by
    have := Array.mem_of_getElem? ho
    simpa using this
  have := List.all_eq_true.1 hg o hm
  simp only [hj] at this
  obtain ⟨e, he, hh⟩ := List.any_eq_true.1 this
  simp only [Bool.and_eq_true, beq_iff_eq] at hh
  exact ⟨e, by simpa using he, hh.1, hh.2⟩
theorem wanted_of {ops : Array Oper} {o o' : Oper} {j : Nat} {want b : Bool} {d : Tmp} {a : Act} (hg : o.guard = some (j, want)) (hj : ops[j]? = some o') (hd : o'.dst = some d) (hv : a.tmps.getD d undef = .bool b) : Region.wanted o (yielded ops a.tmps) = (b == want) := by
  have hs : a.tmps[d]? = some (.bool b) := by
    rw [Array.getD_eq_getD_getElem?] at hv
    cases h : a.tmps[d]? with
    | none => rw [h] at hv; simp [undef] at hv
    | some v => rw [h] at hv; simpa using hv
  simp only [Region.wanted, hg, yielded, hj, Option.bind_some, hd, hs]
  cases b <;> cases want <;> rfl

theorem wanted_undef {ops : Array Oper} {o o' : Oper} {j : Nat} {want : Bool} {d : Tmp} {a : Act} (hg : o.guard = some (j, want)) (hj : ops[j]? = some o') (hd : o'.dst = some d) (hv : a.tmps.getD d undef = undef) : Region.wanted o (yielded ops a.tmps) = false := by
  simp only [Region.wanted, hg, yielded, hj, Option.bind_some, hd]
  rw [Array.getD_eq_getD_getElem?] at hv
  cases h : a.tmps[d]? with
  | none => rfl
  | some v =>
    rw [h] at hv
    simp only [Option.getD_some] at hv
    subst hv
    rfl
theorem ite_yes {c : Prop} [Decidable c] {A B : Prop} (hc : c) (h : A) : if c then A else B := by rw [if_pos hc]; exact h
theorem ite_no {b : Bool} {A B : Prop} (hc : b = false) (h : B) : if b = true then A else B := by rw [if_neg (by simp [hc])]; exact h
section
variable {P : Program} {ops : Array Oper} {Q : Exit → Act → World → Prop}

theorem wpAny_typedG (R S : Nat) (T : Tmp → Value → World → Prop) (J : Nat → World → Prop) (a0 : Act) (w0 : World) (ok : RegOkG ops a0.tmps.size)
    (hst : ∀ t v w w', Nx R S w w' → T t v w → T t v w')
    (hstep : ∀ (i : Nat) (o : Oper) (c : Nat) (a : Act) (w : World), ops[i]? = some o → c < ops.size → J c w → Nx R S w0 w → a.tmps.size = a0.tmps.size →
      (∀ t, (∀ (j : Nat) (o' : Oper), ops[j]? = some o' → o'.dst ≠ some t) → a.tmps.getD t undef = a0.tmps.getD t undef) →
      (∀ t, t ∈ opReads o → (∃ (j : Nat) (o' : Oper), ops[j]? = some o' ∧ o'.dst = some t) → T t (a.tmps.getD t undef) w) →
      (∀ (j : Nat) (want : Bool) (o' : Oper) (t : Tmp), o.guard = some (j, want) → ops[j]? = some o' → o'.dst = some t → T t (a.tmps.getD t undef) w) →
      if Region.wanted o (yielded ops a.tmps) = true then o.wp P a w (fun a' w' => ∃ v, a' = a.put o.dst v ∧ (∀ d, o.dst = some d → T d v w') ∧ Nx R S w w' ∧ J (c + 1) w') Q
      else ∃ v, a.put o.dst undef = a.put o.dst v ∧ (∀ d, o.dst = some d → T d v w) ∧ Nx R S w w ∧ J (c + 1) w)
    (hfin : ∀ a w, a.tmps.size = a0.tmps.size → a.defers = a0.defers →
      (∀ t, (∀ (j : Nat) (o' : Oper), ops[j]? = some o' → o'.dst ≠ some t) → a.tmps.getD t undef = a0.tmps.getD t undef) →
      (∀ (i : Nat) (o : Oper) (d : Tmp), ops[i]? = some o → o.dst = some d → T d (a.tmps.getD d undef) w) → Nx R S w0 w → (∃ c, c ≤ ops.size ∧ J c w) → Q .normal a w) :
    ∀ (fuel : Nat) (listed : Array Bool) (c : Nat) (a : Act) (w : World), listed.toList.count false ≤ fuel → c + listed.toList.count false = ops.size → RInv R S T J a0 w0 ops listed c a w → wpAny P .any ops Q fuel listed a w := by
  have done : ∀ (listed : Array Bool) (c : Nat) (a : Act) (w : World), c ≤ ops.size → RInv R S T J a0 w0 ops listed c a w → Region.ready .any ops listed = [] → Q .normal a w := by
    intro listed c a w hc inv hr
    have all : ∀ i, i < ops.size → listed.getD i false = true := by
      intro i
      induction i using Nat.strongRecOn with
      | _ i ih =>
        intro hi
        cases hl : listed.getD i false
        · exfalso
          have hmem : i ∈ Region.ready .any ops listed := by
            rw [ready_iff]
            refine ⟨hi, ?_, ?_⟩
            · rw [Array.getD_eq_getD_getElem?] at hl ⊢
              have hi' : i < listed.size := by rw [inv.size]; exact hi
              rw [Array.getElem?_eq_getElem hi'] at hl ⊢
              simpa using hl
            · obtain ⟨o, ho⟩ : ∃ o, ops[i]? = some o := ⟨ops[i], Array.getElem?_eq_getElem hi⟩
              rw [ho]
              simp only [Option.map_some, Option.getD_some]
              rw [Array.all_eq_true']
              intro e he
              cases hbd : Region.binds .any e
              · simp
              · have hb := ok.back i o e ho he hbd
                rw [ih e.on hb (by omega)]
                simp
          rw [hr] at hmem
          cases hmem
        · rfl
    exact hfin a w inv.asz inv.dfr inv.fr (fun i o d ho hd => inv.ty i o d (all i (Array.getElem?_eq_some_iff.1 ho).1) ho hd) inv.nx ⟨c, hc, inv.j⟩
  intro fuel
  induction fuel with
  | zero =>
    intro listed c a w hf hc inv
    have hz : Region.ready .any ops listed = [] := by
      rw [List.eq_nil_iff_forall_not_mem]
      intro i hi
      have hr := ready_iff.1 hi
      have hi' : i < listed.size := by rw [inv.size]; exact hr.1
      have h0 : listed[i] = false := by
        have := hr.2.1
        rw [Array.getD_eq_getD_getElem?, Array.getElem?_eq_getElem hi'] at this
        simpa using this
      have : 0 < listed.toList.count false := List.count_pos_iff.2 (by rw [← h0]; exact Array.getElem_mem_toList hi')
      omega
    exact ⟨hz, done listed c a w (by omega) inv hz⟩
  | succ fuel ih =>
    intro listed c a w hf hc inv
    refine ⟨done listed c a w (by omega) inv, fun i hi => ?_⟩
    have hr := ready_iff.1 hi
    have hi' : i < listed.size := by rw [inv.size]; exact hr.1
    have h0 : listed[i] = false := by
      have := hr.2.1
      rw [Array.getD_eq_getD_getElem?, Array.getElem?_eq_getElem hi'] at this
      simpa using this
    have hpos : 0 < listed.toList.count false := List.count_pos_iff.2 (by rw [← h0]; exact Array.getElem_mem_toList hi')
    obtain ⟨o, ho⟩ : ∃ o, ops[i]? = some o := ⟨ops[i]'hr.1, Array.getElem?_eq_getElem hr.1⟩
    have hdep : ∀ t, t ∈ opReads o → (∃ (j : Nat) (o' : Oper), ops[j]? = some o' ∧ o'.dst = some t) → T t (a.tmps.getD t undef) w := by
      intro t ht hex
      obtain ⟨j, o', hj, hd⟩ := hex
      obtain ⟨e, he, hon, hb⟩ := ok.deps i o t j o' ho ht hj hd
      refine inv.ty j o' t ?_ hj hd
      have := hr.2.2
      rw [ho] at this
      simp only [Option.map_some, Option.getD_some] at this
      rw [Array.all_eq_true'] at this
      have := this e he
      rw [hb, hon] at this
      simpa using this
    have hgd : ∀ (j : Nat) (want : Bool) (o' : Oper) (t : Tmp), o.guard = some (j, want) → ops[j]? = some o' → o'.dst = some t → T t (a.tmps.getD t undef) w := by
      intro j want o' t hg hj hd
      obtain ⟨e, he, hon, hb⟩ := ok.gdep i o j want ho hg
      refine inv.ty j o' t ?_ hj hd
      have := hr.2.2
      rw [ho] at this
      simp only [Option.map_some, Option.getD_some] at this
      rw [Array.all_eq_true'] at this
      have := this e he
      rw [hb, hon] at this
      simpa using this
    have hs := hstep i o c a w ho (by omega) inv.j inv.nx inv.asz inv.fr hdep hgd
    have key : ∀ a' w', (∃ v, a' = a.put o.dst v ∧ (∀ d, o.dst = some d → T d v w') ∧ Nx R S w w' ∧ J (c + 1) w') → wpAny P .any ops Q fuel (listed.setIfInBounds i true) a' w' := by
      rintro a' w' ⟨v, rfl, hT, hN, hJ⟩
      have hcount : (listed.setIfInBounds i true).toList.count false + 1 = listed.toList.count false := by
        rw [Array.toList_setIfInBounds, List.count_set (by simpa using hi')]
        have e1 : (listed.toList[i]'(by simpa using hi') == false) = true := by simp [h0]
        rw [if_pos e1, if_neg (by decide)]
        omega
      refine ih _ (c + 1) _ _ (by omega) (by omega) ?_
      refine ⟨by simpa using inv.size, put_size.trans inv.asz, put_defers.trans inv.dfr, fun t ht => (put_ne (ht i o ho)).trans (inv.fr t ht), inv.nx.trans hN, hJ, fun k ok' d hl hk hd => ?_⟩
      by_cases e : k = i
      · subst e
        rw [ho] at hk
        cases hk
        rw [hd, put_get (by rw [inv.asz]; exact ok.dst _ _ _ ho hd)]
        exact hT d hd
      · have hl' : listed.getD k false = true := by
          rw [Array.getD_eq_getD_getElem?] at hl ⊢
          rwa [Array.getElem?_setIfInBounds_ne (by omega)] at hl
        rw [put_ne (fun h => e (ok.one _ _ _ _ _ hk ho hd h))]
        exact hst _ _ _ _ hN (inv.ty k ok' d hl' hk hd)
    unfold wpOp
    simp only [ho]
    by_cases hw : Region.wanted o (yielded ops a.tmps) = true
    · rw [if_pos hw] at hs ⊢
      exact .inl (Oper.wp_mono key hs)
    · rw [if_neg hw] at hs ⊢
      exact key _ _ hs

theorem wp_region_typedG {id : Nat} (R S : Nat) (T : Tmp → Value → World → Prop) (J : Nat → World → Prop) {a0 : Act} {w0 : World} (hm : P.follows .mixedOrders = true) (ok : RegOkG ops a0.tmps.size)
    (hst : ∀ t v w w', Nx R S w w' → T t v w → T t v w') (hJ : J 0 w0.drew)
    (hstep : ∀ (i : Nat) (o : Oper) (c : Nat) (a : Act) (w : World), ops[i]? = some o → c < ops.size → J c w → Nx R S w0 w → a.tmps.size = a0.tmps.size →
      (∀ t, (∀ (j : Nat) (o' : Oper), ops[j]? = some o' → o'.dst ≠ some t) → a.tmps.getD t undef = a0.tmps.getD t undef) →
      (∀ t, t ∈ opReads o → (∃ (j : Nat) (o' : Oper), ops[j]? = some o' ∧ o'.dst = some t) → T t (a.tmps.getD t undef) w) →
      (∀ (j : Nat) (want : Bool) (o' : Oper) (t : Tmp), o.guard = some (j, want) → ops[j]? = some o' → o'.dst = some t → T t (a.tmps.getD t undef) w) →
      ∀ K : Act → World → Prop, (∀ v w', (∀ d, o.dst = some d → T d v w') → Nx R S w w' → J (c + 1) w' → K (a.put o.dst v) w') → if Region.wanted o (yielded ops a.tmps) = true then o.wp P a w K Q else K (a.put o.dst undef) w)
    (hfin : ∀ a w, a.tmps.size = a0.tmps.size → a.defers = a0.defers →
      (∀ t, (∀ (j : Nat) (o' : Oper), ops[j]? = some o' → o'.dst ≠ some t) → a.tmps.getD t undef = a0.tmps.getD t undef) →
      (∀ (i : Nat) (o : Oper) (d : Tmp), ops[i]? = some o → o.dst = some d → T d (a.tmps.getD d undef) w) → Nx R S w0 w → (∃ c, c ≤ ops.size ∧ J c w) → Q .normal a w) :
    (Code.region id ops true).wp P Q a0 w0 := by
  refine wp_region_any hm (wpAny_typedG R S T J a0 w0 ok hst (fun i o c a w h1 h2 h3 h4 h5 h6 h7 h8 => hstep i o c a w h1 h2 h3 h4 h5 h6 h7 h8 (fun a' w' => ∃ v, a' = a.put o.dst v ∧ (∀ d, o.dst = some d → T d v w') ∧ Nx R S w w' ∧ J (c + 1) w') fun v w' k1 k2 k3 => ⟨v, rfl, k1, k2, k3⟩) hfin ops.size _ 0 a0 w0.drew ?_ ?_ ?_)
  · simp
  · simp
  · exact ⟨by simp, rfl, rfl, fun _ _ => rfl, ⟨rfl, rfl, rfl, Nat.le_refl _, fun _ _ _ _ => rfl⟩, hJ, fun i o d hl => by
      exfalso
      rw [Array.getD_eq_getD_getElem?] at hl
      by_cases hi : i < ops.size
      · rw [Array.getElem?_eq_getElem (by simpa using hi)] at hl; simp at hl
      · rw [Array.getElem?_eq_none (by simpa using hi)] at hl; simp at hl⟩
end
end Go.Proofs.YtpbnbekkmifbpaaDoor
