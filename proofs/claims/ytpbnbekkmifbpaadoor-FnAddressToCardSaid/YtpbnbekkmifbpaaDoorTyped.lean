/-
  A law for a region that draws its order: every temporary that the region writes has a type (a predicate on its value and the world) that later operations keep; the world goes through an invariant that counts the operations. Whatever the order.
-/
import Derived.Test.YtpbnbekkmifbpaaDoorBase
import Derived.Orders
import Derived.IntWalk
namespace Go.Proofs.YtpbnbekkmifbpaaDoor
open Go.RowKit
set_option linter.unusedVariables false

/-- Blocks other than R and S are as they were. -/
structure Nx (R S : Nat) (w w' : World) : Prop where
  os : w'.os = w.os
  tape : w'.tape = w.tape
  output : w'.output = w.output
  size : w.heap.size ≤ w'.heap.size
  block : ∀ k, k < w.heap.size → k ≠ R → k ≠ S → w'.heap[k]? = w.heap[k]?
theorem Nx.refl (R S : Nat) (w : World) : Nx R S w w := ⟨rfl, rfl, rfl, Nat.le_refl _, fun _ _ _ _ => rfl⟩
theorem Nx.trans {R S : Nat} {a b c : World} (h : Nx R S a b) (k : Nx R S b c) : Nx R S a c :=
  ⟨k.os.trans h.os, k.tape.trans h.tape, k.output.trans h.output, Nat.le_trans h.size k.size, fun i hi h1 h2 => (k.block i (Nat.lt_of_lt_of_le hi h.size) h1 h2).trans (h.block i hi h1 h2)⟩

def opReads (o : Oper) : List Tmp := o.op.operands.toList.filterMap fun | .tmp t => some t | _ => none
/-- What the law asks of the region's text. -/
structure RegOk (ops : Array Oper) (n : Nat) : Prop where
  guard : ∀ (i : Nat) (o : Oper), ops[i]? = some o → o.guard = none
  dst : ∀ (i : Nat) (o : Oper) (d : Tmp), ops[i]? = some o → o.dst = some d → d < n
  one : ∀ (i j : Nat) (o o' : Oper) (d : Tmp), ops[i]? = some o → ops[j]? = some o' → o.dst = some d → o'.dst = some d → i = j
  back : ∀ (i : Nat) (o : Oper) (e : Edge), ops[i]? = some o → e ∈ o.after → Region.binds .any e = true → e.on < i
  deps : ∀ (i : Nat) (o : Oper) (t : Tmp) (j : Nat) (o' : Oper), ops[i]? = some o → t ∈ opReads o → ops[j]? = some o' → o'.dst = some t → ∃ e, e ∈ o.after ∧ e.on = j ∧ Region.binds .any e = true

def regOkB (ops : Array Oper) (n : Nat) : Bool :=
  (List.range ops.size).all fun i => match ops[i]? with
    | none => true
    | some o => o.guard.isNone && (match o.dst with | some d => decide (d < n) | none => true) &&
      (List.range ops.size).all (fun j => match ops[j]? with
        | none => true
        | some o' => match o'.dst with
          | none => true
          | some d' => (decide (i = j) || o.dst != some d') && (!(opReads o).contains d' || o.after.toList.any (fun e => e.on == j && Region.binds .any e))) &&
      o.after.toList.all (fun e => !Region.binds .any e || decide (e.on < i))

theorem regOk_of {ops : Array Oper} {n : Nat} (h : regOkB ops n = true) : RegOk ops n := by
  have key : ∀ (i : Nat) (o : Oper), ops[i]? = some o → (o.guard.isNone = true ∧ (match o.dst with | some d => decide (d < n) | none => true) = true ∧
      (List.range ops.size).all (fun j => match ops[j]? with
        | none => true
        | some o' => match o'.dst with
          | none => true
          | some d' => (decide (i = j) || o.dst != some d') && (!(opReads o).contains d' || o.after.toList.any (fun e => e.on == j && Region.binds .any e))) = true ∧
      o.after.toList.all (fun e => !Region.binds .any e || decide (e.on < i)) = true) := by
    intro i o ho
    have hi : i < ops.size := (Array.getElem?_eq_some_iff.1 ho).1
    have := List.all_eq_true.1 h i (List.mem_range.2 hi)
    simp only [ho, Bool.and_eq_true] at this
    exact ⟨this.1.1.1, this.1.1.2, this.1.2, this.2⟩
  have key2 : ∀ (i : Nat) (o : Oper) (j : Nat) (o' : Oper) (d' : Tmp), ops[i]? = some o → ops[j]? = some o' → o'.dst = some d' → ((decide (i = j) || o.dst != some d') = true ∧ (!(opReads o).contains d' || o.after.toList.any (fun e => e.on == j && Region.binds .any e)) = true) := by
    intro i o j o' d' ho ho' hd'
    have hj : j < ops.size := (Array.getElem?_eq_some_iff.1 ho').1
    have := List.all_eq_true.1 (key i o ho).2.2.1 j (List.mem_range.2 hj)
    simp only [ho', hd', Bool.and_eq_true] at this
    exact this
  refine ⟨fun i o ho => by simpa using (key i o ho).1, fun i o d ho hd => ?_, fun i j o o' d ho ho' hd hd' => ?_, fun i o e ho he hb => ?_, fun i o t j o' ho ht ho' hd' => ?_⟩
  · have := (key i o ho).2.1
    simpa [hd] using this
  · have := (key2 i o j o' d ho ho' hd').1
    simpa [hd] using this
  · have := (key i o ho).2.2.2
    rw [List.all_eq_true] at this
    simpa [hb] using this e (by simpa using he)
  · have := (key2 i o j o' t ho ho' hd').2
    have hc : (opReads o).contains t = true := by simpa using ht
    rw [hc] at this
    simp only [Bool.not_true, Bool.false_or] at this
    obtain ⟨e, he, hh⟩ := List.any_eq_true.1 this
    simp only [Bool.and_eq_true, beq_iff_eq] at hh
    exact ⟨e, by simpa using he, hh.1, hh.2⟩

section
variable {P : Program} {ops : Array Oper} {Q : Exit → Act → World → Prop}

theorem ready_iff {md : Region.Mode} {listed : Array Bool} {i : Nat} : i ∈ Region.ready md ops listed ↔ i < ops.size ∧ listed.getD i true = false ∧ ((ops[i]?).map (·.after.all fun e => !Region.binds md e || listed.getD e.on false)).getD false = true := by
  simp [Region.ready]

structure RInv (R S : Nat) (T : Tmp → Value → World → Prop) (J : Nat → World → Prop) (a0 : Act) (w0 : World) (ops : Array Oper) (listed : Array Bool) (c : Nat) (a : Act) (w : World) : Prop where
  size : listed.size = ops.size
  asz : a.tmps.size = a0.tmps.size
  dfr : a.defers = a0.defers
  fr : ∀ t, (∀ (i : Nat) (o : Oper), ops[i]? = some o → o.dst ≠ some t) → a.tmps.getD t undef = a0.tmps.getD t undef
  nx : Nx R S w0 w
  j : J c w
  ty : ∀ (i : Nat) (o : Oper) (d : Tmp), listed.getD i false = true → ops[i]? = some o → o.dst = some d → T d (a.tmps.getD d undef) w

theorem put_get {a : Act} {d : Tmp} {v : Value} (h : d < a.tmps.size) : (a.put (some d) v).tmps.getD d undef = v := by
  simp [Act.put, Array.getD_eq_getD_getElem?, h]
theorem put_ne {a : Act} {dst : Option Tmp} {t : Tmp} {v : Value} (h : dst ≠ some t) : (a.put dst v).tmps.getD t undef = a.tmps.getD t undef := by
  cases dst with
  | none => rfl
  | some d =>
    have : d ≠ t := fun e => h (by rw [e])
    simp [Act.put, Array.getD_eq_getD_getElem?, this]
theorem put_size {a : Act} {dst : Option Tmp} {v : Value} : (a.put dst v).tmps.size = a.tmps.size := by
  cases dst <;> simp [Act.put]
theorem put_defers {a : Act} {dst : Option Tmp} {v : Value} : (a.put dst v).defers = a.defers := by
  cases dst <;> rfl

theorem wpAny_typed (R S : Nat) (T : Tmp → Value → World → Prop) (J : Nat → World → Prop) (a0 : Act) (w0 : World) (ok : RegOk ops a0.tmps.size)
    (hst : ∀ t v w w', Nx R S w w' → T t v w → T t v w')
    (hstep : ∀ (i : Nat) (o : Oper) (c : Nat) (a : Act) (w : World), ops[i]? = some o → c < ops.size → J c w → Nx R S w0 w → a.tmps.size = a0.tmps.size →
      (∀ t, (∀ (j : Nat) (o' : Oper), ops[j]? = some o' → o'.dst ≠ some t) → a.tmps.getD t undef = a0.tmps.getD t undef) →
      (∀ t, t ∈ opReads o → (∃ (j : Nat) (o' : Oper), ops[j]? = some o' ∧ o'.dst = some t) → T t (a.tmps.getD t undef) w) →
      o.wp P a w (fun a' w' => ∃ v, a' = a.put o.dst v ∧ (∀ d, o.dst = some d → T d v w') ∧ Nx R S w w' ∧ J (c + 1) w') Q)
    (hfin : ∀ a w, a.tmps.size = a0.tmps.size → a.defers = a0.defers →
      (∀ t, (∀ (j : Nat) (o' : Oper), ops[j]? = some o' → o'.dst ≠ some t) → a.tmps.getD t undef = a0.tmps.getD t undef) →
      (∀ (i : Nat) (o : Oper) (d : Tmp), ops[i]? = some o → o.dst = some d → T d (a.tmps.getD d undef) w) → Nx R S w0 w → (∃ c, c ≤ ops.size ∧ J c w) → Q .normal a w) :
    ∀ (fuel : Nat) (listed : Array Bool) (c : Nat) (a : Act) (w : World), listed.toList.count false ≤ fuel → c + listed.toList.count false = ops.size → RInv R S T J a0 w0 ops listed c a w → wpAny P .any ops Q fuel listed a w := by
  have done : ∀ (listed : Array Bool) (c : Nat) (a : Act) (w : World), c ≤ ops.size → RInv R S T J a0 w0 ops listed c a w → Region.ready .any ops listed = [] → Q .normal a w := by
    intro listed c a w hc inv hr
    have all : ∀ i, i < ops.size → listed.getD i false = true := by
      intro i
      induction i using Nat.strongRecOn with
      | _ i ih =>
        intro hi
        cases hl : listed.getD i false
        · exfalso
          have hmem : i ∈ Region.ready .any ops listed := by
            rw [ready_iff]
            refine ⟨hi, ?_, ?_⟩
            · rw [Array.getD_eq_getD_getElem?] at hl ⊢
              have hi' : i < listed.size := by rw [inv.size]; exact hi
              rw [Array.getElem?_eq_getElem hi'] at hl ⊢
              simpa using hl
            · obtain ⟨o, ho⟩ : ∃ o, ops[i]? = some o := ⟨ops[i], Array.getElem?_eq_getElem hi⟩
              rw [ho]
              simp only [Option.map_some, Option.getD_some]
              rw [Array.all_eq_true']
              intro e he
              cases hbd : Region.binds .any e
              · simp
              · have hb := ok.back i o e ho he hbd
                rw [ih e.on hb (by omega)]
                simp
          rw [hr] at hmem
          cases hmem
        · rfl
    exact hfin a w inv.asz inv.dfr inv.fr (fun i o d ho hd => inv.ty i o d (all i (Array.getElem?_eq_some_iff.1 ho).1) ho hd) inv.nx ⟨c, hc, inv.j⟩
  intro fuel
  induction fuel with
  | zero =>
    intro listed c a w hf hc inv
    have hz : Region.ready .any ops listed = [] := by
      rw [List.eq_nil_iff_forall_not_mem]
      intro i hi
      have hr := ready_iff.1 hi
      have hi' : i < listed.size := by rw [inv.size]; exact hr.1
      have h0 : listed[i] = false := by
        have := hr.2.1
        rw [Array.getD_eq_getD_getElem?, Array.getElem?_eq_getElem hi'] at this
        simpa using this
      have : 0 < listed.toList.count false := List.count_pos_iff.2 (by rw [← h0]; exact Array.getElem_mem_toList hi')
      omega
    exact ⟨hz, done listed c a w (by omega) inv hz⟩
  | succ fuel ih =>
    intro listed c a w hf hc inv
    refine ⟨done listed c a w (by omega) inv, fun i hi => ?_⟩
    have hr := ready_iff.1 hi
    have hi' : i < listed.size := by rw [inv.size]; exact hr.1
    have h0 : listed[i] = false := by
      have := hr.2.1
      rw [Array.getD_eq_getD_getElem?, Array.getElem?_eq_getElem hi'] at this
      simpa using this
    have hpos : 0 < listed.toList.count false := List.count_pos_iff.2 (by rw [← h0]; exact Array.getElem_mem_toList hi')
    obtain ⟨o, ho⟩ : ∃ o, ops[i]? = some o := ⟨ops[i]'hr.1, Array.getElem?_eq_getElem hr.1⟩
    have hw : Region.wanted o (yielded ops a.tmps) = true := by simp only [Region.wanted, ok.guard i o ho]
    unfold wpOp
    simp only [ho, hw, if_true]
    refine .inl (Oper.wp_mono ?_ (hstep i o c a w ho (by omega) inv.j inv.nx inv.asz inv.fr ?_))
    · rintro a' w' ⟨v, rfl, hT, hN, hJ⟩
      have hcount : (listed.setIfInBounds i true).toList.count false + 1 = listed.toList.count false := by
        rw [Array.toList_setIfInBounds, List.count_set (by simpa using hi')]
        have e1 : (listed.toList[i]'(by simpa using hi') == false) = true := by simp [h0]
        rw [if_pos e1, if_neg (by decide)]
        omega
      refine ih _ (c + 1) _ _ (by omega) (by omega) ?_
      refine ⟨by simpa using inv.size, put_size.trans inv.asz, put_defers.trans inv.dfr, fun t ht => (put_ne (ht i o ho)).trans (inv.fr t ht), inv.nx.trans hN, hJ, fun k ok' d hl hk hd => ?_⟩
      by_cases e : k = i
      · subst e
        rw [ho] at hk
        cases hk
        rw [hd, put_get (by rw [inv.asz]; exact ok.dst _ _ _ ho hd)]
        exact hT d hd
      · have hl' : listed.getD k false = true := by
          rw [Array.getD_eq_getD_getElem?] at hl ⊢
          rwa [Array.getElem?_setIfInBounds_ne (by omega)] at hl
        rw [put_ne (fun h => e (ok.one _ _ _ _ _ hk ho hd h))]
        exact hst _ _ _ _ hN (inv.ty k ok' d hl' hk hd)
    · intro t ht hex
      obtain ⟨j, o', hj, hd⟩ := hex
      obtain ⟨e, he, hon, hb⟩ := ok.deps i o t j o' ho ht hj hd
      refine inv.ty j o' t ?_ hj hd
      have := hr.2.2
      rw [ho] at this
      simp only [Option.map_some, Option.getD_some] at this
      rw [Array.all_eq_true'] at this
      have := this e he
      rw [hb, hon] at this
      simpa using this

theorem wp_region_typed {id : Nat} (R S : Nat) (T : Tmp → Value → World → Prop) (J : Nat → World → Prop) {a0 : Act} {w0 : World} (hm : P.follows .mixedOrders = true) (ok : RegOk ops a0.tmps.size)
    (hst : ∀ t v w w', Nx R S w w' → T t v w → T t v w') (hJ : J 0 w0.drew)
    (hstep : ∀ (i : Nat) (o : Oper) (c : Nat) (a : Act) (w : World), ops[i]? = some o → c < ops.size → J c w → Nx R S w0 w → a.tmps.size = a0.tmps.size →
      (∀ t, (∀ (j : Nat) (o' : Oper), ops[j]? = some o' → o'.dst ≠ some t) → a.tmps.getD t undef = a0.tmps.getD t undef) →
      (∀ t, t ∈ opReads o → (∃ (j : Nat) (o' : Oper), ops[j]? = some o' ∧ o'.dst = some t) → T t (a.tmps.getD t undef) w) →
      ∀ K : Act → World → Prop, (∀ v w', (∀ d, o.dst = some d → T d v w') → Nx R S w w' → J (c + 1) w' → K (a.put o.dst v) w') → o.wp P a w K Q)
    (hfin : ∀ a w, a.tmps.size = a0.tmps.size → a.defers = a0.defers →
      (∀ t, (∀ (j : Nat) (o' : Oper), ops[j]? = some o' → o'.dst ≠ some t) → a.tmps.getD t undef = a0.tmps.getD t undef) →
      (∀ (i : Nat) (o : Oper) (d : Tmp), ops[i]? = some o → o.dst = some d → T d (a.tmps.getD d undef) w) → Nx R S w0 w → (∃ c, c ≤ ops.size ∧ J c w) → Q .normal a w) :
    (Code.region id ops true).wp P Q a0 w0 := by
  refine wp_region_any hm (wpAny_typed R S T J a0 w0 ok hst (fun i o c a w h1 h2 h3 h4 h5 h6 h7 => hstep i o c a w h1 h2 h3 h4 h5 h6 h7 _ fun v w' k1 k2 k3 => ⟨v, rfl, k1, k2, k3⟩) hfin ops.size _ 0 a0 w0.drew ?_ ?_ ?_)
  · simp
  · simp
  · exact ⟨by simp, rfl, rfl, fun _ _ => rfl, ⟨rfl, rfl, rfl, Nat.le_refl _, fun _ _ _ _ => rfl⟩, hJ, fun i o d hl => by
      exfalso
      rw [Array.getD_eq_getD_getElem?] at hl
      by_cases hi : i < ops.size
      · rw [Array.getElem?_eq_getElem (by simpa using hi)] at hl; simp at hl
      · rw [Array.getElem?_eq_none (by simpa using hi)] at hl; simp at hl⟩
end

/-! Types of temporaries. -/
def tI (lo hi : Int) (v : Value) : Prop := ∃ x : Int, v = .int .i64 x ∧ lo ≤ x ∧ x ≤ hi
def tB (v : Value) : Prop := ∃ b : Bool, v = .bool b
def tP (R : Nat) (v : Value) : Prop := v = .pointer (some ⟨R, 0, none⟩)
def tL (R S n : Nat) (lo hi : Int) (v : Value) (w : World) : Prop := ∃ g : Nat, v = .slice (some ⟨g, 0, none⟩) n n ∧ g ≠ R ∧ g ≠ S ∧ ∀ j, j < n → ∃ z : Int, lo ≤ z ∧ z ≤ hi ∧ w.cell? ⟨g, j, none⟩ = some (.int .i64 z)
def tA (R S : Nat) (lo hi : Int) (v : Value) (w : World) : Prop := ∃ (g j : Nat) (z : Int), v = .pointer (some ⟨g, j, none⟩) ∧ g ≠ R ∧ g ≠ S ∧ lo ≤ z ∧ z ≤ hi ∧ w.cell? ⟨g, j, none⟩ = some (.int .i64 z)
theorem Nx.cell {R S : Nat} {w w' : World} (h : Nx R S w w') {b o : Nat} {v : Value} (hb : w.cell? ⟨b, o, none⟩ = some v) (h1 : b ≠ R) (h2 : b ≠ S) : w'.cell? ⟨b, o, none⟩ = some v :=
  (World.cell?_of_block (w := w) (h.block b (World.block_lt_of_cell? w _ hb) h1 h2)).trans hb
theorem tL_keep {R S n : Nat} {lo hi : Int} {v : Value} {w w' : World} (hN : Nx R S w w') (h : tL R S n lo hi v w) : tL R S n lo hi v w' := by
  obtain ⟨g, hv, h1, h2, hc⟩ := h
  exact ⟨g, hv, h1, h2, fun j hj => by
    obtain ⟨z, hz1, hz2, hz⟩ := hc j hj
    exact ⟨z, hz1, hz2, hN.cell hz h1 h2⟩⟩
theorem tA_keep {R S : Nat} {lo hi : Int} {v : Value} {w w' : World} (hN : Nx R S w w') (h : tA R S lo hi v w) : tA R S lo hi v w' := by
  obtain ⟨g, j, z, hv, h1, h2, hz1, hz2, hz⟩ := h
  exact ⟨g, j, z, hv, h1, h2, hz1, hz2, hN.cell hz h1 h2⟩
theorem Nx.of_grown {R S : Nat} {w w' : World} (h : w.grownBy w' (some R)) : Nx R S w w' :=
  ⟨h.os, h.tape, h.output, h.size, fun k hk h1 _ => h.block k hk (fun e => h1 (by injection e))⟩
theorem Nx.alloc (R S : Nat) (w : World) (o : Obj) : Nx R S w (w.alloc o) := ⟨rfl, rfl, rfl, by simp, fun k hk _ _ => Below.heap_alloc w o k hk⟩
theorem Nx.grown {R : Nat} {w w' : World} (h : Nx R R w w') : w.grownBy w' (some R) :=
  ⟨h.os, h.tape, h.output, h.size, fun k hk hne => h.block k hk (fun e => hne (by rw [e])) (fun e => hne (by rw [e]))⟩
/-- A new row of numbers. -/
theorem tL_new {R S : Nat} {lo hi : Int} {w : World} {l : List Value} {n : Nat} {T : TypeId} (hn : l.length = n) (h1 : w.heap.size ≠ R) (h2 : w.heap.size ≠ S) (hl : ∀ v ∈ l, ∃ z : Int, lo ≤ z ∧ z ≤ hi ∧ v = .int .i64 z) :
    tL R S n lo hi (.slice (some ⟨w.heap.size, 0, none⟩) n n) (w.alloc (.cells l.toArray T)) := by
  refine ⟨w.heap.size, rfl, h1, h2, fun j hj => ?_⟩
  subst hn
  obtain ⟨z, h3, h4, h5⟩ := hl l[j] (List.getElem_mem hj)
  refine ⟨z, h3, h4, ?_⟩
  have hh : (w.alloc (.cells l.toArray T)).heap[w.heap.size]? = some (.cells l.toArray T) := heap_alloc_new w _
  unfold World.cell?
  simp only [hh]
  simp [hj, h5]
theorem getD_opt {a : Act} {t : Tmp} {v : Value} (h : a.tmps.getD t undef = v) : a.tmps[t]?.getD undef = v := by
  rw [Array.getD_eq_getD_getElem?] at h; exact h
theorem noDst_of {ops : Array Oper} {s : Tmp} (h : ops.toList.all (fun o => o.dst != some s) = true) : ∀ (j : Nat) (o' : Oper), ops[j]? = some o' → o'.dst ≠ some s := by
  intro j o' hj
  rw [List.all_eq_true] at h
  have := h o' (by
    obtain ⟨hj', rfl⟩ := Array.getElem?_eq_some_iff.1 hj
    exact Array.getElem_mem_toList hj')
  simpa using this
theorem reads_of {o : Oper} {t : Tmp} (h : (opReads o).contains t = true) : t ∈ opReads o := by simpa using h
/-- Block S holds cells of a kind. -/
def SlotIs (T : TypeId) (Pc : Array Value → Prop) (w : World) (S : Nat) : Prop := ∃ cs, w.heap[S]? = some (.cells cs T (0, 0)) ∧ Pc cs
section
variable {T : TypeId} {Pc : Array Value → Prop} {w w' : World} {R S : Nat}
theorem jslot_lt (h : SlotIs T Pc w S) : S < w.heap.size := by
  obtain ⟨cs, hb, _⟩ := h
  exact (Array.getElem?_eq_some_iff.1 hb).1
theorem jslot_grown (h : SlotIs T Pc w S) (hg : w.grownBy w' (some R)) (hRS : R ≠ S) : SlotIs T Pc w' S := by
  have hl := jslot_lt h
  obtain ⟨cs, hb, hp⟩ := h
  exact ⟨cs, (hg.block S hl (fun e => hRS (by injection e with e; exact e.symm))).trans hb, hp⟩
theorem jslot_alloc (h : SlotIs T Pc w S) (o : Obj) : SlotIs T Pc (w.alloc o) S := by
  have hl := jslot_lt h
  obtain ⟨cs, hb, hp⟩ := h
  exact ⟨cs, (Below.heap_alloc w o S hl).trans hb, hp⟩
theorem jslot_drew (h : SlotIs T Pc w S) : SlotIs T Pc w.drew S := h
theorem jslot_below {B : Nat} (h : SlotIs T Pc w S) (hb : Below B w w') (hS : S < B) : SlotIs T Pc w' S := by
  obtain ⟨cs, hh, hp⟩ := h
  exact ⟨cs, (hb.block S hS).trans hh, hp⟩
theorem below_of_nx {w0 : World} (hb : Below w0.heap.size w0 w) (hR : w0.heap.size ≤ R) (hS : w0.heap.size ≤ S) (hN : Nx R S w w') : Below w0.heap.size w0 w' :=
  hb.trans ⟨hN.os, hN.tape, hN.output, hN.size, fun k hk => hN.block k (Nat.lt_of_lt_of_le hk hb.size) (by omega) (by omega)⟩
theorem Nx.setCell (R S : Nat) (w : World) (i : Nat) (v : Value) : Nx R S w (w.setCell ⟨S, i, none⟩ v) :=
  ⟨rfl, rfl, rfl, by simp [World.setCell], fun k hk h1 h2 => Below.heap_setCell w _ v k h2⟩
end
end Go.Proofs.YtpbnbekkmifbpaaDoor
