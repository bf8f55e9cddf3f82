/-
  Lists of Delivery: how they lie in memory; the contracts of toDelivery, szDelivery, eqDelivery and of their lists.
-/
import Derived.Test.YtadgmncngkkdnaaMem
namespace Go.Proofs.Ytadgmncngkkdnaa
open Go.ChangeShapes Go.WideShapes Go.ChangeAt Go.RowKit Go.Joins
set_option linter.unusedVariables false

structure De where
  a : Int
  b : ByteArray
  c : Int
  d : Int
abbrev dev (z : De) : Value := .agg #[.int .i64 z.a, .string z.b, .int .i64 z.c, .int .i64 z.d]
def dec (z : De) : List Value := [.int .i64 z.a, .string z.b, .int .i64 z.c, .int .i64 z.d]
def des (l : List De) : List Value := l.flatMap dec
/-- How many bytes an element has. -/
def den (z : De) : Nat := z.b.size
def det (l : List De) (k : Nat) : Nat := ((l.take k).map den).sum
theorem des_len (l : List De) : (des l).length = l.length * 4 := by
  induction l with
  | nil => rfl
  | cons z l ih => simp only [des, List.flatMap_cons, List.length_append] at ih ⊢; rw [ih]; simp [dec]; omega
theorem des_nil : des [] = [] := rfl
theorem des_app (l m : List De) : des (l ++ m) = des l ++ des m := by simp [des]
theorem des_one (z : De) : des [z] = dec z := by simp [des]
theorem des_drop (l : List De) (k : Nat) : (des l).drop (k * 4) = des (l.drop k) := by
  induction l generalizing k with
  | nil => simp [des]
  | cons z l ih =>
    cases k with
    | zero => simp
    | succ k =>
      rw [List.drop_succ_cons, ← ih k]
      show (dec z ++ des l).drop ((k + 1) * 4) = _
      rw [List.drop_append, List.drop_of_length_le (by simp [dec]; omega)]
      simp only [List.nil_append]
      congr 1
      simp [dec]; omega
theorem des_take (l : List De) (k : Nat) : (des l).take (k * 4) = des (l.take k) := by
  induction l generalizing k with
  | nil => simp [des]
  | cons z l ih =>
    cases k with
    | zero => simp [des]
    | succ k =>
      rw [List.take_succ_cons]
      show (dec z ++ des l).take ((k + 1) * 4) = dec z ++ des (l.take k)
      rw [← ih k, List.take_append, List.take_of_length_le (by simp [dec]; omega)]
      congr 2
      simp [dec]; omega
theorem des_get {l : List De} {k : Nat} {z : De} (h : l[k]? = some z) (j : Nat) (hj : j < 4) : (des l)[k * 4 + j]? = (dec z)[j]? := by
  have h1 := des_drop l k
  rw [← List.getElem?_drop, h1, List.drop_eq_getElem_cons (get_lt h)]
  have hz : l[k]'(get_lt h) = z := (List.getElem?_eq_some_iff.1 h).2
  rw [hz]
  show (dec z ++ des (l.drop (k + 1)))[j]? = _
  rw [List.getElem?_append_left (by simp [dec]; omega)]
theorem det_0 (l : List De) : det l 0 = 0 := by simp [det]
theorem det_succ {l : List De} {k : Nat} {z : De} (h : l[k]? = some z) : det l (k + 1) = det l k + den z := by
  unfold det; rw [take_snoc_get l k z h]; simp
theorem det_mono (l : List De) (k m : Nat) : det l k ≤ det l (k + m) := by
  induction m with
  | zero => exact Nat.le_refl _
  | succ m ih =>
    rcases Nat.lt_or_ge (k + m) l.length with h | h
    · have := det_succ (List.getElem?_eq_getElem h); rw [← Nat.add_assoc]; omega
    · have e : det l (k + (m + 1)) = det l (k + m) := by unfold det; rw [List.take_of_length_le (by omega), List.take_of_length_le (by omega)]
      omega
theorem det_le {l : List De} {k : Nat} {z : De} (h : l[k]? = some z) : den z ≤ det l l.length := by
  have h1 := det_succ h
  have h2 := get_lt h
  have h3 := det_mono l (k + 1) (l.length - (k + 1))
  rw [show k + 1 + (l.length - (k + 1)) = l.length by omega] at h3
  omega
theorem rd_delen {w : World} {A : Option Addr} {n : Nat} {l : List De} (h : Rd w 4 A n (des l)) : l.length = n := by have := h.1; rw [des_len] at this; omega
theorem Rd.de {w : World} {A : Option Addr} {n k : Nat} {l : List De} (h : Rd w 4 A n (des l)) (hk : k < n) :
    ∃ (b off : Nat) (z : De), A = some ⟨b, off, none⟩ ∧ b < w.heap.size ∧ l[k]? = some z ∧ w.cell? ⟨b, off + k * 4, none⟩ = some (.int .i64 z.a) ∧ w.cell? ⟨b, off + k * 4 + 1, none⟩ = some (.string z.b) ∧ w.cell? ⟨b, off + k * 4 + 2, none⟩ = some (.int .i64 z.c) ∧ w.cell? ⟨b, off + k * 4 + 3, none⟩ = some (.int .i64 z.d) := by
  have hl := rd_delen h
  obtain ⟨b, off, hA, hlt, hc⟩ := h.2 (by rw [des_len]; omega)
  have hz : l[k]? = some (l[k]'(by omega)) := List.getElem?_eq_getElem (by omega)
  refine ⟨b, off, _, hA, hlt, hz, ?_, ?_, ?_, ?_⟩
  · have := hc (k * 4 + 0) _ ((des_get hz 0 (by omega)).trans rfl)
    simpa [Nat.add_assoc] using this
  · have := hc (k * 4 + 1) _ ((des_get hz 1 (by omega)).trans rfl)
    simpa [Nat.add_assoc] using this
  · have := hc (k * 4 + 2) _ ((des_get hz 2 (by omega)).trans rfl)
    simpa [Nat.add_assoc] using this
  · have := hc (k * 4 + 3) _ ((des_get hz 3 (by omega)).trans rfl)
    simpa [Nat.add_assoc] using this
theorem de_info : (Try.prog.info? 25).map (fun i => (i.zero, i.size, i.bytes)) = some (some (.agg #[.int .i64 0, .string ⟨#[]⟩, .int .i64 0, .int .i64 0]), 4, 40) := by kernel_rfl
theorem de_cut {w : World} {A : Option Addr} {n k cap : Nat} {l : List De} (h : Rd w 4 A n (des l)) (hk : k ≤ n) (hc : n ≤ cap) : Rd w 4 (if cap = k then A else A.map (·.add (k * 4))) (n - k) (des (l.drop k)) := by
  rw [← des_drop]; exact h.cut hk hc
theorem de_take {w : World} {A : Option Addr} {n k : Nat} {l : List De} (h : Rd w 4 A n (des l)) (hk : k ≤ n) : Rd w 4 A k (des (l.take k)) := by
  rw [← des_take]; exact h.take hk

theorem tode_b (z : De) (w : World) :
    Calls Try.prog 17 #[dev z] w fun e w' => e = .returned (dev z) ∧ Below w.heap.size w w' := by
  obtain ⟨a, b, c, d⟩ := z
  go_enter Try.func17, Try.ntmps17
  go_wp2
  go_returns
  exact ⟨rfl, by go_grown⟩
theorem eqde_b (z : De) (w : World) :
    Calls Try.prog 34 #[dev z, dev z] w fun e w' => e = .returned (.bool true) ∧ Below w.heap.size w w' := by
  obtain ⟨a, b, c, d⟩ := z
  go_enter Try.func34, Try.ntmps34
  go_wp2
  go_ret
  exact ⟨rfl, by go_grown⟩
theorem szde_b (z : De) (l : Int) (w : World) (h : (z.b.size : Int) ≤ l) (hl : l ≤ 1048576) :
    Calls Try.prog 15 #[dev z, .int .i64 l] w fun e w' => e = .returned (.int .i64 (l - (den z : Nat))) ∧ Below w.heap.size w w' := by
  have hn : ((den z : Nat) : Int) = (z.b.size : Int) := by simp [den]
  generalize (den z : Nat) = m at *
  obtain ⟨a, b, c, d⟩ := z
  simp only at h hn
  have HN := Lib.hid hn; clear hn
  go_enter Try.func15, Try.ntmps15
  go_wp2
  go_ret
  exact ⟨ret_int (by have := HN.out; omega), by go_grown⟩
theorem szde_no (z : De) (l : Int) (w : World) (h : l < (z.b.size : Int)) (hs : z.b.size ≤ maxLen) (hl : l ≤ 1048576) (hl0 : 0 ≤ l) :
    Calls Try.prog 15 #[dev z, .int .i64 l] w fun e w' => e = .returned (.int .i64 (-1)) ∧ Below w.heap.size w w' := by
  obtain ⟨a, b, c, d⟩ := z
  simp only [maxLen] at h hs
  go_enter Try.func15, Try.ntmps15
  go_wp2
  go_ret
  exact ⟨rfl, by go_grown⟩
end Go.Proofs.Ytadgmncngkkdnaa
