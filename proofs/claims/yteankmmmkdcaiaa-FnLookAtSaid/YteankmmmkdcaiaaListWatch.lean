/-
  Lists of Watch: how they lie in memory; the contracts of toWatch, szWatch, eqWatch and of their lists.
-/
import Derived.Test.YteankmmmkdcaiaaMem
namespace Go.Proofs.Yteankmmmkdcaiaa
open Go.ChangeShapes Go.WideShapes Go.ChangeAt Go.RowKit Go.Joins
set_option linter.unusedVariables false

structure Wa where
  a : ByteArray
  b : Int
  c : Int
abbrev wav (z : Wa) : Value := .agg #[.string z.a, .int .i64 z.b, .int .i64 z.c]
def wac (z : Wa) : List Value := [.string z.a, .int .i64 z.b, .int .i64 z.c]
def was (l : List Wa) : List Value := l.flatMap wac
/-- How many bytes an element has. -/
def wan (z : Wa) : Nat := z.a.size
def wat (l : List Wa) (k : Nat) : Nat := ((l.take k).map wan).sum
theorem was_len (l : List Wa) : (was l).length = l.length * 3 := by
  induction l with
  | nil => rfl
  | cons z l ih => simp only [was, List.flatMap_cons, List.length_append] at ih ⊢; rw [ih]; simp [wac]; omega
theorem was_nil : was [] = [] := rfl
theorem was_app (l m : List Wa) : was (l ++ m) = was l ++ was m := by simp [was]
theorem was_one (z : Wa) : was [z] = wac z := by simp [was]
theorem was_drop (l : List Wa) (k : Nat) : (was l).drop (k * 3) = was (l.drop k) := by
  induction l generalizing k with
  | nil => simp [was]
  | cons z l ih =>
    cases k with
    | zero => simp
    | succ k =>
      rw [List.drop_succ_cons, ← ih k]
      show (wac z ++ was l).drop ((k + 1) * 3) = _
      rw [List.drop_append, List.drop_of_length_le (by simp [wac]; omega)]
      simp only [List.nil_append]
      congr 1
      simp [wac]; omega
theorem was_take (l : List Wa) (k : Nat) : (was l).take (k * 3) = was (l.take k) := by
  induction l generalizing k with
  | nil => simp [was]
  | cons z l ih =>
    cases k with
    | zero => simp [was]
    | succ k =>
      rw [List.take_succ_cons]
      show (wac z ++ was l).take ((k + 1) * 3) = wac z ++ was (l.take k)
      rw [← ih k, List.take_append, List.take_of_length_le (by simp [wac]; omega)]
      congr 2
      simp [wac]; omega
theorem was_get {l : List Wa} {k : Nat} {z : Wa} (h : l[k]? = some z) (j : Nat) (hj : j < 3) : (was l)[k * 3 + j]? = (wac z)[j]? := by
  have h1 := was_drop l k
  rw [← List.getElem?_drop, h1, List.drop_eq_getElem_cons (get_lt h)]
  have hz : l[k]'(get_lt h) = z := (List.getElem?_eq_some_iff.1 h).2
  rw [hz]
  show (wac z ++ was (l.drop (k + 1)))[j]? = _
  rw [List.getElem?_append_left (by simp [wac]; omega)]
theorem wat_0 (l : List Wa) : wat l 0 = 0 := by simp [wat]
theorem wat_succ {l : List Wa} {k : Nat} {z : Wa} (h : l[k]? = some z) : wat l (k + 1) = wat l k + wan z := by
  unfold wat; rw [take_snoc_get l k z h]; simp
theorem wat_mono (l : List Wa) (k m : Nat) : wat l k ≤ wat l (k + m) := by
  induction m with
  | zero => exact Nat.le_refl _
  | succ m ih =>
    rcases Nat.lt_or_ge (k + m) l.length with h | h
    · have := wat_succ (List.getElem?_eq_getElem h); rw [← Nat.add_assoc]; omega
    · have e : wat l (k + (m + 1)) = wat l (k + m) := by unfold wat; rw [List.take_of_length_le (by omega), List.take_of_length_le (by omega)]
      omega
theorem wat_le {l : List Wa} {k : Nat} {z : Wa} (h : l[k]? = some z) : wan z ≤ wat l l.length := by
  have h1 := wat_succ h
  have h2 := get_lt h
  have h3 := wat_mono l (k + 1) (l.length - (k + 1))
  rw [show k + 1 + (l.length - (k + 1)) = l.length by omega] at h3
  omega
theorem rd_walen {w : World} {A : Option Addr} {n : Nat} {l : List Wa} (h : Rd w 3 A n (was l)) : l.length = n := by have := h.1; rw [was_len] at this; omega
theorem Rd.wa {w : World} {A : Option Addr} {n k : Nat} {l : List Wa} (h : Rd w 3 A n (was l)) (hk : k < n) :
    ∃ (b off : Nat) (z : Wa), A = some ⟨b, off, none⟩ ∧ b < w.heap.size ∧ l[k]? = some z ∧ w.cell? ⟨b, off + k * 3, none⟩ = some (.string z.a) ∧ w.cell? ⟨b, off + k * 3 + 1, none⟩ = some (.int .i64 z.b) ∧ w.cell? ⟨b, off + k * 3 + 2, none⟩ = some (.int .i64 z.c) := by
  have hl := rd_walen h
  obtain ⟨b, off, hA, hlt, hc⟩ := h.2 (by rw [was_len]; omega)
  have hz : l[k]? = some (l[k]'(by omega)) := List.getElem?_eq_getElem (by omega)
  refine ⟨b, off, _, hA, hlt, hz, ?_, ?_, ?_⟩
  · have := hc (k * 3 + 0) _ ((was_get hz 0 (by omega)).trans rfl)
    simpa [Nat.add_assoc] using this
  · have := hc (k * 3 + 1) _ ((was_get hz 1 (by omega)).trans rfl)
    simpa [Nat.add_assoc] using this
  · have := hc (k * 3 + 2) _ ((was_get hz 2 (by omega)).trans rfl)
    simpa [Nat.add_assoc] using this
theorem wa_info : (Try.prog.info? 33).map (fun i => (i.zero, i.size, i.bytes)) = some (some (.agg #[.string ⟨#[]⟩, .int .i64 0, .int .i64 0]), 3, 32) := by kernel_rfl
theorem wa_cut {w : World} {A : Option Addr} {n k cap : Nat} {l : List Wa} (h : Rd w 3 A n (was l)) (hk : k ≤ n) (hc : n ≤ cap) : Rd w 3 (if cap = k then A else A.map (·.add (k * 3))) (n - k) (was (l.drop k)) := by
  rw [← was_drop]; exact h.cut hk hc
theorem wa_take {w : World} {A : Option Addr} {n k : Nat} {l : List Wa} (h : Rd w 3 A n (was l)) (hk : k ≤ n) : Rd w 3 A k (was (l.take k)) := by
  rw [← was_take]; exact h.take hk

theorem towa_b (z : Wa) (w : World) :
    Calls Try.prog 42 #[wav z] w fun e w' => e = .returned (wav z) ∧ Below w.heap.size w w' := by
  obtain ⟨a, b, c⟩ := z
  go_enter Try.func42, Try.ntmps42
  go_wp2
  go_returns
  exact ⟨rfl, by go_grown⟩
theorem eqwa_b (z : Wa) (w : World) :
    Calls Try.prog 43 #[wav z, wav z] w fun e w' => e = .returned (.bool true) ∧ Below w.heap.size w w' := by
  obtain ⟨a, b, c⟩ := z
  go_enter Try.func43, Try.ntmps43
  go_wp2
  go_ret
  exact ⟨rfl, by go_grown⟩
theorem szwa_b (z : Wa) (l : Int) (w : World) (h : (z.a.size : Int) ≤ l) (hl : l ≤ 1048576) :
    Calls Try.prog 41 #[wav z, .int .i64 l] w fun e w' => e = .returned (.int .i64 (l - (wan z : Nat))) ∧ Below w.heap.size w w' := by
  have hn : ((wan z : Nat) : Int) = (z.a.size : Int) := by simp [wan]
  generalize (wan z : Nat) = m at *
  obtain ⟨a, b, c⟩ := z
  simp only at h hn
  have HN := Lib.hid hn; clear hn
  go_enter Try.func41, Try.ntmps41
  go_wp2
  go_ret
  exact ⟨ret_int (by have := HN.out; omega), by go_grown⟩
theorem szwa_no (z : Wa) (l : Int) (w : World) (h : l < (z.a.size : Int)) (hs : z.a.size ≤ maxLen) (hl : l ≤ 1048576) (hl0 : 0 ≤ l) :
    Calls Try.prog 41 #[wav z, .int .i64 l] w fun e w' => e = .returned (.int .i64 (-1)) ∧ Below w.heap.size w w' := by
  obtain ⟨a, b, c⟩ := z
  simp only [maxLen] at h hs
  go_enter Try.func41, Try.ntmps41
  go_wp2
  go_ret
  exact ⟨rfl, by go_grown⟩
end Go.Proofs.Yteankmmmkdcaiaa
