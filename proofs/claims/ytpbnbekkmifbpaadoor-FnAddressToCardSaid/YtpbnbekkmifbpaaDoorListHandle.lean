/-
  Lists of Handle: how they lie in memory; the contracts of toHandle, szHandle, eqHandle and of their lists.
-/
import Derived.Test.YtpbnbekkmifbpaaDoorMem
namespace Go.Proofs.YtpbnbekkmifbpaaDoor
open Go.ChangeShapes Go.WideShapes Go.ChangeAt Go.RowKit Go.Joins
set_option linter.unusedVariables false

structure Ha where
  a : ByteArray
  b : ByteArray
abbrev hav (z : Ha) : Value := .agg #[.string z.a, .string z.b]
def hac (z : Ha) : List Value := [.string z.a, .string z.b]
def has (l : List Ha) : List Value := l.flatMap hac
/-- How many bytes an element has. -/
def han (z : Ha) : Nat := z.a.size + z.b.size
def hat (l : List Ha) (k : Nat) : Nat := ((l.take k).map han).sum
theorem has_len (l : List Ha) : (has l).length = l.length * 2 := by
  induction l with
  | nil => rfl
  | cons z l ih => simp only [has, List.flatMap_cons, List.length_append] at ih ⊢; rw [ih]; simp [hac]; omega
theorem has_nil : has [] = [] := rfl
theorem has_app (l m : List Ha) : has (l ++ m) = has l ++ has m := by simp [has]
theorem has_one (z : Ha) : has [z] = hac z := by simp [has]
theorem has_drop (l : List Ha) (k : Nat) : (has l).drop (k * 2) = has (l.drop k) := by
  induction l generalizing k with
  | nil => simp [has]
  | cons z l ih =>
    cases k with
    | zero => simp
    | succ k =>
      rw [List.drop_succ_cons, ← ih k]
      show (hac z ++ has l).drop ((k + 1) * 2) = _
      rw [List.drop_append, List.drop_of_length_le (by simp [hac]; omega)]
      simp only [List.nil_append]
      congr 1
      simp [hac]; omega
theorem has_take (l : List Ha) (k : Nat) : (has l).take (k * 2) = has (l.take k) := by
  induction l generalizing k with
  | nil => simp [has]
  | cons z l ih =>
    cases k with
    | zero => simp [has]
    | succ k =>
      rw [List.take_succ_cons]
      show (hac z ++ has l).take ((k + 1) * 2) = hac z ++ has (l.take k)
      rw [← ih k, List.take_append, List.take_of_length_le (by simp [hac]; omega)]
      congr 2
      simp [hac]; omega
theorem has_get {l : List Ha} {k : Nat} {z : Ha} (h : l[k]? = some z) (j : Nat) (hj : j < 2) : (has l)[k * 2 + j]? = (hac z)[j]? := by
  have h1 := has_drop l k
  rw [← List.getElem?_drop, h1, List.drop_eq_getElem_cons (get_lt h)]
  have hz : l[k]'(get_lt h) = z := (List.getElem?_eq_some_iff.1 h).2
  rw [hz]
  show (hac z ++ has (l.drop (k + 1)))[j]? = _
  rw [List.getElem?_append_left (by simp [hac]; omega)]
theorem hat_0 (l : List Ha) : hat l 0 = 0 := by simp [hat]
theorem hat_succ {l : List Ha} {k : Nat} {z : Ha} (h : l[k]? = some z) : hat l (k + 1) = hat l k + han z := by
  unfold hat; rw [take_snoc_get l k z h]; simp
theorem hat_mono (l : List Ha) (k m : Nat) : hat l k ≤ hat l (k + m) := by
  induction m with
  | zero => exact Nat.le_refl _
  | succ m ih =>
    rcases Nat.lt_or_ge (k + m) l.length with h | h
    · have := hat_succ (List.getElem?_eq_getElem h); rw [← Nat.add_assoc]; omega
    · have e : hat l (k + (m + 1)) = hat l (k + m) := by unfold hat; rw [List.take_of_length_le (by omega), List.take_of_length_le (by omega)]
      omega
theorem hat_le {l : List Ha} {k : Nat} {z : Ha} (h : l[k]? = some z) : han z ≤ hat l l.length := by
  have h1 := hat_succ h
  have h2 := get_lt h
  have h3 := hat_mono l (k + 1) (l.length - (k + 1))
  rw [show k + 1 + (l.length - (k + 1)) = l.length by omega] at h3
  omega
theorem rd_halen {w : World} {A : Option Addr} {n : Nat} {l : List Ha} (h : Rd w 2 A n (has l)) : l.length = n := by have := h.1; rw [has_len] at this; omega
theorem Rd.ha {w : World} {A : Option Addr} {n k : Nat} {l : List Ha} (h : Rd w 2 A n (has l)) (hk : k < n) :
    ∃ (b off : Nat) (z : Ha), A = some ⟨b, off, none⟩ ∧ b < w.heap.size ∧ l[k]? = some z ∧ w.cell? ⟨b, off + k * 2, none⟩ = some (.string z.a) ∧ w.cell? ⟨b, off + k * 2 + 1, none⟩ = some (.string z.b) := by
  have hl := rd_halen h
  obtain ⟨b, off, hA, hlt, hc⟩ := h.2 (by rw [has_len]; omega)
  have hz : l[k]? = some (l[k]'(by omega)) := List.getElem?_eq_getElem (by omega)
  refine ⟨b, off, _, hA, hlt, hz, ?_, ?_⟩
  · have := hc (k * 2 + 0) _ ((has_get hz 0 (by omega)).trans rfl)
    simpa [Nat.add_assoc] using this
  · have := hc (k * 2 + 1) _ ((has_get hz 1 (by omega)).trans rfl)
    simpa [Nat.add_assoc] using this
theorem ha_info : (Tryd.prog.info? 29).map (fun i => (i.zero, i.size, i.bytes)) = some (some (.agg #[.string ⟨#[]⟩, .string ⟨#[]⟩]), 2, 32) := by kernel_rfl
theorem ha_cut {w : World} {A : Option Addr} {n k cap : Nat} {l : List Ha} (h : Rd w 2 A n (has l)) (hk : k ≤ n) (hc : n ≤ cap) : Rd w 2 (if cap = k then A else A.map (·.add (k * 2))) (n - k) (has (l.drop k)) := by
  rw [← has_drop]; exact h.cut hk hc
theorem ha_take {w : World} {A : Option Addr} {n k : Nat} {l : List Ha} (h : Rd w 2 A n (has l)) (hk : k ≤ n) : Rd w 2 A k (has (l.take k)) := by
  rw [← has_take]; exact h.take hk

theorem toha_b (z : Ha) (w : World) :
    Calls Tryd.prog 49 #[hav z] w fun e w' => e = .returned (hav z) ∧ Below w.heap.size w w' := by
  obtain ⟨a, b⟩ := z
  go_enter Tryd.func49, Tryd.ntmps49
  go_wp2
  go_returns
  exact ⟨rfl, by go_grown⟩
theorem eqha_b (z : Ha) (w : World) :
    Calls Tryd.prog 41 #[hav z, hav z] w fun e w' => e = .returned (.bool true) ∧ Below w.heap.size w w' := by
  obtain ⟨a, b⟩ := z
  go_enter Tryd.func41, Tryd.ntmps41
  go_wp2
  go_ret
  exact ⟨rfl, by go_grown⟩
theorem szha_b (z : Ha) (l : Int) (w : World) (h : (z.a.size : Int) + (z.b.size : Int) ≤ l) (hl : l ≤ 1048576) :
    Calls Tryd.prog 48 #[hav z, .int .i64 l] w fun e w' => e = .returned (.int .i64 (l - (han z : Nat))) ∧ Below w.heap.size w w' := by
  have hn : ((han z : Nat) : Int) = (z.a.size : Int) + (z.b.size : Int) := by simp [han]
  generalize (han z : Nat) = m at *
  obtain ⟨a, b⟩ := z
  simp only at h hn
  have HN := Lib.hid hn; clear hn
  go_enter Tryd.func48, Tryd.ntmps48
  go_wp2
  go_ret
  exact ⟨ret_int (by have := HN.out; omega), by go_grown⟩
theorem szha_no (z : Ha) (l : Int) (w : World) (h : l < (z.a.size : Int) + (z.b.size : Int)) (hs : z.a.size ≤ maxLen ∧ z.b.size ≤ maxLen) (hl : l ≤ 1048576) (hl0 : 0 ≤ l) :
    Calls Tryd.prog 48 #[hav z, .int .i64 l] w fun e w' => e = .returned (.int .i64 (-1)) ∧ Below w.heap.size w w' := by
  obtain ⟨a, b⟩ := z
  simp only [maxLen] at h hs
  obtain ⟨hs1, hs2⟩ := hs
  by_cases h1 : l < (a.size : Int)
  all_goals
    go_enter Tryd.func48, Tryd.ntmps48
    go_wp2
    go_ret
    exact ⟨rfl, by go_grown⟩
end Go.Proofs.YtpbnbekkmifbpaaDoor
