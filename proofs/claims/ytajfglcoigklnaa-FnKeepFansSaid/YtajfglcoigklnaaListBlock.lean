/-
  Lists of Block: how they lie in memory; the contracts of toBlock, szBlock, eqBlock and of their lists.
-/
import Derived.Test.YtajfglcoigklnaaMem
namespace Go.Proofs.Ytajfglcoigklnaa
open Go.ChangeShapes Go.WideShapes Go.ChangeAt Go.RowKit Go.Joins
set_option linter.unusedVariables false

structure Bl where
  a : ByteArray
  b : Bool
  c : Bool
abbrev blv (z : Bl) : Value := .agg #[.string z.a, .bool z.b, .bool z.c]
def blc (z : Bl) : List Value := [.string z.a, .bool z.b, .bool z.c]
def bls (l : List Bl) : List Value := l.flatMap blc
/-- How many bytes an element has. -/
def bln (z : Bl) : Nat := z.a.size
def blt (l : List Bl) (k : Nat) : Nat := ((l.take k).map bln).sum
theorem bls_len (l : List Bl) : (bls l).length = l.length * 3 := by
  induction l with
  | nil => rfl
  | cons z l ih => simp only [bls, List.flatMap_cons, List.length_append] at ih ⊢; rw [ih]; simp [blc]; omega
theorem bls_nil : bls [] = [] := rfl
theorem bls_app (l m : List Bl) : bls (l ++ m) = bls l ++ bls m := by simp [bls]
theorem bls_one (z : Bl) : bls [z] = blc z := by simp [bls]
theorem bls_drop (l : List Bl) (k : Nat) : (bls l).drop (k * 3) = bls (l.drop k) := by
  induction l generalizing k with
  | nil => simp [bls]
  | cons z l ih =>
    cases k with
    | zero => simp
    | succ k =>
      rw [List.drop_succ_cons, ← ih k]
      show (blc z ++ bls l).drop ((k + 1) * 3) = _
      rw [List.drop_append, List.drop_of_length_le (by simp [blc]; omega)]
      simp only [List.nil_append]
      congr 1
      simp [blc]; omega
theorem bls_take (l : List Bl) (k : Nat) : (bls l).take (k * 3) = bls (l.take k) := by
  induction l generalizing k with
  | nil => simp [bls]
  | cons z l ih =>
    cases k with
    | zero => simp [bls]
    | succ k =>
      rw [List.take_succ_cons]
      show (blc z ++ bls l).take ((k + 1) * 3) = blc z ++ bls (l.take k)
      rw [← ih k, List.take_append, List.take_of_length_le (by simp [blc]; omega)]
      congr 2
      simp [blc]; omega
theorem bls_get {l : List Bl} {k : Nat} {z : Bl} (h : l[k]? = some z) (j : Nat) (hj : j < 3) : (bls l)[k * 3 + j]? = (blc z)[j]? := by
  have h1 := bls_drop l k
  rw [← List.getElem?_drop, h1, List.drop_eq_getElem_cons (get_lt h)]
  have hz : l[k]'(get_lt h) = z := (List.getElem?_eq_some_iff.1 h).2
  rw [hz]
  show (blc z ++ bls (l.drop (k + 1)))[j]? = _
  rw [List.getElem?_append_left (by simp [blc]; omega)]
theorem blt_0 (l : List Bl) : blt l 0 = 0 := by simp [blt]
theorem blt_succ {l : List Bl} {k : Nat} {z : Bl} (h : l[k]? = some z) : blt l (k + 1) = blt l k + bln z := by
  unfold blt; rw [take_snoc_get l k z h]; simp
theorem blt_mono (l : List Bl) (k m : Nat) : blt l k ≤ blt l (k + m) := by
  induction m with
  | zero => exact Nat.le_refl _
  | succ m ih =>
    rcases Nat.lt_or_ge (k + m) l.length with h | h
    · have := blt_succ (List.getElem?_eq_getElem h); rw [← Nat.add_assoc]; omega
    · have e : blt l (k + (m + 1)) = blt l (k + m) := by unfold blt; rw [List.take_of_length_le (by omega), List.take_of_length_le (by omega)]
      omega
theorem blt_le {l : List Bl} {k : Nat} {z : Bl} (h : l[k]? = some z) : bln z ≤ blt l l.length := by
  have h1 := blt_succ h
  have h2 := get_lt h
  have h3 := blt_mono l (k + 1) (l.length - (k + 1))
  rw [show k + 1 + (l.length - (k + 1)) = l.length by omega] at h3
  omega
theorem rd_bllen {w : World} {A : Option Addr} {n : Nat} {l : List Bl} (h : Rd w 3 A n (bls l)) : l.length = n := by have := h.1; rw [bls_len] at this; omega
theorem Rd.bl {w : World} {A : Option Addr} {n k : Nat} {l : List Bl} (h : Rd w 3 A n (bls l)) (hk : k < n) :
    ∃ (b off : Nat) (z : Bl), A = some ⟨b, off, none⟩ ∧ b < w.heap.size ∧ l[k]? = some z ∧ w.cell? ⟨b, off + k * 3, none⟩ = some (.string z.a) ∧ w.cell? ⟨b, off + k * 3 + 1, none⟩ = some (.bool z.b) ∧ w.cell? ⟨b, off + k * 3 + 2, none⟩ = some (.bool z.c) := by
  have hl := rd_bllen h
  obtain ⟨b, off, hA, hlt, hc⟩ := h.2 (by rw [bls_len]; omega)
  have hz : l[k]? = some (l[k]'(by omega)) := List.getElem?_eq_getElem (by omega)
  refine ⟨b, off, _, hA, hlt, hz, ?_, ?_, ?_⟩
  · have := hc (k * 3 + 0) _ ((bls_get hz 0 (by omega)).trans rfl)
    simpa [Nat.add_assoc] using this
  · have := hc (k * 3 + 1) _ ((bls_get hz 1 (by omega)).trans rfl)
    simpa [Nat.add_assoc] using this
  · have := hc (k * 3 + 2) _ ((bls_get hz 2 (by omega)).trans rfl)
    simpa [Nat.add_assoc] using this
theorem bl_info : (Try.prog.info? 26).map (fun i => (i.zero, i.size, i.bytes)) = some (some (.agg #[.string ⟨#[]⟩, .bool false, .bool false]), 3, 24) := by kernel_rfl
theorem bl_cut {w : World} {A : Option Addr} {n k cap : Nat} {l : List Bl} (h : Rd w 3 A n (bls l)) (hk : k ≤ n) (hc : n ≤ cap) : Rd w 3 (if cap = k then A else A.map (·.add (k * 3))) (n - k) (bls (l.drop k)) := by
  rw [← bls_drop]; exact h.cut hk hc
theorem bl_take {w : World} {A : Option Addr} {n k : Nat} {l : List Bl} (h : Rd w 3 A n (bls l)) (hk : k ≤ n) : Rd w 3 A k (bls (l.take k)) := by
  rw [← bls_take]; exact h.take hk

theorem tobl_b (z : Bl) (w : World) :
    Calls Try.prog 13 #[blv z] w fun e w' => e = .returned (blv z) ∧ Below w.heap.size w w' := by
  obtain ⟨a, b, c⟩ := z
  go_enter Try.func13, Try.ntmps13
  go_wp2
  go_returns
  exact ⟨rfl, by go_grown⟩
theorem eqbl_b (z : Bl) (w : World) :
    Calls Try.prog 47 #[blv z, blv z] w fun e w' => e = .returned (.bool true) ∧ Below w.heap.size w w' := by
  obtain ⟨a, b, c⟩ := z
  go_enter Try.func47, Try.ntmps47
  go_wp2
  go_ret
  exact ⟨rfl, by go_grown⟩
theorem szbl_b (z : Bl) (l : Int) (w : World) (h : (z.a.size : Int) ≤ l) (hl : l ≤ 1048576) :
    Calls Try.prog 11 #[blv z, .int .i64 l] w fun e w' => e = .returned (.int .i64 (l - (bln z : Nat))) ∧ Below w.heap.size w w' := by
  have hn : ((bln z : Nat) : Int) = (z.a.size : Int) := by simp [bln]
  generalize (bln z : Nat) = m at *
  obtain ⟨a, b, c⟩ := z
  simp only at h hn
  have HN := Lib.hid hn; clear hn
  go_enter Try.func11, Try.ntmps11
  go_wp2
  go_ret
  exact ⟨ret_int (by have := HN.out; omega), by go_grown⟩
theorem szbl_no (z : Bl) (l : Int) (w : World) (h : l < (z.a.size : Int)) (hs : z.a.size ≤ maxLen) (hl : l ≤ 1048576) (hl0 : 0 ≤ l) :
    Calls Try.prog 11 #[blv z, .int .i64 l] w fun e w' => e = .returned (.int .i64 (-1)) ∧ Below w.heap.size w w' := by
  obtain ⟨a, b, c⟩ := z
  simp only [maxLen] at h hs
  go_enter Try.func11, Try.ntmps11
  go_wp2
  go_ret
  exact ⟨rfl, by go_grown⟩
end Go.Proofs.Ytajfglcoigklnaa
