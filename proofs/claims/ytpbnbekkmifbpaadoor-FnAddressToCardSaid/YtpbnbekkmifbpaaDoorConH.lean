/-
  The contract of slices.Contains at handles.
-/
import Derived.Test.YtpbnbekkmifbpaaDoorShelf
import Derived.Test.YtpbnbekkmifbpaaDoorListHandle
namespace Go.Proofs.YtpbnbekkmifbpaaDoor
open Go.ChangeShapes Go.WideShapes Go.ChangeAt Go.RowKit Go.Joins Go.Shelf Go.Lib
set_option linter.unusedVariables false

/-- The same handle. -/
def haE (x y : Ha) : Bool := x.a.toList == y.a.toList && x.b.toList == y.b.toList
theorem haE_iff {x y : Ha} : haE x y = true ↔ x = y := by
  obtain ⟨a, b⟩ := x; obtain ⟨c, d⟩ := y
  have key : ∀ s t : ByteArray, s.toList = t.toList ↔ s = t := fun s t => by
    rw [Lib.toList_data, Lib.toList_data]
    exact ⟨fun h => ByteArray.ext (Array.ext' h), fun h => by rw [h]⟩
  simp [haE, key]
theorem haE_comm (x y : Ha) : haE x y = haE y x := by rw [Bool.eq_iff_iff, haE_iff, haE_iff]; exact eq_comm
theorem eqHa : EqlAt Tryd.prog 29 (fun x : Ha => .agg (hac x).toArray) haE := by
  refine ⟨fun x y w => ?_, GuardAt.agg _ (by kernel_rfl)⟩
  have hS : Tryd.prog.underlying 29 = some (.struct (Tryd.prog.fieldsOf 29)) := by kernel_rfl
  have hp : Tryd.prog.stoodInHeld 29 = false := by kernel_rfl
  simp only [hac]
  rw [run_eql_struct, show (10000 : Nat) = 9999 + 1 from rfl, run_equalIn_agg w 9999 29 _ _ hS hp]
  simp only [Program.fieldsOf, Tryd.underlying29]
  go_simp
  unfold haE
  by_cases h1 : x.a.toList = y.a.toList <;> by_cases h2 : x.b.toList = y.b.toList <;> simp [h1, h2]
/-- Is a handle among these? -/
def inH (l : List Ha) (z : Ha) : Bool := l.any fun y => haE z y
theorem inH_iff {l : List Ha} {z : Ha} : inH l z = true ↔ z ∈ l := by
  rw [inH, List.any_eq_true]
  constructor
  · rintro ⟨y, hy, e⟩; rw [haE_iff] at e; rw [e]; exact hy
  · intro h; exact ⟨z, h, haE_iff.2 rfl⟩
instance : Inhabited Ha := ⟨⟨⟨#[]⟩, ⟨#[]⟩⟩⟩
theorem con0_any (A : Option Addr) (c : Nat) (z : Ha) (w : World) :
    Calls Tryd.prog 36 #[.slice A 0 c, hav z] w fun e w' => e = .returned (.bool false) ∧ Below w.heap.size w w' := by
  obtain ⟨a, b⟩ := z
  go_enter Tryd.func36, Tryd.ntmps36
  go_wp2
  go_loop [8] (fun i => i = .int .i64 0) (fun i => 1)
  case atStart => rfl
  case round =>
    subst hrel
    go_wp2
    go_ret
    exact ⟨rfl, by go_grown⟩
theorem con_any (A : Option Addr) (n c : Nat) (l : List Ha) (z : Ha) (w : World) (h : Rd w 2 A n (has l)) (hn : n ≤ maxLen) :
    Calls Tryd.prog 36 #[.slice A n c, hav z] w fun e w' => e = .returned (.bool (inH l z)) ∧ Below w.heap.size w w' := by
  have hl := rd_halen h
  cases n with
  | zero =>
    obtain rfl : l = [] := List.eq_nil_of_length_eq_zero hl
    exact con0_any A c z w
  | succ n =>
    obtain ⟨b, off, rfl, _, hc⟩ := h.2 (by rw [has_len]; omega)
    have k := AnyQ.slices_Contains laysCH 2 Tryd.isAgg29 Tryd.sizeOf29 hac (fun _ => rfl) haE eqHa b off (n + 1) c l z w (by omega) hn (fun j hj i v hv => by
      have h1 : l[j]? = some l[j]! := by rw [List.getElem!_eq_getElem?_getD, List.getElem?_eq_getElem hj]; rfl
      have hi : i < 2 := get_lt hv
      have := hc (j * 2 + i) v (by rw [has_get h1 i hi]; exact hv)
      rw [Nat.add_assoc]; exact this)
    rw [List.take_of_length_le (by omega)] at k
    exact k
end Go.Proofs.YtpbnbekkmifbpaaDoor
