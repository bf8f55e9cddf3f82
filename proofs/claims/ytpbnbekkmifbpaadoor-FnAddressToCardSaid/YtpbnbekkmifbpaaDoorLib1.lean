/-
  The library's functions that this seat calls: Split and Cut at one byte, TrimRight, HasPrefix, CutPrefix, Contains of texts.
-/
import Derived.Test.YtpbnbekkmifbpaaDoorWords
import Derived.Test.YtpbnbekkmifbpaaDoorShelf
namespace Go.Proofs.YtpbnbekkmifbpaaDoor
open Go.ChangeShapes Go.WideShapes Go.ChangeAt Go.RowKit Go.Joins
set_option linter.unusedVariables false

theorem ixb (c : UInt8) : ∀ l : List UInt8, Lib.indexByte l c = Lib.index l [c]
  | [] => rfl
  | b :: l => by
    rw [Lib.indexByte, Lib.index, ixb c l]
    by_cases h : b = c
    · subst h; simp [List.isPrefixOf]
    · simp [List.isPrefixOf, h, Ne.symm h]
theorem gsp_any (s : ByteArray) (w : World) (hs : s.size ≤ 1048576) :
    Calls Tryd.prog 70 #[.string s, .string ⟨#[32]⟩, .int .i64 0, .int .i64 (-1)] w fun e w' =>
      e = .returned (.slice (some ⟨w.heap.size, 0, none⟩) (wsB s).length (wsB s).length) ∧ w' = w.alloc (.cells (svs (wsB s)).toArray 9) := by
  have hl := wsB_len s
  have hc := countB_wsB s
  have h := Any.strings_genSplit_core lays221 (by kernel_rfl) s ⟨#[32]⟩ 0 (-1) (wsB s).length w (by omega) (by decide) (by decide)
    (fun x c _ => by have h1 := Any.strings_Index_one { lays221 with } x 32 (w.alloc (.cells c (lays221_ren.t 9))); rw [ixb] at h1; exact h1) (by
      have h1 := Any.strings_Count_one { lays221 with } s 32 w
      have e : (Lib.countByte s.data.toList 32 : Nat) = Lib.countB s ⟨#[32]⟩ := (Lib.count_one 32 s.data.toList).symm
      rw [e] at h1; exact h1) (by decide) (by decide) (by rw [if_pos (by decide)]; omega)
  have e1 : (wsB s).length - 1 = Lib.countB s ⟨#[32]⟩ := by omega
  rw [e1, splitB_wsB, Lib.cellsOf_full] at h
  exact h
theorem split_any (s : ByteArray) (w : World) (hs : s.size ≤ 1048576) :
    Calls Tryd.prog 57 #[.string s, .string ⟨#[32]⟩] w fun e w' =>
      e = .returned (.slice (some ⟨w.heap.size, 0, none⟩) (wsB s).length (wsB s).length) ∧ w' = w.alloc (.cells (svs (wsB s)).toArray 9) := by
  have c := gsp_any s w hs
  generalize (wsB s).length = n at *
  generalize (svs (wsB s)).toArray = cs at *
  go_enter Tryd.func57, Tryd.ntmps57
  go_wp2_with fail
  refine c.mono ?_
  rintro e w' ⟨rfl, rfl⟩
  go_wp2_with fail
  go_ret
  exact ⟨rfl, rfl⟩
theorem trim_any (s : ByteArray) (w : World) (hs : s.size ≤ maxLen) :
    Calls Tryd.prog 58 #[.string s, .string ⟨#[46, 44, 33, 63, 58]⟩] w fun e w' => e = .returned (.string (ctB s)) ∧ Below w.heap.size w w' := by
  have h := Any.strings_TrimRight_laid lays162 (by kernel_rfl) s ⟨#[46, 44, 33, 63, 58]⟩ w hs (by decide) (ascii_of_all (by decide))
  rw [show (⟨(Lib.trimRightS s.data.toList (⟨#[46, 44, 33, 63, 58]⟩ : ByteArray).data.toList).toArray⟩ : ByteArray) = ctB s from trim_ctB s] at h
  exact h
theorem hasp_any (s : ByteArray) (c : UInt8) (w : World) :
    Calls Tryd.prog 59 #[.string s, .string ⟨#[c]⟩] w fun e w' => e = .returned (.bool (Lib.hasPrefix s.data.toList [c])) ∧ w = w' :=
  (Any.strings_HasPrefix lays99 s ⟨#[c]⟩ w).mono fun e w' ⟨h1, h2⟩ => ⟨h1, h2.symm⟩
theorem cutp_any (s : ByteArray) (c : UInt8) (w : World) :
    Calls Tryd.prog 50 #[.string s, .string ⟨#[c]⟩] w fun e w' => e = .returned (.tuple #[.string (mkB (Lib.trimPrefix s.data.toList [c])), .bool (Lib.hasPrefix s.data.toList [c])]) ∧ w = w' :=
  (Any.strings_CutPrefix lays103 s ⟨#[c]⟩ w).mono fun e w' ⟨h1, h2⟩ => ⟨h1, h2.symm⟩
theorem six_any (s : ByteArray) (c : UInt8) (w : World) :
    Calls Tryd.prog 84 #[.string s, .string ⟨#[c]⟩] w fun e w' => e = .returned (.int .i64 (Lib.indexByte s.data.toList c)) ∧ w = w' :=
  (Any.stringslite_Index_one lays219 s c w).mono fun e w' ⟨h1, h2⟩ => ⟨h1, h2.symm⟩
/-- Is a text among these? -/
def inS (l : List ByteArray) (z : ByteArray) : Bool := Lib.containsS l z
theorem inS_iff {l : List ByteArray} {z : ByteArray} : inS l z = true ↔ z ∈ l := Lib.containsS_iff l z
theorem cons_any (A : Option Addr) (n c : Nat) (l : List ByteArray) (z : ByteArray) (w : World) (h : Rd w 1 A n (svs l)) (hn : n ≤ maxLen) :
    Calls Tryd.prog 51 #[.slice A n c, .string z] w fun e w' => e = .returned (.bool (inS l z)) ∧ w = w' := by
  have hl := rd_slen h
  cases n with
  | zero =>
    obtain rfl : l = [] := List.eq_nil_of_length_eq_zero hl
    exact (Any.slices_Contains_string_empty lays110 A c z w).mono fun e w' ⟨h1, h2⟩ => ⟨h1, h2.symm⟩
  | succ n =>
    obtain ⟨b, off, rfl, _, hc⟩ := h.2 (by rw [svs_len]; omega)
    have k := Any.slices_Contains_string lays110 b off (n + 1) c l z w (by omega) hn (fun j hj => hc j _ (by rw [svs, List.getElem?_map, List.getD_eq_getElem?_getD, List.getElem?_eq_getElem hj]; rfl))
    rw [List.take_of_length_le (by omega)] at k
    exact k.mono fun e w' ⟨h1, h2⟩ => ⟨h1, h2.symm⟩
end Go.Proofs.YtpbnbekkmifbpaaDoor
