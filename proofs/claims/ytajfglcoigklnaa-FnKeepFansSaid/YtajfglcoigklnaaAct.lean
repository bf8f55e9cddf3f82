/-
  The contracts of ActivityValid.
-/
import Derived.Test.YtajfglcoigklnaaFans
namespace Go.Proofs.Ytajfglcoigklnaa
open Go.ChangeShapes Go.WideShapes Go.ChangeAt Go.RowKit Go.Joins
set_option linter.unusedVariables false

abbrev acv (a : Ac) : Value := .agg #[.int .i64 a.kind, .int .i64 a.number, .string a.who.a, .string a.who.b, .string a.what]
set_option maxHeartbeats 1000000 in
theorem av_impl (a : Ac) (w : World) (h1 : a.who.a.size ≤ maxLen) (h2 : a.who.b.size ≤ maxLen) (h3 : a.what.size ≤ maxLen) :
    Calls Try.prog 26 #[acv a] w fun e w' => e = .returned (.bool (acV a)) ∧ Below w.heap.size w w' := by
  obtain ⟨k, n, ⟨x, y⟩, t⟩ := a
  simp only at h1 h2 h3
  have H1 := Lib.hid h1; have H2 := Lib.hid h2; have H3 := Lib.hid h3; clear h1 h2 h3
  generalize hr : acV ⟨k, n, ⟨x, y⟩, t⟩ = r
  have HR := Lib.hid hr
  cases a1 : wi k 0 5
  · have HE : Hid (r = false) := Lib.hid (by rw [← hr]; simp [acV, a1])
    clear hr
    go_enter Try.func26, Try.ntmps26
    go_wp2_with (go_at_call 50; refine (within_any _ _ _ _).mono ?_; rw [a1]; rintro e w' ⟨rfl, rfl⟩)
    go_ret
    exact ⟨ret_bool HE.out.symm, by go_grown⟩
  · cases a2 : wi n 0 1000000000
    · have HE : Hid (r = false) := Lib.hid (by rw [← hr]; simp [acV, a2])
      clear hr
      go_enter Try.func26, Try.ntmps26
      go_wp2_with (go_at_call 50; refine (within_any _ _ _ _).mono ?_; (first | rw [a1] | rw [a2]); rintro e w' ⟨rfl, rfl⟩)
      go_ret
      exact ⟨ret_bool HE.out.symm, by go_grown⟩
    · cases a3 : hdV ⟨x, y⟩
      · have HE : Hid (r = false) := Lib.hid (by rw [← hr]; simp [acV, a3])
        clear hr
        go_enter Try.func26, Try.ntmps26
        go_wp2_with (first
          | (go_at_call 50; refine (within_any _ _ _ _).mono ?_; (first | rw [a1] | rw [a2]); rintro e w' ⟨rfl, rfl⟩)
          | (go_at_call 51; refine (hd_impl _ _ _ H1.out H2.out).mono ?_; rw [a3]; rintro e w' ⟨rfl, o, rfl⟩))
        go_ret
        exact ⟨ret_bool HE.out.symm, by go_grown⟩
      · generalize a4 : wvB t = q
        have HE : Hid (r = q) := Lib.hid (by rw [← hr, ← a4]; simp [acV, a1, a2, a3])
        clear hr
        go_enter Try.func26, Try.ntmps26
        go_wp2_with (first
          | (go_at_call 50; refine (within_any _ _ _ _).mono ?_; (first | rw [a1] | rw [a2]); rintro e w' ⟨rfl, rfl⟩)
          | (go_at_call 51; refine (hd_impl _ _ _ H1.out H2.out).mono ?_; rw [a3]; rintro e w' ⟨rfl, o, rfl⟩)
          | (go_at_call 44; refine (iwv_any _ _ H3.out).mono ?_; rw [a4]; rintro e w' ⟨rfl, rfl⟩))
        go_ret
        exact ⟨ret_bool HE.out.symm, by go_grown⟩
set_option maxHeartbeats 1000000 in
theorem av_spec (a : Ac) (w : World) (h1 : a.who.a.size ≤ maxLen) (h2 : a.who.b.size ≤ maxLen) (h3 : a.what.size ≤ maxLen) :
    Calls Try.prog 49 #[acv a] w fun e w' => e = .returned (.bool (acV a)) ∧ Below w.heap.size w w' := by
  obtain ⟨k, n, ⟨x, y⟩, t⟩ := a
  simp only at h1 h2 h3
  have H1 := Lib.hid h1; have H2 := Lib.hid h2; have H3 := Lib.hid h3; clear h1 h2 h3
  generalize hr : acV ⟨k, n, ⟨x, y⟩, t⟩ = r
  have HR := Lib.hid hr
  cases a1 : wi k 0 5
  · have HE : Hid (r = false) := Lib.hid (by rw [← hr]; simp [acV, a1])
    clear hr
    go_enter Try.func49, Try.ntmps49
    go_wp2_with (go_at_call 63; refine (l1In_any _ _ _ _).mono ?_; rw [a1]; rintro e w' ⟨rfl, rfl⟩)
    go_ret
    exact ⟨ret_bool HE.out.symm, by go_grown⟩
  · cases a2 : wi n 0 1000000000
    · have HE : Hid (r = false) := Lib.hid (by rw [← hr]; simp [acV, a2])
      clear hr
      go_enter Try.func49, Try.ntmps49
      go_wp2_with (go_at_call 63; refine (l1In_any _ _ _ _).mono ?_; (first | rw [a1] | rw [a2]); rintro e w' ⟨rfl, rfl⟩)
      go_ret
      exact ⟨ret_bool HE.out.symm, by go_grown⟩
    · cases a3 : hdV ⟨x, y⟩
      · have HE : Hid (r = false) := Lib.hid (by rw [← hr]; simp [acV, a3])
        clear hr
        go_enter Try.func49, Try.ntmps49
        go_wp2_with (first
          | (go_at_call 63; refine (l1In_any _ _ _ _).mono ?_; (first | rw [a1] | rw [a2]); rintro e w' ⟨rfl, rfl⟩)
          | (go_at_call 65; refine (hd_spec _ _ _ H1.out H2.out).mono ?_; rw [a3]; rintro e w' ⟨rfl, o, rfl⟩))
        go_ret
        exact ⟨ret_bool HE.out.symm, by go_grown⟩
      · generalize a4 : wvB t = q
        have HE : Hid (r = q) := Lib.hid (by rw [← hr, ← a4]; simp [acV, a1, a2, a3])
        clear hr
        go_enter Try.func49, Try.ntmps49
        go_wp2_with (first
          | (go_at_call 63; refine (l1In_any _ _ _ _).mono ?_; (first | rw [a1] | rw [a2]); rintro e w' ⟨rfl, rfl⟩)
          | (go_at_call 65; refine (hd_spec _ _ _ H1.out H2.out).mono ?_; rw [a3]; rintro e w' ⟨rfl, o, rfl⟩)
          | (go_at_call 46; refine (swv_any _ _ H3.out).mono ?_; rw [a4]; rintro e w' ⟨rfl, rfl⟩))
        go_ret
        exact ⟨ret_bool HE.out.symm, by go_grown⟩
end Go.Proofs.Ytajfglcoigklnaa
