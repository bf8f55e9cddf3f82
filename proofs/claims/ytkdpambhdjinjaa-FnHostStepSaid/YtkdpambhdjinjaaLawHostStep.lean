/-
  The walk of the law of HostStep.
-/
import Derived.Test.YtkdpambhdjinjaaDrawHostStep
namespace Go.Proofs.Ytkdpambhdjinjaa
open Go.ChangeShapes Go.WideShapes Go.ChangeAt Go.RowKit Go.Joins
set_option linter.unusedVariables false

theorem hst_good {s : ByteArray} {f u n : Int} (h : stV s f u n = true) : hvB s 0 0 = true ∧ mtB s 0 0 0 = true := by
  simp only [stV, Bool.and_eq_true] at h
  have h1 := hvB_0 h.1
  exact ⟨h1, by simp [mtB, h1]⟩
theorem hst_bad {s : ByteArray} {f u n : Int} (h : stV s f u n = true) : hvB s (stF f false) (stU f n false) = true ∧ 0 < stF f false ∧ (stF f false < 3 ∨ (3 ≤ stF f false ∧ mtB s (stF f false) (stU f n false) n = false)) := by
  simp only [stV, Bool.and_eq_true] at h
  obtain ⟨h1, ⟨hf1, hf2⟩, ⟨hu1, hu2⟩, hfu⟩ := hvB_iff.1 h.1
  obtain ⟨hn1, hn2⟩ := wi_iff.1 h.2
  have e1 : stF f false = min (f + 1) 20 := by simp [stF]
  have e2 : stU f n false = if 3 ≤ f + 1 then n + 100 * min (f + 1) 20 else 0 := by simp [stU]
  have h2 : hvB s (stF f false) (stU f n false) = true := by
    refine hvB_iff.2 ⟨h1, ?_, ?_, ?_⟩
    · rw [e1]; omega
    · rw [e2]; split <;> omega
    · rw [e1, e2]; split <;> omega
  refine ⟨h2, by rw [e1]; omega, ?_⟩
  by_cases h3 : 3 ≤ f + 1
  · refine .inr ⟨by rw [e1]; omega, ?_⟩
    have e3 : ¬ stU f n false ≤ n := by rw [e2, if_pos h3]; omega
    simp [mtB, e3]
  · exact .inl (by rw [e1]; omega)

set_option maxHeartbeats 2000000 in
theorem walkHostStep (a : Option Addr) (len cap : Nat) (zs : List Int) (w : World) (h : IsCode w a len cap zs) :
    Calls Try.prog 8 #[.slice a len cap] w fun e w' => e = .returned (.bool true) ∧ Below w.heap.size w w' := by
  obtain ⟨hl, hm⟩ := code_len h
  unfold maxLen at hm
  have H := Lib.hid h; clear h
  by_cases hb : (1048576 : Int) < (len : Int)
  · go_enter Try.func8, Try.ntmps8
    go_wp2
    go_ret
    exact ⟨rfl, by go_grown⟩
  · go_enter Try.func8, Try.ntmps8
    go_wp2_with fail
    refine (dhs_any _ _ _ _ _ _ H.out (Below.refl _ _)).mono ?_
    rintro e w1 ⟨s, f, u, n, g, rfl, hs, hn, hb1⟩
    have HB1 := Lib.hid hb1
    have HS : Hid (s.size ≤ maxLen) := Lib.hid (by have := hs.1; unfold maxLen; omega)
    clear hb1 hs
    cases hv : stV s f u n
    · have HV := Lib.hid hv
      have hcase : hvB s f u = false ∨ (hvB s f u = true ∧ (n < 0 ∨ (0 ≤ n ∧ 1000000 < n))) := by
        cases hk : hvB s f u
        · exact .inl rfl
        · have h5 : wi n 0 1000000 = false := by simpa [stV, hk] using hv
          have := wi_no.1 h5
          exact .inr ⟨rfl, by omega⟩
      clear hv hn
      rcases hcase with hk | ⟨hk, hk2 | ⟨hk2, hk3⟩⟩
      all_goals
        go_wp2_with (first | (go_at_call 21; refine (ist_no _ _ _ _ _ _ HS.out HV.out).mono ?_; rintro e w1 ⟨rfl, o1, o2, o3, rfl⟩))
        go_region_held3 (fun w' => (w'.cell? ⟨w1.heap.size, 0, none⟩ = some (.string s) ∧ w'.cell? ⟨w1.heap.size, 1, none⟩ = some (.int .i64 f) ∧ w'.cell? ⟨w1.heap.size, 2, none⟩ = some (.int .i64 u)) ∧ (w'.cell? ⟨w1.heap.size + 1 + 1 + 1 + 1, 0, none⟩ = some (.string ⟨#[]⟩) ∧ w'.cell? ⟨w1.heap.size + 1 + 1 + 1 + 1, 1, none⟩ = some (.int .i64 0) ∧ w'.cell? ⟨w1.heap.size + 1 + 1 + 1 + 1, 2, none⟩ = some (.int .i64 0))) ((refine ⟨⟨?_, ?_, ?_⟩, ?_, ?_, ?_⟩ <;> simp [go_sem]))
          (first | (go_at_call 20; refine (sst_no _ _ _ _ _ _ HS.out HV.out).mono ?_; rintro e w1 ⟨rfl, o1, o2, o3, rfl⟩))
        go_wp2_with (first | (go_at_call 14; refine (ihv_any _ _ _ _ HS.out).mono ?_; rintro e w1 ⟨rfl, rfl⟩) | (go_at_call 18; refine (alive_any _).mono ?_; rintro e w1 ⟨rfl, rfl⟩))
        go_ret
        exact ⟨rfl, bthen HB1.out (by go_grown)⟩
    · have HV := Lib.hid hv
      have hk : hvB s f u = true := by simp only [stV, Bool.and_eq_true] at hv; exact hv.1
      have hn' : 0 ≤ n ∧ n ≤ 1000000 := by simp only [stV, Bool.and_eq_true] at hv; exact wi_iff.1 hv.2
      obtain ⟨hn1, hn2⟩ := hn'
      cases g
      · obtain ⟨k1, k2, k3⟩ := hst_bad hv
        generalize hx : stF f false = x at *
        generalize hy : stU f n false = y at *
        have HX := Lib.hid hx; have HY := Lib.hid hy; clear hx hy hv hn
        rcases k3 with k3 | ⟨k3, k4⟩
        all_goals
          go_wp2_with (first | (go_at_call 21; refine (ist_bad _ _ _ _ _ HS.out HV.out).mono ?_; rw [HX.out, HY.out]; rintro e w1 ⟨rfl, o1, o2, o3, rfl⟩))
          go_region_held3 (fun w' => (w'.cell? ⟨w1.heap.size, 0, none⟩ = some (.string s) ∧ w'.cell? ⟨w1.heap.size, 1, none⟩ = some (.int .i64 f) ∧ w'.cell? ⟨w1.heap.size, 2, none⟩ = some (.int .i64 u)) ∧ (w'.cell? ⟨w1.heap.size + 1 + 1 + 1 + 1, 0, none⟩ = some (.string s) ∧ w'.cell? ⟨w1.heap.size + 1 + 1 + 1 + 1, 1, none⟩ = some (.int .i64 x) ∧ w'.cell? ⟨w1.heap.size + 1 + 1 + 1 + 1, 2, none⟩ = some (.int .i64 y))) ((refine ⟨⟨?_, ?_, ?_⟩, ?_, ?_, ?_⟩ <;> simp [go_sem]))
            (first | (go_at_call 20; refine (sst_bad _ _ _ _ _ HS.out HV.out).mono ?_; rw [HX.out, HY.out]; rintro e w1 ⟨rfl, o1, o2, o3, o4, rfl⟩))
          go_wp2_with (first | (go_at_call 14; refine (ihv_any _ _ _ _ HS.out).mono ?_; rintro e w1 ⟨rfl, rfl⟩) | (go_at_call 16; refine (imt_any _ _ _ _ _ HS.out).mono ?_; rintro e w1 ⟨rfl, o1, o2, rfl⟩))
          go_ret
          exact ⟨rfl, bthen HB1.out (by go_grown)⟩
      · obtain ⟨k1, k2⟩ := hst_good hv
        have hx : stF f true = 0 := by simp [stF]
        have hy : stU f n true = 0 := by simp [stU]
        have HX := Lib.hid hx; have HY := Lib.hid hy; clear hx hy hv hn
        go_wp2_with (first | (go_at_call 21; refine (ist_good _ _ _ _ _ HS.out HV.out).mono ?_; rw [HX.out, HY.out]; rintro e w1 ⟨rfl, o1, o2, o3, rfl⟩))
        go_region_held3 (fun w' => (w'.cell? ⟨w1.heap.size, 0, none⟩ = some (.string s) ∧ w'.cell? ⟨w1.heap.size, 1, none⟩ = some (.int .i64 f) ∧ w'.cell? ⟨w1.heap.size, 2, none⟩ = some (.int .i64 u)) ∧ (w'.cell? ⟨w1.heap.size + 1 + 1 + 1 + 1, 0, none⟩ = some (.string s) ∧ w'.cell? ⟨w1.heap.size + 1 + 1 + 1 + 1, 1, none⟩ = some (.int .i64 0) ∧ w'.cell? ⟨w1.heap.size + 1 + 1 + 1 + 1, 2, none⟩ = some (.int .i64 0))) ((refine ⟨⟨?_, ?_, ?_⟩, ?_, ?_, ?_⟩ <;> simp [go_sem]))
          (first | (go_at_call 20; refine (sst_good _ _ _ _ _ HS.out HV.out).mono ?_; rw [HX.out, HY.out]; rintro e w1 ⟨rfl, o1, o2, o3, rfl⟩))
        go_wp2_with (first | (go_at_call 14; refine (ihv_any _ _ _ _ HS.out).mono ?_; rintro e w1 ⟨rfl, rfl⟩) | (go_at_call 16; refine (imt_any _ _ _ _ _ HS.out).mono ?_; rintro e w1 ⟨rfl, o1, o2, rfl⟩))
        go_ret
        exact ⟨rfl, bthen HB1.out (by go_grown)⟩
end Go.Proofs.Ytkdpambhdjinjaa
