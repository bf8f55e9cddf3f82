/-
  The walk of the law of FillBucket.
-/
import Derived.Test.YtkdogkpdgpppkaaDrawFill
import Derived.Test.YtkdogkpdgpppkaaWord
import Derived.Deep.RegionHeld3
namespace Go.Proofs.Ytkdogkpdgpppkaa
open Go.ChangeShapes Go.WideShapes Go.ChangeAt Go.RowKit Go.Joins
set_option linter.unusedVariables false

theorem fill_twice {a b c d m now : Int} (h : fillV a b c d now = true) (h1 : d ≤ m) (h2 : m ≤ now) :
    fillV a b c d m = true ∧ fillV (fillH a b c d m) b c m now = true ∧ fillH (fillH a b c d m) b c m now = fillH a b c d now ∧ bkV (fillH a b c d now) b c now = true ∧ a ≤ fillH a b c d now := by
  obtain ⟨h3, h4, hm1, hm2⟩ := fill_facts h
  obtain ⟨⟨hb1, hb2⟩, ⟨ha1, ha2⟩, ⟨hc1, hc2⟩, hd1, hd2⟩ := bkV_iff.1 h3
  obtain ⟨hn1, hn2⟩ := wi_iff.1 h4
  have e1 : 0 ≤ c * (m - d) := Int.mul_nonneg (by omega) (by omega)
  have e2 : 0 ≤ c * (now - m) := Int.mul_nonneg (by omega) (by omega)
  have e3 : c * (now - d) = c * (m - d) + c * (now - m) := by rw [← Int.mul_add]; congr 1; omega
  refine ⟨?_, ?_, ?_, ?_, ?_⟩
  · simp only [fillV, Bool.and_eq_true]; exact ⟨h3, wi_iff.2 ⟨h1, by omega⟩⟩
  · simp only [fillV, Bool.and_eq_true]
    refine ⟨bkV_iff.2 ⟨⟨hb1, hb2⟩, ?_, ⟨hc1, hc2⟩, by omega, by omega⟩, wi_iff.2 ⟨h2, by omega⟩⟩
    unfold fillH; omega
  · unfold fillH; omega
  · refine bkV_iff.2 ⟨⟨hb1, hb2⟩, ?_, ⟨hc1, hc2⟩, by omega, by omega⟩
    unfold fillH; omega
  · unfold fillH; omega

set_option maxHeartbeats 1000000 in
theorem walkFillBucket (a : Option Addr) (len cap : Nat) (zs : List Int) (w : World) (h : IsCode w a len cap zs) :
    Calls Try.prog 8 #[.slice a len cap] w fun e w' => e = .returned (.bool true) ∧ Below w.heap.size w w' := by
  obtain ⟨hl, hm⟩ := code_len h
  unfold maxLen at hm
  have H := Lib.hid h; clear h
  by_cases hb : (1048576 : Int) < (len : Int)
  · go_enter Try.func8, Try.ntmps8
    go_wp2
    go_ret
    exact ⟨rfl, by go_grown⟩
  · go_enter Try.func8, Try.ntmps8
    go_wp2_with fail
    refine (dfb_any _ _ _ _ _ _ H.out (Below.refl _ _)).mono ?_
    rintro e w1 ⟨x, y, z, t, n, rfl, hs, hn, hb1⟩
    have HB1 := Lib.hid hb1; clear hb1
    unfold smallBk at hs
    cases hv : fillV x y z t n
    · have HV := Lib.hid hv
      cases hk : bkV x y z t
      · clear hv
        go_wp2_with (first | (go_at_call 15; refine (ifb_no _ _ _ _ _ _ HV.out).mono ?_; rintro e w1 ⟨rfl, o1, o2, o3, rfl⟩))
        go_region_held3 (fun w' => (w'.cell? ⟨w1.heap.size, 0, none⟩ = some (.int .i64 x) ∧ w'.cell? ⟨w1.heap.size, 1, none⟩ = some (.int .i64 y) ∧ w'.cell? ⟨w1.heap.size, 2, none⟩ = some (.int .i64 z) ∧ w'.cell? ⟨w1.heap.size, 3, none⟩ = some (.int .i64 t)) ∧ (w'.cell? ⟨w1.heap.size + 1 + 1 + 1 + 1, 0, none⟩ = some (.int .i64 0) ∧ w'.cell? ⟨w1.heap.size + 1 + 1 + 1 + 1, 1, none⟩ = some (.int .i64 0) ∧ w'.cell? ⟨w1.heap.size + 1 + 1 + 1 + 1, 2, none⟩ = some (.int .i64 0) ∧ w'.cell? ⟨w1.heap.size + 1 + 1 + 1 + 1, 3, none⟩ = some (.int .i64 0))) ((refine ⟨⟨?_, ?_, ?_, ?_⟩, ?_, ?_, ?_, ?_⟩ <;> simp [go_sem]))
          (first | (go_at_call 14; refine (sfb_no _ _ _ _ _ _ HV.out).mono ?_; rintro e w1 ⟨rfl, o1, o2, o3, rfl⟩))
        go_wp2_with (first | (go_at_call 13; refine (ibv_any _ _ _ _ _).mono ?_; rintro e w1 ⟨rfl, rfl⟩) | (go_at_call 22; refine (alive_any _).mono ?_; rintro e w1 ⟨rfl, rfl⟩))
        go_ret
        exact ⟨rfl, bthen HB1.out (by go_grown)⟩
      · have hnn : n < t ∨ (t ≤ n ∧ 1000000 < n) := by
          have h5 : wi n t 1000000 = false := by simpa [fillV, hk] using hv
          have := wi_no.1 h5
          omega
        clear hv
        rcases hnn with hnn | ⟨hnn, hnn2⟩
        · have Hx := hnn
          go_wp2_with (first | (go_at_call 15; refine (ifb_no _ _ _ _ _ _ HV.out).mono ?_; rintro e w1 ⟨rfl, o1, o2, o3, rfl⟩))
          go_region_held3 (fun w' => (w'.cell? ⟨w1.heap.size, 0, none⟩ = some (.int .i64 x) ∧ w'.cell? ⟨w1.heap.size, 1, none⟩ = some (.int .i64 y) ∧ w'.cell? ⟨w1.heap.size, 2, none⟩ = some (.int .i64 z) ∧ w'.cell? ⟨w1.heap.size, 3, none⟩ = some (.int .i64 t)) ∧ (w'.cell? ⟨w1.heap.size + 1 + 1 + 1 + 1, 0, none⟩ = some (.int .i64 0) ∧ w'.cell? ⟨w1.heap.size + 1 + 1 + 1 + 1, 1, none⟩ = some (.int .i64 0) ∧ w'.cell? ⟨w1.heap.size + 1 + 1 + 1 + 1, 2, none⟩ = some (.int .i64 0) ∧ w'.cell? ⟨w1.heap.size + 1 + 1 + 1 + 1, 3, none⟩ = some (.int .i64 0))) ((refine ⟨⟨?_, ?_, ?_, ?_⟩, ?_, ?_, ?_, ?_⟩ <;> simp [go_sem]))
            (first | (go_at_call 14; refine (sfb_no _ _ _ _ _ _ HV.out).mono ?_; rintro e w1 ⟨rfl, o1, o2, o3, rfl⟩))
          go_wp2_with (first | (go_at_call 13; refine (ibv_any _ _ _ _ _).mono ?_; rintro e w1 ⟨rfl, rfl⟩) | (go_at_call 22; refine (alive_any _).mono ?_; rintro e w1 ⟨rfl, rfl⟩))
          go_ret
          exact ⟨rfl, bthen HB1.out (by go_grown)⟩
        · have Hx := hnn
          go_wp2_with (first | (go_at_call 15; refine (ifb_no _ _ _ _ _ _ HV.out).mono ?_; rintro e w1 ⟨rfl, o1, o2, o3, rfl⟩))
          go_region_held3 (fun w' => (w'.cell? ⟨w1.heap.size, 0, none⟩ = some (.int .i64 x) ∧ w'.cell? ⟨w1.heap.size, 1, none⟩ = some (.int .i64 y) ∧ w'.cell? ⟨w1.heap.size, 2, none⟩ = some (.int .i64 z) ∧ w'.cell? ⟨w1.heap.size, 3, none⟩ = some (.int .i64 t)) ∧ (w'.cell? ⟨w1.heap.size + 1 + 1 + 1 + 1, 0, none⟩ = some (.int .i64 0) ∧ w'.cell? ⟨w1.heap.size + 1 + 1 + 1 + 1, 1, none⟩ = some (.int .i64 0) ∧ w'.cell? ⟨w1.heap.size + 1 + 1 + 1 + 1, 2, none⟩ = some (.int .i64 0) ∧ w'.cell? ⟨w1.heap.size + 1 + 1 + 1 + 1, 3, none⟩ = some (.int .i64 0))) ((refine ⟨⟨?_, ?_, ?_, ?_⟩, ?_, ?_, ?_, ?_⟩ <;> simp [go_sem]))
            (first | (go_at_call 14; refine (sfb_no _ _ _ _ _ _ HV.out).mono ?_; rintro e w1 ⟨rfl, o1, o2, o3, rfl⟩))
          go_wp2_with (first | (go_at_call 13; refine (ibv_any _ _ _ _ _).mono ?_; rintro e w1 ⟨rfl, rfl⟩) | (go_at_call 22; refine (alive_any _).mono ?_; rintro e w1 ⟨rfl, rfl⟩))
          go_ret
          exact ⟨rfl, bthen HB1.out (by go_grown)⟩
    · obtain ⟨h1, h2, h3, h4⟩ := fill_facts hv
      obtain ⟨hb1, hb2, hb3, hb4⟩ := bkV_iff.1 h1
      obtain ⟨hn1, hn2⟩ := wi_iff.1 h2
      obtain ⟨g1, g2, g3, g4, g5⟩ := fill_twice (m := (t + n) / 2) hv (by omega) (by omega)
      have HV := Lib.hid hv
      have HV2 := Lib.hid g1
      generalize hx : fillH x y z t n = p at g3 g4 g5
      generalize hu : fillH x y z t ((t + n) / 2) = u at g2 g3
      have HX := Lib.hid hx; have HU := Lib.hid hu; have HV3 := Lib.hid g2; have HP := Lib.hid g3
      clear hv g1 g2 g3 hx hu h3 h4 h2
      go_wp2_with (first | (go_at_call 15; refine (ifb_yes _ _ _ _ _ _ HV.out).mono ?_; rw [HX.out]; rintro e w1 ⟨rfl, o1, o2, o3, rfl⟩))
      go_region_held3 (fun w' => (w'.cell? ⟨w1.heap.size, 0, none⟩ = some (.int .i64 x) ∧ w'.cell? ⟨w1.heap.size, 1, none⟩ = some (.int .i64 y) ∧ w'.cell? ⟨w1.heap.size, 2, none⟩ = some (.int .i64 z) ∧ w'.cell? ⟨w1.heap.size, 3, none⟩ = some (.int .i64 t)) ∧ (w'.cell? ⟨w1.heap.size + 1 + 1 + 1 + 1, 0, none⟩ = some (.int .i64 p) ∧ w'.cell? ⟨w1.heap.size + 1 + 1 + 1 + 1, 1, none⟩ = some (.int .i64 y) ∧ w'.cell? ⟨w1.heap.size + 1 + 1 + 1 + 1, 2, none⟩ = some (.int .i64 z) ∧ w'.cell? ⟨w1.heap.size + 1 + 1 + 1 + 1, 3, none⟩ = some (.int .i64 n))) ((refine ⟨⟨?_, ?_, ?_, ?_⟩, ?_, ?_, ?_, ?_⟩ <;> simp [go_sem]))
        (first | (go_at_call 14; refine (sfb_yes _ _ _ _ _ _ HV.out).mono ?_; rw [HX.out]; rintro e w1 ⟨rfl, o1, o2, o3, rfl⟩))
      go_wp2_with (first | (go_at_call 13; refine (ibv_any _ _ _ _ _).mono ?_; rintro e w1 ⟨rfl, rfl⟩))
      go_region_held3 (fun w' => (w'.cell? ⟨w1.heap.size, 0, none⟩ = some (.int .i64 x) ∧ w'.cell? ⟨w1.heap.size, 1, none⟩ = some (.int .i64 y) ∧ w'.cell? ⟨w1.heap.size, 2, none⟩ = some (.int .i64 z) ∧ w'.cell? ⟨w1.heap.size, 3, none⟩ = some (.int .i64 t)) ∧ (w'.cell? ⟨w1.heap.size + 1 + 1 + 1 + 1, 0, none⟩ = some (.int .i64 p) ∧ w'.cell? ⟨w1.heap.size + 1 + 1 + 1 + 1, 1, none⟩ = some (.int .i64 y) ∧ w'.cell? ⟨w1.heap.size + 1 + 1 + 1 + 1, 2, none⟩ = some (.int .i64 z) ∧ w'.cell? ⟨w1.heap.size + 1 + 1 + 1 + 1, 3, none⟩ = some (.int .i64 n))) ((refine ⟨⟨?_, ?_, ?_, ?_⟩, ?_, ?_, ?_, ?_⟩ <;> simp [go_sem]))
        (first | (go_at_call 13; refine (ibv_any _ _ _ _ _).mono ?_; rintro e w1 ⟨rfl, rfl⟩) | (go_at_call 15; (with_reducible refine (ifb_yes _ _ _ _ _ _ HV2.out).mono ?_); rw [HU.out]; rintro e w1 ⟨rfl, o1, o2, o3, rfl⟩) | (go_at_call 15; (with_reducible refine (ifb_yes _ _ _ _ _ _ HV3.out).mono ?_); rw [HP.out]; rintro e w1 ⟨rfl, o1, o2, o3, rfl⟩))
      go_wp2
      go_ret
      exact ⟨rfl, bthen HB1.out (by go_grown)⟩
end Go.Proofs.Ytkdogkpdgpppkaa
