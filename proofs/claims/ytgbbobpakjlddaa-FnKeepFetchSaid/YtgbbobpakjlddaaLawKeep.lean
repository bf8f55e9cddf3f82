/-
  The walk of the law of KeepFetch.
-/
import Derived.Test.YtgbbobpakjlddaaDrawKeep
import Derived.Test.YtgbbobpakjlddaaKept2
import Derived.Test.YtgbbobpakjlddaaWord
import Derived.Deep.RegionHeld3
namespace Go.Proofs.Ytgbbobpakjlddaa
open Go.ChangeShapes Go.WideShapes Go.ChangeAt Go.RowKit Go.Joins
set_option linter.unusedVariables false

theorem fc_cases {a b now dg : Int} (h : fcV a b dg = true) : fc a b now dg = 0 ∨ fc a b now dg = 304 ∨ fc a b now dg = 200 := by
  unfold fc; rw [if_pos h]; split
  · exact .inl rfl
  · split
    · exact .inr (.inl rfl)
    · exact .inr (.inr rfl)

set_option maxHeartbeats 2000000 in
theorem walkKeepFetch (a : Option Addr) (len cap : Nat) (zs : List Int) (w : World) (h : IsCode w a len cap zs) :
    Calls Try.prog 9 #[.slice a len cap] w fun e w' => e = .returned (.bool true) ∧ Below w.heap.size w w' := by
  obtain ⟨hl, hm⟩ := code_len h
  unfold maxLen at hm
  have H := Lib.hid h; clear h
  by_cases hb : (1048576 : Int) < (len : Int)
  · go_enter Try.func9, Try.ntmps9
    go_wp2
    go_ret
    exact ⟨rfl, by go_grown⟩
  · go_enter Try.func9, Try.ntmps9
    go_wp2_with fail
    refine (dkf_any _ _ _ _ _ _ H.out (Below.refl _ _)).mono ?_
    rintro e w1 ⟨x, y, n, m, l, rfl, hs, hn, hmm, hll, hb1⟩
    have HB1 := Lib.hid hb1; clear hb1 hs
    cases hv : kfV x y n m l
    · have HA := Lib.hid (kf_no hv).1.symm
      have HBB := Lib.hid (kf_no hv).2.symm
      cases hf : fcV x y m
      · have HX := Lib.hid (fc_no (now := n) hf)
        clear hv hf
        go_wp2_with (first | (go_at_call 17; refine (ikf_any _ _ _ _ _ _).mono ?_; rw [HA.out, HBB.out]; rintro e w1 ⟨rfl, o1, o2, o3, o4, rfl⟩))
        go_region_held3 (fun w' => (w'.cell? ⟨w1.heap.size, 0, none⟩ = some (.int .i64 x) ∧ w'.cell? ⟨w1.heap.size, 1, none⟩ = some (.int .i64 y)) ∧ (w'.cell? ⟨w1.heap.size + 1 + 1 + 1 + 1 + 1, 0, none⟩ = some (.int .i64 (-1)) ∧ w'.cell? ⟨w1.heap.size + 1 + 1 + 1 + 1 + 1, 1, none⟩ = some (.int .i64 0))) ((refine ⟨⟨?_, ?_⟩, ?_, ?_⟩ <;> simp [go_sem]))
          (first | (go_at_call 16; refine (skf_any _ _ _ _ _ _).mono ?_; rw [HA.out, HBB.out]; rintro e w1 ⟨rfl, o1, o2, o3, o4, rfl⟩))
        go_wp2_with (first | (go_at_call 15; refine (ifc_any _ _ _ _ _).mono ?_; rw [HX.out]; rintro e w1 ⟨rfl, o1, o2, rfl⟩) | (go_at_call 26; refine (alive_any _).mono ?_; rintro e w1 ⟨rfl, rfl⟩))
        go_ret
        exact ⟨rfl, bthen HB1.out (by go_grown)⟩
      · have hp := fc_pos (now := n) hf
        generalize hx : fc x y n m = u at hp
        have HX := Lib.hid hx
        have hr : n < 0 ∨ (0 ≤ n ∧ 1000000 < n) ∨ (0 ≤ n ∧ n ≤ 1000000 ∧ l < 0) ∨ (0 ≤ n ∧ n ≤ 1000000 ∧ 0 ≤ l ∧ 1000000 < l) := by
          simp only [kfV, hf, Bool.true_and, Bool.and_eq_false_iff] at hv
          rcases hv with hv | hv
          · have := wi_no.1 hv; omega
          · have := wi_no.1 hv; omega
        clear hv hf hx hn hmm hll
        rcases hr with hr | ⟨hr1, hr2⟩ | ⟨hr1, hr2, hr3⟩ | ⟨hr1, hr2, hr3, hr4⟩
        · have Hd := hr
          go_wp2_with (first | (go_at_call 17; refine (ikf_any _ _ _ _ _ _).mono ?_; rw [HA.out, HBB.out]; rintro e w1 ⟨rfl, o1, o2, o3, o4, rfl⟩))
          go_region_held3 (fun w' => (w'.cell? ⟨w1.heap.size, 0, none⟩ = some (.int .i64 x) ∧ w'.cell? ⟨w1.heap.size, 1, none⟩ = some (.int .i64 y)) ∧ (w'.cell? ⟨w1.heap.size + 1 + 1 + 1 + 1 + 1, 0, none⟩ = some (.int .i64 (-1)) ∧ w'.cell? ⟨w1.heap.size + 1 + 1 + 1 + 1 + 1, 1, none⟩ = some (.int .i64 0))) ((refine ⟨⟨?_, ?_⟩, ?_, ?_⟩ <;> simp [go_sem]))
            (first | (go_at_call 16; refine (skf_any _ _ _ _ _ _).mono ?_; rw [HA.out, HBB.out]; rintro e w1 ⟨rfl, o1, o2, o3, o4, rfl⟩))
          go_wp2_with (first | (go_at_call 15; refine (ifc_any _ _ _ _ _).mono ?_; rw [HX.out]; rintro e w1 ⟨rfl, o1, o2, rfl⟩) | (go_at_call 26; refine (alive_any _).mono ?_; rintro e w1 ⟨rfl, rfl⟩))
          go_ret
          exact ⟨rfl, bthen HB1.out (by go_grown)⟩
        · have Hd := hr1
          go_wp2_with (first | (go_at_call 17; refine (ikf_any _ _ _ _ _ _).mono ?_; rw [HA.out, HBB.out]; rintro e w1 ⟨rfl, o1, o2, o3, o4, rfl⟩))
          go_region_held3 (fun w' => (w'.cell? ⟨w1.heap.size, 0, none⟩ = some (.int .i64 x) ∧ w'.cell? ⟨w1.heap.size, 1, none⟩ = some (.int .i64 y)) ∧ (w'.cell? ⟨w1.heap.size + 1 + 1 + 1 + 1 + 1, 0, none⟩ = some (.int .i64 (-1)) ∧ w'.cell? ⟨w1.heap.size + 1 + 1 + 1 + 1 + 1, 1, none⟩ = some (.int .i64 0))) ((refine ⟨⟨?_, ?_⟩, ?_, ?_⟩ <;> simp [go_sem]))
            (first | (go_at_call 16; refine (skf_any _ _ _ _ _ _).mono ?_; rw [HA.out, HBB.out]; rintro e w1 ⟨rfl, o1, o2, o3, o4, rfl⟩))
          go_wp2_with (first | (go_at_call 15; refine (ifc_any _ _ _ _ _).mono ?_; rw [HX.out]; rintro e w1 ⟨rfl, o1, o2, rfl⟩) | (go_at_call 26; refine (alive_any _).mono ?_; rintro e w1 ⟨rfl, rfl⟩))
          go_ret
          exact ⟨rfl, bthen HB1.out (by go_grown)⟩
        · have Hd := hr1
          go_wp2_with (first | (go_at_call 17; refine (ikf_any _ _ _ _ _ _).mono ?_; rw [HA.out, HBB.out]; rintro e w1 ⟨rfl, o1, o2, o3, o4, rfl⟩))
          go_region_held3 (fun w' => (w'.cell? ⟨w1.heap.size, 0, none⟩ = some (.int .i64 x) ∧ w'.cell? ⟨w1.heap.size, 1, none⟩ = some (.int .i64 y)) ∧ (w'.cell? ⟨w1.heap.size + 1 + 1 + 1 + 1 + 1, 0, none⟩ = some (.int .i64 (-1)) ∧ w'.cell? ⟨w1.heap.size + 1 + 1 + 1 + 1 + 1, 1, none⟩ = some (.int .i64 0))) ((refine ⟨⟨?_, ?_⟩, ?_, ?_⟩ <;> simp [go_sem]))
            (first | (go_at_call 16; refine (skf_any _ _ _ _ _ _).mono ?_; rw [HA.out, HBB.out]; rintro e w1 ⟨rfl, o1, o2, o3, o4, rfl⟩))
          go_wp2_with (first | (go_at_call 15; refine (ifc_any _ _ _ _ _).mono ?_; rw [HX.out]; rintro e w1 ⟨rfl, o1, o2, rfl⟩) | (go_at_call 26; refine (alive_any _).mono ?_; rintro e w1 ⟨rfl, rfl⟩))
          go_ret
          exact ⟨rfl, bthen HB1.out (by go_grown)⟩
        · have Hd := hr1
          go_wp2_with (first | (go_at_call 17; refine (ikf_any _ _ _ _ _ _).mono ?_; rw [HA.out, HBB.out]; rintro e w1 ⟨rfl, o1, o2, o3, o4, rfl⟩))
          go_region_held3 (fun w' => (w'.cell? ⟨w1.heap.size, 0, none⟩ = some (.int .i64 x) ∧ w'.cell? ⟨w1.heap.size, 1, none⟩ = some (.int .i64 y)) ∧ (w'.cell? ⟨w1.heap.size + 1 + 1 + 1 + 1 + 1, 0, none⟩ = some (.int .i64 (-1)) ∧ w'.cell? ⟨w1.heap.size + 1 + 1 + 1 + 1 + 1, 1, none⟩ = some (.int .i64 0))) ((refine ⟨⟨?_, ?_⟩, ?_, ?_⟩ <;> simp [go_sem]))
            (first | (go_at_call 16; refine (skf_any _ _ _ _ _ _).mono ?_; rw [HA.out, HBB.out]; rintro e w1 ⟨rfl, o1, o2, o3, o4, rfl⟩))
          go_wp2_with (first | (go_at_call 15; refine (ifc_any _ _ _ _ _).mono ?_; rw [HX.out]; rintro e w1 ⟨rfl, o1, o2, rfl⟩) | (go_at_call 26; refine (alive_any _).mono ?_; rintro e w1 ⟨rfl, rfl⟩))
          go_ret
          exact ⟨rfl, bthen HB1.out (by go_grown)⟩
    · have hv' := hv
      simp only [kfV, Bool.and_eq_true] at hv'
      obtain ⟨⟨hf, hw1⟩, hw2⟩ := hv'
      obtain ⟨n1, n2⟩ := wi_iff.1 hw1
      obtain ⟨l1, l2⟩ := wi_iff.1 hw2
      have hm2 : wi m 0 999982 = true := by
        simp only [fcV, Bool.and_eq_true] at hf
        exact hf.2
      obtain ⟨m1, m2⟩ := wi_iff.1 hm2
      clear hn hmm hll hw1 hw2 hm2
      by_cases h0 : fc x y n m = 0
      · have HA := Lib.hid (kf_0 hv h0).1.symm
        have HBB := Lib.hid (kf_0 hv h0).2.symm
        have HX := Lib.hid h0
        clear h0 hv hf
        go_wp2_with (first | (go_at_call 17; refine (ikf_any _ _ _ _ _ _).mono ?_; rw [HA.out, HBB.out]; rintro e w1 ⟨rfl, o1, o2, o3, o4, rfl⟩))
        go_region_held3 (fun w' => (w'.cell? ⟨w1.heap.size, 0, none⟩ = some (.int .i64 x) ∧ w'.cell? ⟨w1.heap.size, 1, none⟩ = some (.int .i64 y)) ∧ (w'.cell? ⟨w1.heap.size + 1 + 1 + 1 + 1 + 1, 0, none⟩ = some (.int .i64 x) ∧ w'.cell? ⟨w1.heap.size + 1 + 1 + 1 + 1 + 1, 1, none⟩ = some (.int .i64 y))) ((refine ⟨⟨?_, ?_⟩, ?_, ?_⟩ <;> simp [go_sem]))
          (first | (go_at_call 16; refine (skf_any _ _ _ _ _ _).mono ?_; rw [HA.out, HBB.out]; rintro e w1 ⟨rfl, o1, o2, o3, o4, rfl⟩))
        go_wp2_with (first | (go_at_call 15; refine (ifc_any _ _ _ _ _).mono ?_; rw [HX.out]; rintro e w1 ⟨rfl, o1, o2, rfl⟩))
        go_ret
        exact ⟨rfl, bthen HB1.out (by go_grown)⟩
      · have HA := Lib.hid (kf_1 hv h0).1.symm
        have HBB := Lib.hid (kf_1 hv h0).2.symm
        have hkv : kpV m (n + l) = true := kpV_iff.2 ⟨⟨by omega, m2⟩, ⟨by omega, by omega⟩, .inl m1⟩
        have HKV := Lib.hid hkv
        have hf2 : fcV m (n + l) m = true := by
          simp only [fcV, Bool.and_eq_true]
          exact ⟨hkv, wi_iff.2 ⟨m1, m2⟩⟩
        by_cases hl0 : l = 0
        · have hl1 : (l == 0) = true := by simp [hl0]
          have HL := Lib.hid hl0
          rcases fc_cases (now := n) hf with hc | hc | hc
          · exact absurd hc h0
          · have HX := Lib.hid hc
            clear h0 hv hf hkv hf2 hc hl0
            go_wp2_with (first | (go_at_call 17; refine (ikf_any _ _ _ _ _ _).mono ?_; rw [HA.out, HBB.out]; rintro e w1 ⟨rfl, o1, o2, o3, o4, rfl⟩))
            go_region_held3 (fun w' => (w'.cell? ⟨w1.heap.size, 0, none⟩ = some (.int .i64 x) ∧ w'.cell? ⟨w1.heap.size, 1, none⟩ = some (.int .i64 y)) ∧ (w'.cell? ⟨w1.heap.size + 1 + 1 + 1 + 1 + 1, 0, none⟩ = some (.int .i64 m) ∧ w'.cell? ⟨w1.heap.size + 1 + 1 + 1 + 1 + 1, 1, none⟩ = some (.int .i64 (n + l)))) ((refine ⟨⟨?_, ?_⟩, ?_, ?_⟩ <;> simp [go_sem]))
              (first | (go_at_call 16; refine (skf_any _ _ _ _ _ _).mono ?_; rw [HA.out, HBB.out]; rintro e w1 ⟨rfl, o1, o2, o3, o4, rfl⟩))
            go_wp2_with (first | (go_at_call 15; refine (ifc_any _ _ _ _ _).mono ?_; rw [HX.out]; rintro e w1 ⟨rfl, o1, o2, rfl⟩) | (go_at_call 13; refine (ikv_any _ _ _).mono ?_; rw [HKV.out]; rintro e w1 ⟨rfl, rfl⟩))
            go_ret
            exact ⟨rfl, bthen HB1.out (by go_grown)⟩
          · have HX := Lib.hid hc
            clear h0 hv hf hkv hf2 hc hl0
            go_wp2_with (first | (go_at_call 17; refine (ikf_any _ _ _ _ _ _).mono ?_; rw [HA.out, HBB.out]; rintro e w1 ⟨rfl, o1, o2, o3, o4, rfl⟩))
            go_region_held3 (fun w' => (w'.cell? ⟨w1.heap.size, 0, none⟩ = some (.int .i64 x) ∧ w'.cell? ⟨w1.heap.size, 1, none⟩ = some (.int .i64 y)) ∧ (w'.cell? ⟨w1.heap.size + 1 + 1 + 1 + 1 + 1, 0, none⟩ = some (.int .i64 m) ∧ w'.cell? ⟨w1.heap.size + 1 + 1 + 1 + 1 + 1, 1, none⟩ = some (.int .i64 (n + l)))) ((refine ⟨⟨?_, ?_⟩, ?_, ?_⟩ <;> simp [go_sem]))
              (first | (go_at_call 16; refine (skf_any _ _ _ _ _ _).mono ?_; rw [HA.out, HBB.out]; rintro e w1 ⟨rfl, o1, o2, o3, o4, rfl⟩))
            go_wp2_with (first | (go_at_call 15; refine (ifc_any _ _ _ _ _).mono ?_; rw [HX.out]; rintro e w1 ⟨rfl, o1, o2, rfl⟩) | (go_at_call 13; refine (ikv_any _ _ _).mono ?_; rw [HKV.out]; rintro e w1 ⟨rfl, rfl⟩))
            go_ret
            exact ⟨rfl, bthen HB1.out (by go_grown)⟩
        · have hl1 : (l == 0) = false := by simp [hl0]
          have HL := Lib.hid (fc_0 (now := n) hf2 m1 (by omega))
          rcases fc_cases (now := n) hf with hc | hc | hc
          · exact absurd hc h0
          · have HX := Lib.hid hc
            clear h0 hv hf hkv hf2 hc hl0
            go_wp2_with (first | (go_at_call 17; refine (ikf_any _ _ _ _ _ _).mono ?_; rw [HA.out, HBB.out]; rintro e w1 ⟨rfl, o1, o2, o3, o4, rfl⟩))
            go_region_held3 (fun w' => (w'.cell? ⟨w1.heap.size, 0, none⟩ = some (.int .i64 x) ∧ w'.cell? ⟨w1.heap.size, 1, none⟩ = some (.int .i64 y)) ∧ (w'.cell? ⟨w1.heap.size + 1 + 1 + 1 + 1 + 1, 0, none⟩ = some (.int .i64 m) ∧ w'.cell? ⟨w1.heap.size + 1 + 1 + 1 + 1 + 1, 1, none⟩ = some (.int .i64 (n + l)))) ((refine ⟨⟨?_, ?_⟩, ?_, ?_⟩ <;> simp [go_sem]))
              (first | (go_at_call 16; refine (skf_any _ _ _ _ _ _).mono ?_; rw [HA.out, HBB.out]; rintro e w1 ⟨rfl, o1, o2, o3, o4, rfl⟩))
            go_wp2_with (first | (go_at_call 15; refine (ifc_any _ _ _ _ _).mono ?_; (first | rw [HX.out] | rw [HL.out]); rintro e w1 ⟨rfl, o1, o2, rfl⟩) | (go_at_call 13; refine (ikv_any _ _ _).mono ?_; rw [HKV.out]; rintro e w1 ⟨rfl, rfl⟩))
            go_ret
            exact ⟨rfl, bthen HB1.out (by go_grown)⟩
          · have HX := Lib.hid hc
            clear h0 hv hf hkv hf2 hc hl0
            go_wp2_with (first | (go_at_call 17; refine (ikf_any _ _ _ _ _ _).mono ?_; rw [HA.out, HBB.out]; rintro e w1 ⟨rfl, o1, o2, o3, o4, rfl⟩))
            go_region_held3 (fun w' => (w'.cell? ⟨w1.heap.size, 0, none⟩ = some (.int .i64 x) ∧ w'.cell? ⟨w1.heap.size, 1, none⟩ = some (.int .i64 y)) ∧ (w'.cell? ⟨w1.heap.size + 1 + 1 + 1 + 1 + 1, 0, none⟩ = some (.int .i64 m) ∧ w'.cell? ⟨w1.heap.size + 1 + 1 + 1 + 1 + 1, 1, none⟩ = some (.int .i64 (n + l)))) ((refine ⟨⟨?_, ?_⟩, ?_, ?_⟩ <;> simp [go_sem]))
              (first | (go_at_call 16; refine (skf_any _ _ _ _ _ _).mono ?_; rw [HA.out, HBB.out]; rintro e w1 ⟨rfl, o1, o2, o3, o4, rfl⟩))
            go_wp2_with (first | (go_at_call 15; refine (ifc_any _ _ _ _ _).mono ?_; (first | rw [HX.out] | rw [HL.out]); rintro e w1 ⟨rfl, o1, o2, rfl⟩) | (go_at_call 13; refine (ikv_any _ _ _).mono ?_; rw [HKV.out]; rintro e w1 ⟨rfl, rfl⟩))
            go_ret
            exact ⟨rfl, bthen HB1.out (by go_grown)⟩
end Go.Proofs.Ytgbbobpakjlddaa
