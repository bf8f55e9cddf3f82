/-
  The drawing for LookAt.
-/
import Derived.Test.YteankmmmkdcaiaaLawLooks
namespace Go.Proofs.Yteankmmmkdcaiaa
open Go.ChangeShapes Go.WideShapes Go.ChangeAt Go.RowKit Go.Joins
set_option linter.unusedVariables false
variable {L : Nat}

set_option maxRecDepth 100000 in
set_option maxHeartbeats 8000000 in
theorem dla_any (a : Option Addr) (len cap : Nat) (zs : List Int) (w0 w : World) (h : IsCode w0 a len cap zs) (hB : Below w0.heap.size w0 w) :
    Calls Try.prog 29 #[.slice a len cap] w fun e w' => ∃ (v : Value) (n : Nat) (l : List Wa) (d : ByteArray) (now : Int) (ch : Bool), e = .returned (.tuple #[v, .string d, .int .i64 now, .bool ch]) ∧ n ≤ 6 ∧ d.size ≤ 9 ∧ (-1 ≤ now ∧ now ≤ 1000001) ∧ w'.ownsRow w.heap.size 33 3 v n (was l) ∧ (∀ z ∈ l, z.a.size ≤ 9) ∧ Below w.heap.size w w' := by
  have H := Lib.hid h; have HB0 := Lib.hid hB
  clear h hB
  go_enter Try.func29, Try.ntmps29
  go_wp2_with fail
  refine (open_any _ _ _ _ _ _ H.out HB0.out).mono ?_
  rintro e w1 ⟨R, rfl, hb1, hR1, hR2, hr1⟩
  have HB1 := Lib.hid hb1; have HR1 := Lib.hid hr1
  clear hb1 hr1
  go_wp2_with fail
  refine (l20wa_any _ _ _ _ HR1.out (by omega) (by omega)).mono ?_
  rintro e w2 ⟨v, n, l, rfl, hn, ho, hs, hg, hr⟩
  have HO := Lib.hid (own_less ho HB1.out.size); have HS := Lib.hid hs; have HB2 := Lib.hid (below_of_pick HB1.out hR1 hg); have HR2 := Lib.hid hr
  clear ho hs hg hr
  go_wp2_with fail
  refine (l20wd_any _ _ _ _ HR2.out (by omega) (by omega)).mono ?_
  rintro e w2a ⟨d, rfl, hd, hg, hr⟩
  have HO2 := Lib.hid (own_pick HO.out HR2.out (by decide) hg); have HB2a := Lib.hid (below_of_pick HB2.out hR1 hg); have HR2a := Lib.hid hr
  clear hg hr
  obtain ⟨A, c, rfl, hnc, hcm, _⟩ := own_form HO2.out
  have HNC := Lib.hid hnc; have HCM := Lib.hid hcm; have HD := Lib.hid hd
  clear hnc hcm hd
  by_cases hn0 : 0 < n
  · go_wp2_with fail
    refine (pick_any _ _ 100 _ (rdr_more HR2a.out (by omega)) (by omega)).mono ?_
    rintro e w6 ⟨k6, rfl, hk6, hg, hr⟩
    have HO6 := Lib.hid (own_pick HO2.out HR2a.out (by decide) hg); have HB6 := Lib.hid (below_of_pick HB2a.out hR1 hg); have HR6 := Lib.hid hr
    clear hg hr hk6
    by_cases hk0 : 0 < k6
    · go_wp2_with fail
      refine (pick_any _ _ 101 _ HR6.out (by omega)).mono ?_
      rintro e w7 ⟨k7, rfl, hk7, hg, hr⟩
      have HO7 := Lib.hid (own_pick HO6.out HR6.out (by decide) hg); have HB7 := Lib.hid (below_of_pick HB6.out hR1 hg); have HR7 := Lib.hid hr
      clear hg hr
      have hk7' : k7 < n := by omega
      clear hk7
      obtain ⟨b, off, z, rfl, _, hz, hc0, hc1, hc2⟩ := (rd_own HO7.out).wa hk7'
      have HZ := Lib.hid (HS.out z (List.mem_of_getElem? hz))
      clear hz
      go_wp2_with fail
      refine (pick_any _ _ 102 _ HR7.out (by omega)).mono ?_
      rintro e y3 ⟨k3, rfl, hk3, hg3, hr3⟩
      have HO3 := Lib.hid (own_pick HO7.out HR7.out (by decide) hg3); have HB3 := Lib.hid (below_of_pick HB7.out hR1 hg3); have HR3 := Lib.hid hr3
      have hRl := rdr_lt hr3
      clear hg3 hr3
      have hk3' : (k3 : Int) ≤ 255 := by omega
      clear hk3
      have hn1 : ¬ y3.heap.size = R := by omega
      have hn2 : ¬ y3.heap.size + 1 = R := by omega
      go_wp2_with fail
      refine (pick_any _ _ (102 + 1) _ (rdr_alloc (rdr_alloc HR3.out _) _) (by omega)).mono ?_
      rintro e w4 ⟨k4, rfl, hk4, hg, hr⟩
      have HO4 := Lib.hid (own_pick ((HO3.out.alloc _).alloc _) (rdr_alloc (rdr_alloc HR3.out _) _) (by decide) hg)
      have HR4 := Lib.hid hr
      have HB4 := Lib.hid (below_of_pick ((HB3.out.alloc HB3.out.size _).alloc (by have := HB3.out.size; simp; omega) _) hR1 hg)
      obtain ⟨hc, hf, hz⟩ := gfacts hg
      have hx : ∃ v : Nat, v ≤ 3 ∧ w4.cell? ⟨y3.heap.size + 1, k4, none⟩ = some (.int .i64 v) := by
        have : k4 = 0 ∨ k4 = 1 ∨ k4 = 2 ∨ k4 = 3 ∨ k4 = 4 ∨ k4 = 5 ∨ k4 = 6 ∨ k4 = 7 := by omega
        rw [hc _ _ (by simp) hn2]
        rcases this with rfl | rfl | rfl | rfl | rfl | rfl | rfl | rfl
        · exact ⟨0, by omega, by simp [go_sem]⟩
        · exact ⟨0, by omega, by simp [go_sem]⟩
        · exact ⟨0, by omega, by simp [go_sem]⟩
        · exact ⟨0, by omega, by simp [go_sem]⟩
        · exact ⟨0, by omega, by simp [go_sem]⟩
        · exact ⟨1, by omega, by simp [go_sem]⟩
        · exact ⟨2, by omega, by simp [go_sem]⟩
        · exact ⟨3, by omega, by simp [go_sem]⟩
      obtain ⟨v, hv, hx⟩ := hx
      have hy : ∃ m : Int, (-1 ≤ m ∧ m ≤ 1000001) ∧ w4.cell? ⟨y3.heap.size, v, none⟩ = some (.int .i64 m) := by
        have : v = 0 ∨ v = 1 ∨ v = 2 ∨ v = 3 := by omega
        rw [hc _ _ (by simp; omega) hn1]
        rcases this with rfl | rfl | rfl | rfl
        · exact ⟨(k3 : Int), by omega, by simp [go_sem]⟩
        · exact ⟨1000000, by omega, by simp [go_sem]⟩
        · exact ⟨1000001, by omega, by simp [go_sem]⟩
        · exact ⟨-1, by omega, by simp [go_sem]⟩
      obtain ⟨m, hm, hy⟩ := hy
      have HM := Lib.hid hm
      have hk4' : k4 ≤ 7 := by omega
      clear hc hf hz hg hr hk4 hm
      go_wp2_with fail
      refine (pick_any _ _ _ _ HR4.out (by omega)).mono ?_
      rintro e w5 ⟨k5, rfl, hk5, hg, hr⟩
      have HO5 := Lib.hid (own_pick HO4.out HR4.out (by decide) hg)
      have HB5 := Lib.hid (below_of_pick HB4.out hR1 hg)
      clear hg hr hk5
      go_wp2_with fail
      refine bodyPost_ret (v := .tuple #[.slice (some ⟨b, off, none⟩) n c, .string z.a, .int .i64 m, .bool _]) (by simp [results, Try.results29, go_sem]; first | rfl | (and_intros <;> rfl)) rfl ⟨_, n, l, z.a, m, _, rfl, hn, HZ.out, HM.out, HO5.out, HS.out, HB5.out⟩
    · obtain rfl : k6 = 0 := by omega
      go_wp2_with fail
      refine (pick_any _ _ 101 _ HR6.out (by omega)).mono ?_
      rintro e y3 ⟨k3, rfl, hk3, hg3, hr3⟩
      have HO3 := Lib.hid (own_pick HO6.out HR6.out (by decide) hg3); have HB3 := Lib.hid (below_of_pick HB6.out hR1 hg3); have HR3 := Lib.hid hr3
      have hRl := rdr_lt hr3
      clear hg3 hr3
      have hk3' : (k3 : Int) ≤ 255 := by omega
      clear hk3
      have hn1 : ¬ y3.heap.size = R := by omega
      have hn2 : ¬ y3.heap.size + 1 = R := by omega
      go_wp2_with fail
      refine (pick_any _ _ (101 + 1) _ (rdr_alloc (rdr_alloc HR3.out _) _) (by omega)).mono ?_
      rintro e w4 ⟨k4, rfl, hk4, hg, hr⟩
      have HO4 := Lib.hid (own_pick ((HO3.out.alloc _).alloc _) (rdr_alloc (rdr_alloc HR3.out _) _) (by decide) hg)
      have HR4 := Lib.hid hr
      have HB4 := Lib.hid (below_of_pick ((HB3.out.alloc HB3.out.size _).alloc (by have := HB3.out.size; simp; omega) _) hR1 hg)
      obtain ⟨hc, hf, hz⟩ := gfacts hg
      have hx : ∃ v : Nat, v ≤ 3 ∧ w4.cell? ⟨y3.heap.size + 1, k4, none⟩ = some (.int .i64 v) := by
        have : k4 = 0 ∨ k4 = 1 ∨ k4 = 2 ∨ k4 = 3 ∨ k4 = 4 ∨ k4 = 5 ∨ k4 = 6 ∨ k4 = 7 := by omega
        rw [hc _ _ (by simp) hn2]
        rcases this with rfl | rfl | rfl | rfl | rfl | rfl | rfl | rfl
        · exact ⟨0, by omega, by simp [go_sem]⟩
        · exact ⟨0, by omega, by simp [go_sem]⟩
        · exact ⟨0, by omega, by simp [go_sem]⟩
        · exact ⟨0, by omega, by simp [go_sem]⟩
        · exact ⟨0, by omega, by simp [go_sem]⟩
        · exact ⟨1, by omega, by simp [go_sem]⟩
        · exact ⟨2, by omega, by simp [go_sem]⟩
        · exact ⟨3, by omega, by simp [go_sem]⟩
      obtain ⟨v, hv, hx⟩ := hx
      have hy : ∃ m : Int, (-1 ≤ m ∧ m ≤ 1000001) ∧ w4.cell? ⟨y3.heap.size, v, none⟩ = some (.int .i64 m) := by
        have : v = 0 ∨ v = 1 ∨ v = 2 ∨ v = 3 := by omega
        rw [hc _ _ (by simp; omega) hn1]
        rcases this with rfl | rfl | rfl | rfl
        · exact ⟨(k3 : Int), by omega, by simp [go_sem]⟩
        · exact ⟨1000000, by omega, by simp [go_sem]⟩
        · exact ⟨1000001, by omega, by simp [go_sem]⟩
        · exact ⟨-1, by omega, by simp [go_sem]⟩
      obtain ⟨m, hm, hy⟩ := hy
      have HM := Lib.hid hm
      have hk4' : k4 ≤ 7 := by omega
      clear hc hf hz hg hr hk4 hm
      go_wp2_with fail
      refine (pick_any _ _ _ _ HR4.out (by omega)).mono ?_
      rintro e w5 ⟨k5, rfl, hk5, hg, hr⟩
      have HO5 := Lib.hid (own_pick HO4.out HR4.out (by decide) hg)
      have HB5 := Lib.hid (below_of_pick HB4.out hR1 hg)
      clear hg hr hk5
      go_wp2_with fail
      refine bodyPost_ret (v := .tuple #[.slice A n c, .string d, .int .i64 m, .bool _]) (by simp [results, Try.results29, go_sem]; first | rfl | (and_intros <;> rfl)) rfl ⟨_, n, l, d, m, _, rfl, hn, HD.out, HM.out, HO5.out, HS.out, HB5.out⟩
  · obtain rfl : n = 0 := by omega
    have HR9 : Hid (Rdr w2a w0.heap.size R 100) := Lib.hid (rdr_more HR2a.out (by omega))
    go_wp2_with fail
    refine (pick_any _ _ 100 _ HR9.out (by omega)).mono ?_
    rintro e y3 ⟨k3, rfl, hk3, hg3, hr3⟩
    have HO3 := Lib.hid (own_pick HO2.out HR9.out (by decide) hg3); have HB3 := Lib.hid (below_of_pick HB2a.out hR1 hg3); have HR3 := Lib.hid hr3
    have hRl := rdr_lt hr3
    clear hg3 hr3
    have hk3' : (k3 : Int) ≤ 255 := by omega
    clear hk3
    have hn1 : ¬ y3.heap.size = R := by omega
    have hn2 : ¬ y3.heap.size + 1 = R := by omega
    go_wp2_with fail
    refine (pick_any _ _ (100 + 1) _ (rdr_alloc (rdr_alloc HR3.out _) _) (by omega)).mono ?_
    rintro e w4 ⟨k4, rfl, hk4, hg, hr⟩
    have HO4 := Lib.hid (own_pick ((HO3.out.alloc _).alloc _) (rdr_alloc (rdr_alloc HR3.out _) _) (by decide) hg)
    have HR4 := Lib.hid hr
    have HB4 := Lib.hid (below_of_pick ((HB3.out.alloc HB3.out.size _).alloc (by have := HB3.out.size; simp; omega) _) hR1 hg)
    obtain ⟨hc, hf, hz⟩ := gfacts hg
    have hx : ∃ v : Nat, v ≤ 3 ∧ w4.cell? ⟨y3.heap.size + 1, k4, none⟩ = some (.int .i64 v) := by
      have : k4 = 0 ∨ k4 = 1 ∨ k4 = 2 ∨ k4 = 3 ∨ k4 = 4 ∨ k4 = 5 ∨ k4 = 6 ∨ k4 = 7 := by omega
      rw [hc _ _ (by simp) hn2]
      rcases this with rfl | rfl | rfl | rfl | rfl | rfl | rfl | rfl
      · exact ⟨0, by omega, by simp [go_sem]⟩
      · exact ⟨0, by omega, by simp [go_sem]⟩
      · exact ⟨0, by omega, by simp [go_sem]⟩
      · exact ⟨0, by omega, by simp [go_sem]⟩
      · exact ⟨0, by omega, by simp [go_sem]⟩
      · exact ⟨1, by omega, by simp [go_sem]⟩
      · exact ⟨2, by omega, by simp [go_sem]⟩
      · exact ⟨3, by omega, by simp [go_sem]⟩
    obtain ⟨v, hv, hx⟩ := hx
    have hy : ∃ m : Int, (-1 ≤ m ∧ m ≤ 1000001) ∧ w4.cell? ⟨y3.heap.size, v, none⟩ = some (.int .i64 m) := by
      have : v = 0 ∨ v = 1 ∨ v = 2 ∨ v = 3 := by omega
      rw [hc _ _ (by simp; omega) hn1]
      rcases this with rfl | rfl | rfl | rfl
      · exact ⟨(k3 : Int), by omega, by simp [go_sem]⟩
      · exact ⟨1000000, by omega, by simp [go_sem]⟩
      · exact ⟨1000001, by omega, by simp [go_sem]⟩
      · exact ⟨-1, by omega, by simp [go_sem]⟩
    obtain ⟨m, hm, hy⟩ := hy
    have HM := Lib.hid hm
    have hk4' : k4 ≤ 7 := by omega
    clear hc hf hz hg hr hk4 hm
    go_wp2_with fail
    refine (pick_any _ _ _ _ HR4.out (by omega)).mono ?_
    rintro e w5 ⟨k5, rfl, hk5, hg, hr⟩
    have HO5 := Lib.hid (own_pick HO4.out HR4.out (by decide) hg)
    have HB5 := Lib.hid (below_of_pick HB4.out hR1 hg)
    clear hg hr hk5
    go_wp2_with fail
    refine bodyPost_ret (v := .tuple #[.slice A 0 c, .string d, .int .i64 m, .bool _]) (by simp [results, Try.results29, go_sem]; first | rfl | (and_intros <;> rfl)) rfl ⟨_, 0, l, d, m, _, rfl, hn, HD.out, HM.out, HO5.out, HS.out, HB5.out⟩
end Go.Proofs.Yteankmmmkdcaiaa
