/-
  The drawing of TryFirst's input; sameDeliveries.
-/
import Derived.Test.YtadgmncngkkdnaaDrawDeliveries
namespace Go.Proofs.Ytadgmncngkkdnaa
open Go.ChangeShapes Go.WideShapes Go.ChangeAt Go.RowKit Go.Joins
set_option linter.unusedVariables false
variable {L : Nat}

theorem sd_same (A B : Option Addr) (n c d : Nat) (l : List De) (w : World) (h1 : Rd w 4 A n (des l)) (h2 : Rd w 4 B n (des l)) (hn : n ≤ 1048576) :
    Calls Try.prog 11 #[.slice A n c, .slice B n d] w fun e w' => e = .returned (.bool true) ∧ Below w.heap.size w w' := by
  have H1 := Lib.hid h1; have H2 := Lib.hid h2; clear h1 h2
  go_enter Try.func11, Try.ntmps11
  go_wp2
  go_loopw [5] (fun i wr => ∃ k : Nat, k ≤ n ∧ i = .int .i64 k ∧ ∃ q, w.drewN q = wr) (fun i _ => n - (intOf i).toNat)
  case atStart => exact ⟨0, Nat.zero_le _, rfl, 0, rfl⟩
  case round =>
    obtain ⟨k, hk, rfl, q, rfl⟩ := hrel
    by_cases hlt : k < n
    · obtain ⟨b, off, z, rfl, hbl, hz, hc0, hc1, hc2, hc3⟩ := H1.out.de hlt
      obtain ⟨b2, off2, z2, rfl, hbl2, hz2, hd0, hd1, hd2, hd3⟩ := H2.out.de hlt
      obtain rfl : z = z2 := by rw [hz] at hz2; injection hz2
      clear hz hz2
      go_wp2
      go_quiet (fail)
      go_wp2
      go_roundw
      case rel => exact ⟨k + 1, by omega, by go_num, _, rfl⟩
      case measure => simp [intOf]; omega
    · obtain rfl : k = n := by omega
      go_wp2
      go_ret
      exact ⟨rfl, belq rfl⟩
theorem sd_diff (A B : Option Addr) (n m c d : Nat) (w : World) (hn : n ≤ 1048576) (hm : m ≤ 1048576) (hnm : n ≠ m) :
    Calls Try.prog 11 #[.slice A n c, .slice B m d] w fun e w' => e = .returned (.bool false) ∧ Below w.heap.size w w' := by
  go_enter Try.func11, Try.ntmps11
  go_wp2
  go_ret
  exact ⟨rfl, Below.refl _ _⟩

set_option maxHeartbeats 4000000 in
theorem dtry_any (a : Option Addr) (len cap : Nat) (zs : List Int) (w0 w : World) (h : IsCode w0 a len cap zs) (hB : Below w0.heap.size w0 w) :
    Calls Try.prog 21 #[.slice a len cap] w fun e w' => ∃ (v : Value) (n : Nat) (l : List De) (now : Int) (arr : Bool), e = .returned (.tuple #[v, .int .i64 now, .bool arr]) ∧ n ≤ 9 ∧ w'.ownsRow w0.heap.size 25 4 v n (des l) ∧ (∀ y ∈ l, y.b.size ≤ 9) ∧ Below w0.heap.size w0 w' := by
  have HC := Lib.hid h
  have HB := Lib.hid hB
  clear h hB
  go_enter Try.func21, Try.ntmps21
  go_wp2_with fail
  refine (open_any a len cap zs w0 _ HC.out HB.out).mono ?_
  rintro e w1 ⟨R, rfl, hb1, hR1, hR2, hr1⟩
  have HB1 := Lib.hid (belB HB.out HB.out.size hb1)
  have HR1 := Lib.hid hr1
  have hR0 : w0.heap.size ≤ R := by have := HB.out.size; omega
  clear hb1 hr1
  go_wp2_with fail
  refine (l20des_any _ R 0 _ HR1.out (by omega) (by omega)).mono ?_
  rintro e w2 ⟨v, n, l, rfl, hn, ho2, hs2, hg2, hr2⟩
  have HO2 := Lib.hid (own_less ho2 HB1.out.size)
  have HB2 := Lib.hid (below_pick HB1.out hg2 hR0 HB1.out.size)
  have HR2 := Lib.hid hr2; have HS2 := Lib.hid hs2
  clear ho2 hs2 hg2 hr2
  obtain ⟨A, c, rfl, _, _, _⟩ := own_form HO2.out
  go_wp2_with fail
  refine (pick_any _ R 500 _ (rdr_more HR2.out (by omega)) (by omega)).mono ?_
  rintro e w3 ⟨k1, rfl, hk1, hg3, hr3⟩
  have HO3 := Lib.hid (own_pick HO2.out HR2.out (by decide) hg3)
  have HB3 := Lib.hid (below_pick HB2.out hg3 hR0 HB2.out.size)
  have HR3 := Lib.hid hr3
  clear hg3 hr3
  go_wp2_with fail
  have ha := Bk.new w3 3 #[.int .i64 k1, .int .i64 1000000, .int .i64 1000001, .int .i64 (-1)]
  have ha2 := ha.alloc (.cells #[.int .i64 0, .int .i64 0, .int .i64 0, .int .i64 0, .int .i64 0, .int .i64 1, .int .i64 2, .int .i64 3] 3)
  have hb := Bk.new (w3.alloc (.cells #[.int .i64 k1, .int .i64 1000000, .int .i64 1000001, .int .i64 (-1)] 3)) 3 #[.int .i64 0, .int .i64 0, .int .i64 0, .int .i64 0, .int .i64 0, .int .i64 1, .int .i64 2, .int .i64 3]
  rw [show (w3.alloc (.cells #[.int .i64 k1, .int .i64 1000000, .int .i64 1000001, .int .i64 (-1)] 3)).heap.size = w3.heap.size + 1 by simp] at hb
  refine (pick_any _ R 501 _ (rdr_alloc (rdr_alloc HR3.out _) _) (by omega)).mono ?_
  rintro e w4 ⟨k2, rfl, hk2, hg4, hr4⟩
  have hRl := rdr_lt HR3.out
  have hA := ha2.grown hg4 (by intro e; injection e with e; omega)
  have hBk := hb.grown hg4 (by intro e; injection e with e; omega)
  have HO4 := Lib.hid (own_pick ((HO3.out.alloc _).alloc _) (rdr_alloc (rdr_alloc HR3.out _) _) (by decide) hg4)
  have HB4 := Lib.hid (below_pick ((HB3.out.alloc HB3.out.size _).alloc (by have := HB3.out.size; simp; omega) _) hg4 hR0 (by have := HB3.out.size; simp; omega))
  have HR4 := Lib.hid hr4
  have hl1 := hA.lt
  have hl2 := hBk.lt
  have a0 := hA.cell 0 (v := .int .i64 k1) rfl
  have a1 := hA.cell 1 (v := .int .i64 1000000) rfl
  have a2 := hA.cell 2 (v := .int .i64 1000001) rfl
  have a3 := hA.cell 3 (v := .int .i64 (-1)) rfl
  have hk : k2 = 0 ∨ k2 = 1 ∨ k2 = 2 ∨ k2 = 3 ∨ k2 = 4 ∨ k2 = 5 ∨ k2 = 6 ∨ k2 = 7 := by omega
  clear ha ha2 hb hg4 hr4 hA hk2
  rcases hk with rfl | rfl | rfl | rfl | rfl | rfl | rfl | rfl
  · have c0 := hBk.cell 0 (v := .int .i64 0) rfl
    clear hBk
    go_wp2_with fail
    refine (pick_any _ R 502 _ HR4.out (by omega)).mono ?_
    rintro e w5 ⟨k3, rfl, hk3, hg5, hr5⟩
    have HO5 := Lib.hid (own_pick HO4.out HR4.out (by decide) hg5)
    have HB5 := Lib.hid (below_pick HB4.out hg5 hR0 HB4.out.size)
    clear hg5 hr5 a0 a1 a2 a3 c0 hl1 hl2
    go_wp2_with fail
    go_returns
    exact ⟨_, n, l, _, _, rfl, hn, HO5.out, HS2.out, HB5.out⟩
  · have c0 := hBk.cell 1 (v := .int .i64 0) rfl
    clear hBk
    go_wp2_with fail
    refine (pick_any _ R 502 _ HR4.out (by omega)).mono ?_
    rintro e w5 ⟨k3, rfl, hk3, hg5, hr5⟩
    have HO5 := Lib.hid (own_pick HO4.out HR4.out (by decide) hg5)
    have HB5 := Lib.hid (below_pick HB4.out hg5 hR0 HB4.out.size)
    clear hg5 hr5 a0 a1 a2 a3 c0 hl1 hl2
    go_wp2_with fail
    go_returns
    exact ⟨_, n, l, _, _, rfl, hn, HO5.out, HS2.out, HB5.out⟩
  · have c0 := hBk.cell 2 (v := .int .i64 0) rfl
    clear hBk
    go_wp2_with fail
    refine (pick_any _ R 502 _ HR4.out (by omega)).mono ?_
    rintro e w5 ⟨k3, rfl, hk3, hg5, hr5⟩
    have HO5 := Lib.hid (own_pick HO4.out HR4.out (by decide) hg5)
    have HB5 := Lib.hid (below_pick HB4.out hg5 hR0 HB4.out.size)
    clear hg5 hr5 a0 a1 a2 a3 c0 hl1 hl2
    go_wp2_with fail
    go_returns
    exact ⟨_, n, l, _, _, rfl, hn, HO5.out, HS2.out, HB5.out⟩
  · have c0 := hBk.cell 3 (v := .int .i64 0) rfl
    clear hBk
    go_wp2_with fail
    refine (pick_any _ R 502 _ HR4.out (by omega)).mono ?_
    rintro e w5 ⟨k3, rfl, hk3, hg5, hr5⟩
    have HO5 := Lib.hid (own_pick HO4.out HR4.out (by decide) hg5)
    have HB5 := Lib.hid (below_pick HB4.out hg5 hR0 HB4.out.size)
    clear hg5 hr5 a0 a1 a2 a3 c0 hl1 hl2
    go_wp2_with fail
    go_returns
    exact ⟨_, n, l, _, _, rfl, hn, HO5.out, HS2.out, HB5.out⟩
  · have c0 := hBk.cell 4 (v := .int .i64 0) rfl
    clear hBk
    go_wp2_with fail
    refine (pick_any _ R 502 _ HR4.out (by omega)).mono ?_
    rintro e w5 ⟨k3, rfl, hk3, hg5, hr5⟩
    have HO5 := Lib.hid (own_pick HO4.out HR4.out (by decide) hg5)
    have HB5 := Lib.hid (below_pick HB4.out hg5 hR0 HB4.out.size)
    clear hg5 hr5 a0 a1 a2 a3 c0 hl1 hl2
    go_wp2_with fail
    go_returns
    exact ⟨_, n, l, _, _, rfl, hn, HO5.out, HS2.out, HB5.out⟩
  · have c0 := hBk.cell 5 (v := .int .i64 1) rfl
    clear hBk
    go_wp2_with fail
    refine (pick_any _ R 502 _ HR4.out (by omega)).mono ?_
    rintro e w5 ⟨k3, rfl, hk3, hg5, hr5⟩
    have HO5 := Lib.hid (own_pick HO4.out HR4.out (by decide) hg5)
    have HB5 := Lib.hid (below_pick HB4.out hg5 hR0 HB4.out.size)
    clear hg5 hr5 a0 a1 a2 a3 c0 hl1 hl2
    go_wp2_with fail
    go_returns
    exact ⟨_, n, l, _, _, rfl, hn, HO5.out, HS2.out, HB5.out⟩
  · have c0 := hBk.cell 6 (v := .int .i64 2) rfl
    clear hBk
    go_wp2_with fail
    refine (pick_any _ R 502 _ HR4.out (by omega)).mono ?_
    rintro e w5 ⟨k3, rfl, hk3, hg5, hr5⟩
    have HO5 := Lib.hid (own_pick HO4.out HR4.out (by decide) hg5)
    have HB5 := Lib.hid (below_pick HB4.out hg5 hR0 HB4.out.size)
    clear hg5 hr5 a0 a1 a2 a3 c0 hl1 hl2
    go_wp2_with fail
    go_returns
    exact ⟨_, n, l, _, _, rfl, hn, HO5.out, HS2.out, HB5.out⟩
  · have c0 := hBk.cell 7 (v := .int .i64 3) rfl
    clear hBk
    go_wp2_with fail
    refine (pick_any _ R 502 _ HR4.out (by omega)).mono ?_
    rintro e w5 ⟨k3, rfl, hk3, hg5, hr5⟩
    have HO5 := Lib.hid (own_pick HO4.out HR4.out (by decide) hg5)
    have HB5 := Lib.hid (below_pick HB4.out hg5 hR0 HB4.out.size)
    clear hg5 hr5 a0 a1 a2 a3 c0 hl1 hl2
    go_wp2_with fail
    go_returns
    exact ⟨_, n, l, _, _, rfl, hn, HO5.out, HS2.out, HB5.out⟩
end Go.Proofs.Ytadgmncngkkdnaa
