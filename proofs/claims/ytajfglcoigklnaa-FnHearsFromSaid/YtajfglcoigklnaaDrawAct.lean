/-
  The drawing of activities; of HearsFrom's input.
-/
import Derived.Test.YtajfglcoigklnaaDrawHandle
import Derived.Test.YtajfglcoigklnaaDrawBlocks
import Derived.Test.YtajfglcoigklnaaAct
namespace Go.Proofs.Ytajfglcoigklnaa
open Go.ChangeShapes Go.WideShapes Go.ChangeAt Go.RowKit Go.Joins
set_option linter.unusedVariables false
variable {L : Nat}

set_option maxRecDepth 100000 in
set_option maxHeartbeats 8000000 in
theorem l20ac_any (w : World) (R q : Nat) (n : Int) (h : Rdr w L R q) (hq : q ≤ 500) (hn : n ≤ 1000000) :
    Calls Try.prog 48 #[.pointer (some ⟨R, 0, none⟩), .int .i64 n] w fun e w' => ∃ a : Ac, e = .returned (acv a) ∧ (a.who.a.size ≤ 9 ∧ a.who.b.size ≤ 9 ∧ a.what.size ≤ 9) ∧ w.grownBy w' (some R) ∧ Rdr w' L R (q + 100) := by
  have H := Lib.hid h
  have hLR : L ≤ R := by obtain ⟨A, m, c, p, hb, hp, hm, hmc, hc, hLR, hby⟩ := h; exact hLR
  clear h
  have hR := rdr_lt H.out
  have hRS : R ≠ w.heap.size := by omega
  have hne : some w.heap.size ≠ some R := by intro e; injection e with e; omega
  have HLS : Hid (L ≤ w.heap.size) := Lib.hid (by omega)
  go_enter Try.func48, Try.ntmps48
  go_wp2_with fail
  refine (odd_any _ R q _ (rdr_alloc H.out _) (by omega) hn).mono ?_
  rintro e w1 ⟨bo, rfl, _, hg1, hr1⟩
  have HK1 : Hid (Bk w1 w.heap.size 45 #[.int .i64 0, .int .i64 0, .string ⟨#[]⟩, .string ⟨#[]⟩, .string ⟨#[]⟩]) := Lib.hid ((Bk.new w _ _).grown hg1 hne)
  have HG1 : Hid (w.grownBy w1 (some R)) := Lib.hid (grown_after_alloc hg1)
  have HR1 := Lib.hid hr1
  have hR1 := rdr_lt hr1
  clear hg1 hr1
  cases bo
  case true =>
    go_wp2_with fail
    have hkb : Bk (w1.alloc (.cells #[.int .i64 0, .int .i64 0, .string ⟨#[]⟩, .string ⟨#[]⟩, .string ⟨#[]⟩, .int .i64 (-1), .int .i64 0, .string ⟨#[97]⟩, .string ⟨#[98]⟩, .string ⟨#[99]⟩, .int .i64 6, .int .i64 0, .string ⟨#[97]⟩, .string ⟨#[98]⟩, .string ⟨#[99]⟩, .int .i64 0, .int .i64 0, .string ⟨#[97]⟩, .string ⟨#[98]⟩, .string ⟨#[]⟩, .int .i64 0, .int .i64 (-1), .string ⟨#[97]⟩, .string ⟨#[98]⟩, .string ⟨#[99]⟩] 45)) w1.heap.size 45 #[.int .i64 0, .int .i64 0, .string ⟨#[]⟩, .string ⟨#[]⟩, .string ⟨#[]⟩, .int .i64 (-1), .int .i64 0, .string ⟨#[97]⟩, .string ⟨#[98]⟩, .string ⟨#[99]⟩, .int .i64 6, .int .i64 0, .string ⟨#[97]⟩, .string ⟨#[98]⟩, .string ⟨#[99]⟩, .int .i64 0, .int .i64 0, .string ⟨#[97]⟩, .string ⟨#[98]⟩, .string ⟨#[]⟩, .int .i64 0, .int .i64 (-1), .string ⟨#[97]⟩, .string ⟨#[98]⟩, .string ⟨#[99]⟩] := Bk.new w1 _ _
    refine (pick_any _ R (q + 1) _ (rdr_alloc HR1.out _) (by omega)).mono ?_
    rintro e w2 ⟨k5, rfl, hk5, hg2, hr2⟩
    have hkb2 := hkb.grown hg2 (by intro e; injection e with e; omega)
    have hK2 := (HK1.out.alloc _).grown hg2 hne
    have HG2 : Hid (w.grownBy w2 (some R)) := Lib.hid (grown_trans' HG1.out (grown_after_alloc hg2))
    have HR2 := Lib.hid hr2
    have d0 := hK2.cell 0 (v := .int .i64 0) rfl
    have d1 := hK2.cell 1 (v := .int .i64 0) rfl
    have d2 := hK2.cell 2 (v := .string ⟨#[]⟩) rfl
    have d3 := hK2.cell 3 (v := .string ⟨#[]⟩) rfl
    have d4 := hK2.cell 4 (v := .string ⟨#[]⟩) rfl
    have f0 := hK2.free 0
    have f1 := hK2.free 1
    have f2 := hK2.free 2
    have f3 := hK2.free 3
    have f4 := hK2.free 4
    have hl2 := hkb2.lt
    have hl3 := hK2.lt
    have HK2 := Lib.hid hK2
    have hk : k5 = 0 ∨ k5 = 1 ∨ k5 = 2 ∨ k5 = 3 ∨ k5 = 4 := by omega
    clear hg2 hr2 hkb hk5 hK2
    rcases hk with rfl | rfl | rfl | rfl | rfl
    · have z0' := hkb2.cell 0 (v := .int .i64 0) rfl
      have z1' := hkb2.cell 1 (v := .int .i64 0) rfl
      have z2' := hkb2.cell 2 (v := .string ⟨#[]⟩) rfl
      have z3' := hkb2.cell 3 (v := .string ⟨#[]⟩) rfl
      have z4' := hkb2.cell 4 (v := .string ⟨#[]⟩) rfl
      clear hkb2
      go_wp2_with fail
      have hk : Bk (((((w2.setCell ⟨w.heap.size, 0, none⟩ (.int .i64 0)).setCell ⟨w.heap.size, 1, none⟩ (.int .i64 0)).setCell ⟨w.heap.size, 2, none⟩ (.string ⟨#[]⟩)).setCell ⟨w.heap.size, 3, none⟩ (.string ⟨#[]⟩)).setCell ⟨w.heap.size, 4, none⟩ (.string ⟨#[]⟩)) w.heap.size 45 #[.int .i64 0, .int .i64 0, .string ⟨#[]⟩, .string ⟨#[]⟩, .string ⟨#[]⟩] := ((((HK2.out.set_ 0 _).set_ 1 _).set_ 2 _).set_ 3 _).set_ 4 _
      have c0 := hk.cell 0 (v := .int .i64 0) rfl
      have c1 := hk.cell 1 (v := .int .i64 0) rfl
      have c2 := hk.cell 2 (v := .string ⟨#[]⟩) rfl
      have c3 := hk.cell 3 (v := .string ⟨#[]⟩) rfl
      have c4 := hk.cell 4 (v := .string ⟨#[]⟩) rfl
      refine bodyPost_ret (v := acv ⟨0, 0, ⟨⟨#[]⟩, ⟨#[]⟩⟩, ⟨#[]⟩⟩) (by simp [results, Try.results48, go_sem, c0, c1, c2, c3, c4]) rfl ?_
      exact ⟨⟨0, 0, ⟨⟨#[]⟩, ⟨#[]⟩⟩, ⟨#[]⟩⟩, rfl, by decide, (only_setCell (only_setCell (only_setCell (only_setCell (only_setCell HG2.out (Nat.le_refl _) _) (Nat.le_refl _) _) (Nat.le_refl _) _) (Nat.le_refl _) _) (Nat.le_refl _) _), rdr_more (rdr_setCell' (rdr_setCell' (rdr_setCell' (rdr_setCell' (rdr_setCell' HR2.out HLS.out (Ne.symm hRS) _) HLS.out (Ne.symm hRS) _) HLS.out (Ne.symm hRS) _) HLS.out (Ne.symm hRS) _) HLS.out (Ne.symm hRS) _) (by omega)⟩
    · have z0' := hkb2.cell 5 (v := .int .i64 (-1)) rfl
      have z1' := hkb2.cell 6 (v := .int .i64 0) rfl
      have z2' := hkb2.cell 7 (v := .string ⟨#[97]⟩) rfl
      have z3' := hkb2.cell 8 (v := .string ⟨#[98]⟩) rfl
      have z4' := hkb2.cell 9 (v := .string ⟨#[99]⟩) rfl
      clear hkb2
      go_wp2_with fail
      have hk : Bk (((((w2.setCell ⟨w.heap.size, 0, none⟩ (.int .i64 (-1))).setCell ⟨w.heap.size, 1, none⟩ (.int .i64 0)).setCell ⟨w.heap.size, 2, none⟩ (.string ⟨#[97]⟩)).setCell ⟨w.heap.size, 3, none⟩ (.string ⟨#[98]⟩)).setCell ⟨w.heap.size, 4, none⟩ (.string ⟨#[99]⟩)) w.heap.size 45 #[.int .i64 (-1), .int .i64 0, .string ⟨#[97]⟩, .string ⟨#[98]⟩, .string ⟨#[99]⟩] := ((((HK2.out.set_ 0 _).set_ 1 _).set_ 2 _).set_ 3 _).set_ 4 _
      have c0 := hk.cell 0 (v := .int .i64 (-1)) rfl
      have c1 := hk.cell 1 (v := .int .i64 0) rfl
      have c2 := hk.cell 2 (v := .string ⟨#[97]⟩) rfl
      have c3 := hk.cell 3 (v := .string ⟨#[98]⟩) rfl
      have c4 := hk.cell 4 (v := .string ⟨#[99]⟩) rfl
      refine bodyPost_ret (v := acv ⟨(-1), 0, ⟨⟨#[97]⟩, ⟨#[98]⟩⟩, ⟨#[99]⟩⟩) (by simp [results, Try.results48, go_sem, c0, c1, c2, c3, c4]) rfl ?_
      exact ⟨⟨(-1), 0, ⟨⟨#[97]⟩, ⟨#[98]⟩⟩, ⟨#[99]⟩⟩, rfl, by decide, (only_setCell (only_setCell (only_setCell (only_setCell (only_setCell HG2.out (Nat.le_refl _) _) (Nat.le_refl _) _) (Nat.le_refl _) _) (Nat.le_refl _) _) (Nat.le_refl _) _), rdr_more (rdr_setCell' (rdr_setCell' (rdr_setCell' (rdr_setCell' (rdr_setCell' HR2.out HLS.out (Ne.symm hRS) _) HLS.out (Ne.symm hRS) _) HLS.out (Ne.symm hRS) _) HLS.out (Ne.symm hRS) _) HLS.out (Ne.symm hRS) _) (by omega)⟩
    · have z0' := hkb2.cell 10 (v := .int .i64 6) rfl
      have z1' := hkb2.cell 11 (v := .int .i64 0) rfl
      have z2' := hkb2.cell 12 (v := .string ⟨#[97]⟩) rfl
      have z3' := hkb2.cell 13 (v := .string ⟨#[98]⟩) rfl
      have z4' := hkb2.cell 14 (v := .string ⟨#[99]⟩) rfl
      clear hkb2
      go_wp2_with fail
      have hk : Bk (((((w2.setCell ⟨w.heap.size, 0, none⟩ (.int .i64 6)).setCell ⟨w.heap.size, 1, none⟩ (.int .i64 0)).setCell ⟨w.heap.size, 2, none⟩ (.string ⟨#[97]⟩)).setCell ⟨w.heap.size, 3, none⟩ (.string ⟨#[98]⟩)).setCell ⟨w.heap.size, 4, none⟩ (.string ⟨#[99]⟩)) w.heap.size 45 #[.int .i64 6, .int .i64 0, .string ⟨#[97]⟩, .string ⟨#[98]⟩, .string ⟨#[99]⟩] := ((((HK2.out.set_ 0 _).set_ 1 _).set_ 2 _).set_ 3 _).set_ 4 _
      have c0 := hk.cell 0 (v := .int .i64 6) rfl
      have c1 := hk.cell 1 (v := .int .i64 0) rfl
      have c2 := hk.cell 2 (v := .string ⟨#[97]⟩) rfl
      have c3 := hk.cell 3 (v := .string ⟨#[98]⟩) rfl
      have c4 := hk.cell 4 (v := .string ⟨#[99]⟩) rfl
      refine bodyPost_ret (v := acv ⟨6, 0, ⟨⟨#[97]⟩, ⟨#[98]⟩⟩, ⟨#[99]⟩⟩) (by simp [results, Try.results48, go_sem, c0, c1, c2, c3, c4]) rfl ?_
      exact ⟨⟨6, 0, ⟨⟨#[97]⟩, ⟨#[98]⟩⟩, ⟨#[99]⟩⟩, rfl, by decide, (only_setCell (only_setCell (only_setCell (only_setCell (only_setCell HG2.out (Nat.le_refl _) _) (Nat.le_refl _) _) (Nat.le_refl _) _) (Nat.le_refl _) _) (Nat.le_refl _) _), rdr_more (rdr_setCell' (rdr_setCell' (rdr_setCell' (rdr_setCell' (rdr_setCell' HR2.out HLS.out (Ne.symm hRS) _) HLS.out (Ne.symm hRS) _) HLS.out (Ne.symm hRS) _) HLS.out (Ne.symm hRS) _) HLS.out (Ne.symm hRS) _) (by omega)⟩
    · have z0' := hkb2.cell 15 (v := .int .i64 0) rfl
      have z1' := hkb2.cell 16 (v := .int .i64 0) rfl
      have z2' := hkb2.cell 17 (v := .string ⟨#[97]⟩) rfl
      have z3' := hkb2.cell 18 (v := .string ⟨#[98]⟩) rfl
      have z4' := hkb2.cell 19 (v := .string ⟨#[]⟩) rfl
      clear hkb2
      go_wp2_with fail
      have hk : Bk (((((w2.setCell ⟨w.heap.size, 0, none⟩ (.int .i64 0)).setCell ⟨w.heap.size, 1, none⟩ (.int .i64 0)).setCell ⟨w.heap.size, 2, none⟩ (.string ⟨#[97]⟩)).setCell ⟨w.heap.size, 3, none⟩ (.string ⟨#[98]⟩)).setCell ⟨w.heap.size, 4, none⟩ (.string ⟨#[]⟩)) w.heap.size 45 #[.int .i64 0, .int .i64 0, .string ⟨#[97]⟩, .string ⟨#[98]⟩, .string ⟨#[]⟩] := ((((HK2.out.set_ 0 _).set_ 1 _).set_ 2 _).set_ 3 _).set_ 4 _
      have c0 := hk.cell 0 (v := .int .i64 0) rfl
      have c1 := hk.cell 1 (v := .int .i64 0) rfl
      have c2 := hk.cell 2 (v := .string ⟨#[97]⟩) rfl
      have c3 := hk.cell 3 (v := .string ⟨#[98]⟩) rfl
      have c4 := hk.cell 4 (v := .string ⟨#[]⟩) rfl
      refine bodyPost_ret (v := acv ⟨0, 0, ⟨⟨#[97]⟩, ⟨#[98]⟩⟩, ⟨#[]⟩⟩) (by simp [results, Try.results48, go_sem, c0, c1, c2, c3, c4]) rfl ?_
      exact ⟨⟨0, 0, ⟨⟨#[97]⟩, ⟨#[98]⟩⟩, ⟨#[]⟩⟩, rfl, by decide, (only_setCell (only_setCell (only_setCell (only_setCell (only_setCell HG2.out (Nat.le_refl _) _) (Nat.le_refl _) _) (Nat.le_refl _) _) (Nat.le_refl _) _) (Nat.le_refl _) _), rdr_more (rdr_setCell' (rdr_setCell' (rdr_setCell' (rdr_setCell' (rdr_setCell' HR2.out HLS.out (Ne.symm hRS) _) HLS.out (Ne.symm hRS) _) HLS.out (Ne.symm hRS) _) HLS.out (Ne.symm hRS) _) HLS.out (Ne.symm hRS) _) (by omega)⟩
    · have z0' := hkb2.cell 20 (v := .int .i64 0) rfl
      have z1' := hkb2.cell 21 (v := .int .i64 (-1)) rfl
      have z2' := hkb2.cell 22 (v := .string ⟨#[97]⟩) rfl
      have z3' := hkb2.cell 23 (v := .string ⟨#[98]⟩) rfl
      have z4' := hkb2.cell 24 (v := .string ⟨#[99]⟩) rfl
      clear hkb2
      go_wp2_with fail
      have hk : Bk (((((w2.setCell ⟨w.heap.size, 0, none⟩ (.int .i64 0)).setCell ⟨w.heap.size, 1, none⟩ (.int .i64 (-1))).setCell ⟨w.heap.size, 2, none⟩ (.string ⟨#[97]⟩)).setCell ⟨w.heap.size, 3, none⟩ (.string ⟨#[98]⟩)).setCell ⟨w.heap.size, 4, none⟩ (.string ⟨#[99]⟩)) w.heap.size 45 #[.int .i64 0, .int .i64 (-1), .string ⟨#[97]⟩, .string ⟨#[98]⟩, .string ⟨#[99]⟩] := ((((HK2.out.set_ 0 _).set_ 1 _).set_ 2 _).set_ 3 _).set_ 4 _
      have c0 := hk.cell 0 (v := .int .i64 0) rfl
      have c1 := hk.cell 1 (v := .int .i64 (-1)) rfl
      have c2 := hk.cell 2 (v := .string ⟨#[97]⟩) rfl
      have c3 := hk.cell 3 (v := .string ⟨#[98]⟩) rfl
      have c4 := hk.cell 4 (v := .string ⟨#[99]⟩) rfl
      refine bodyPost_ret (v := acv ⟨0, (-1), ⟨⟨#[97]⟩, ⟨#[98]⟩⟩, ⟨#[99]⟩⟩) (by simp [results, Try.results48, go_sem, c0, c1, c2, c3, c4]) rfl ?_
      exact ⟨⟨0, (-1), ⟨⟨#[97]⟩, ⟨#[98]⟩⟩, ⟨#[99]⟩⟩, rfl, by decide, (only_setCell (only_setCell (only_setCell (only_setCell (only_setCell HG2.out (Nat.le_refl _) _) (Nat.le_refl _) _) (Nat.le_refl _) _) (Nat.le_refl _) _) (Nat.le_refl _) _), rdr_more (rdr_setCell' (rdr_setCell' (rdr_setCell' (rdr_setCell' (rdr_setCell' HR2.out HLS.out (Ne.symm hRS) _) HLS.out (Ne.symm hRS) _) HLS.out (Ne.symm hRS) _) HLS.out (Ne.symm hRS) _) HLS.out (Ne.symm hRS) _) (by omega)⟩
  go_wp2_with fail
  refine (pick_any _ R (q + 1) _ HR1.out (by omega)).mono ?_
  rintro e w2 ⟨k1, rfl, hk1, hg2, hr2⟩
  have HK2 := Lib.hid (HK1.out.grown hg2 hne); have HG2 := Lib.hid (grown_trans' HG1.out hg2); have HR2 := Lib.hid hr2
  clear hg2 hr2 HK1 HG1 HR1
  go_wp2_with fail
  refine (pick_any _ R (q + 2) _ HR2.out (by omega)).mono ?_
  rintro e w3 ⟨k2, rfl, hk2, hg3, hr3⟩
  have HK3 := Lib.hid (HK2.out.grown hg3 hne); have HG3 := Lib.hid (grown_trans' HG2.out hg3); have HR3 := Lib.hid hr3
  clear hg3 hr3 HK2 HG2 HR2
  go_wp2_with fail
  refine (l20ha_any _ R (q + 3) 0 HR3.out (by omega) (by omega)).mono ?_
  rintro e w4 ⟨z, rfl, hz, hg4, hr4⟩
  have HK4 := Lib.hid (HK3.out.grown hg4 hne); have HG4 := Lib.hid (grown_trans' HG3.out hg4); have HR4 := Lib.hid hr4; have HZ := Lib.hid hz
  have hR4 := rdr_lt hr4
  clear hg4 hr4 HK3 HG3 HR3 hz
  obtain ⟨za, zb⟩ := z
  go_wp2_with fail
  have hkb : Bk (w4.alloc (.cells #[.string ⟨#[107, 49]⟩, .string ⟨#[107, 50]⟩, .string ⟨#[107, 51]⟩] 9)) w4.heap.size 9 #[.string ⟨#[107, 49]⟩, .string ⟨#[107, 50]⟩, .string ⟨#[107, 51]⟩] := Bk.new w4 _ _
  refine (pick_any _ R (q + 63) _ (rdr_alloc HR4.out _) (by omega)).mono ?_
  rintro e w5 ⟨k5, rfl, hk5, hg5, hr5⟩
  have hkb5 := hkb.grown hg5 (by intro e; injection e with e; omega)
  have hK5 := (HK4.out.alloc _).grown hg5 hne
  have HG5 : Hid (w.grownBy w5 (some R)) := Lib.hid (grown_trans' HG4.out (grown_after_alloc hg5))
  have HR5 := Lib.hid hr5
  have d0 := hK5.cell 0 (v := .int .i64 0) rfl
  have d1 := hK5.cell 1 (v := .int .i64 0) rfl
  have d2 := hK5.cell 2 (v := .string ⟨#[]⟩) rfl
  have d3 := hK5.cell 3 (v := .string ⟨#[]⟩) rfl
  have d4 := hK5.cell 4 (v := .string ⟨#[]⟩) rfl
  have f0 := hK5.free 0
  have f1 := hK5.free 1
  have f2 := hK5.free 2
  have f3 := hK5.free 3
  have f4 := hK5.free 4
  have hl2 := hkb5.lt
  have hl3 := hK5.lt
  have HK5 := Lib.hid hK5
  have hk : k5 = 0 ∨ k5 = 1 ∨ k5 = 2 := by omega
  clear hg5 hr5 hkb hk5 hK5
  rcases hk with rfl | rfl | rfl
  · have z0' := hkb5.cell 0 (v := .string ⟨#[107, 49]⟩) rfl
    clear hkb5
    go_wp2_with fail
    have hk : Bk (((((w5.setCell ⟨w.heap.size, 0, none⟩ (.int .i64 k1)).setCell ⟨w.heap.size, 1, none⟩ (.int .i64 k2)).setCell ⟨w.heap.size, 2, none⟩ (.string za)).setCell ⟨w.heap.size, 3, none⟩ (.string zb)).setCell ⟨w.heap.size, 4, none⟩ (.string ⟨#[107, 49]⟩)) w.heap.size 45 #[.int .i64 k1, .int .i64 k2, .string za, .string zb, .string ⟨#[107, 49]⟩] := ((((HK5.out.set_ 0 _).set_ 1 _).set_ 2 _).set_ 3 _).set_ 4 _
    have c0 := hk.cell 0 (v := .int .i64 k1) rfl
    have c1 := hk.cell 1 (v := .int .i64 k2) rfl
    have c2 := hk.cell 2 (v := .string za) rfl
    have c3 := hk.cell 3 (v := .string zb) rfl
    have c4 := hk.cell 4 (v := .string ⟨#[107, 49]⟩) rfl
    refine bodyPost_ret (v := acv ⟨k1, k2, ⟨za, zb⟩, ⟨#[107, 49]⟩⟩) (by simp [results, Try.results48, go_sem, c0, c1, c2, c3, c4]) rfl ?_
    exact ⟨⟨k1, k2, ⟨za, zb⟩, ⟨#[107, 49]⟩⟩, rfl, ⟨HZ.out.1, HZ.out.2, show (⟨#[107, 49]⟩ : ByteArray).size ≤ 9 by decide⟩, (only_setCell (only_setCell (only_setCell (only_setCell (only_setCell HG5.out (Nat.le_refl _) _) (Nat.le_refl _) _) (Nat.le_refl _) _) (Nat.le_refl _) _) (Nat.le_refl _) _), rdr_more (rdr_setCell' (rdr_setCell' (rdr_setCell' (rdr_setCell' (rdr_setCell' HR5.out HLS.out (Ne.symm hRS) _) HLS.out (Ne.symm hRS) _) HLS.out (Ne.symm hRS) _) HLS.out (Ne.symm hRS) _) HLS.out (Ne.symm hRS) _) (by omega)⟩
  · have z0' := hkb5.cell 1 (v := .string ⟨#[107, 50]⟩) rfl
    clear hkb5
    go_wp2_with fail
    have hk : Bk (((((w5.setCell ⟨w.heap.size, 0, none⟩ (.int .i64 k1)).setCell ⟨w.heap.size, 1, none⟩ (.int .i64 k2)).setCell ⟨w.heap.size, 2, none⟩ (.string za)).setCell ⟨w.heap.size, 3, none⟩ (.string zb)).setCell ⟨w.heap.size, 4, none⟩ (.string ⟨#[107, 50]⟩)) w.heap.size 45 #[.int .i64 k1, .int .i64 k2, .string za, .string zb, .string ⟨#[107, 50]⟩] := ((((HK5.out.set_ 0 _).set_ 1 _).set_ 2 _).set_ 3 _).set_ 4 _
    have c0 := hk.cell 0 (v := .int .i64 k1) rfl
    have c1 := hk.cell 1 (v := .int .i64 k2) rfl
    have c2 := hk.cell 2 (v := .string za) rfl
    have c3 := hk.cell 3 (v := .string zb) rfl
    have c4 := hk.cell 4 (v := .string ⟨#[107, 50]⟩) rfl
    refine bodyPost_ret (v := acv ⟨k1, k2, ⟨za, zb⟩, ⟨#[107, 50]⟩⟩) (by simp [results, Try.results48, go_sem, c0, c1, c2, c3, c4]) rfl ?_
    exact ⟨⟨k1, k2, ⟨za, zb⟩, ⟨#[107, 50]⟩⟩, rfl, ⟨HZ.out.1, HZ.out.2, show (⟨#[107, 50]⟩ : ByteArray).size ≤ 9 by decide⟩, (only_setCell (only_setCell (only_setCell (only_setCell (only_setCell HG5.out (Nat.le_refl _) _) (Nat.le_refl _) _) (Nat.le_refl _) _) (Nat.le_refl _) _) (Nat.le_refl _) _), rdr_more (rdr_setCell' (rdr_setCell' (rdr_setCell' (rdr_setCell' (rdr_setCell' HR5.out HLS.out (Ne.symm hRS) _) HLS.out (Ne.symm hRS) _) HLS.out (Ne.symm hRS) _) HLS.out (Ne.symm hRS) _) HLS.out (Ne.symm hRS) _) (by omega)⟩
  · have z0' := hkb5.cell 2 (v := .string ⟨#[107, 51]⟩) rfl
    clear hkb5
    go_wp2_with fail
    have hk : Bk (((((w5.setCell ⟨w.heap.size, 0, none⟩ (.int .i64 k1)).setCell ⟨w.heap.size, 1, none⟩ (.int .i64 k2)).setCell ⟨w.heap.size, 2, none⟩ (.string za)).setCell ⟨w.heap.size, 3, none⟩ (.string zb)).setCell ⟨w.heap.size, 4, none⟩ (.string ⟨#[107, 51]⟩)) w.heap.size 45 #[.int .i64 k1, .int .i64 k2, .string za, .string zb, .string ⟨#[107, 51]⟩] := ((((HK5.out.set_ 0 _).set_ 1 _).set_ 2 _).set_ 3 _).set_ 4 _
    have c0 := hk.cell 0 (v := .int .i64 k1) rfl
    have c1 := hk.cell 1 (v := .int .i64 k2) rfl
    have c2 := hk.cell 2 (v := .string za) rfl
    have c3 := hk.cell 3 (v := .string zb) rfl
    have c4 := hk.cell 4 (v := .string ⟨#[107, 51]⟩) rfl
    refine bodyPost_ret (v := acv ⟨k1, k2, ⟨za, zb⟩, ⟨#[107, 51]⟩⟩) (by simp [results, Try.results48, go_sem, c0, c1, c2, c3, c4]) rfl ?_
    exact ⟨⟨k1, k2, ⟨za, zb⟩, ⟨#[107, 51]⟩⟩, rfl, ⟨HZ.out.1, HZ.out.2, show (⟨#[107, 51]⟩ : ByteArray).size ≤ 9 by decide⟩, (only_setCell (only_setCell (only_setCell (only_setCell (only_setCell HG5.out (Nat.le_refl _) _) (Nat.le_refl _) _) (Nat.le_refl _) _) (Nat.le_refl _) _) (Nat.le_refl _) _), rdr_more (rdr_setCell' (rdr_setCell' (rdr_setCell' (rdr_setCell' (rdr_setCell' HR5.out HLS.out (Ne.symm hRS) _) HLS.out (Ne.symm hRS) _) HLS.out (Ne.symm hRS) _) HLS.out (Ne.symm hRS) _) HLS.out (Ne.symm hRS) _) (by omega)⟩

set_option maxHeartbeats 4000000 in
theorem dhf_any (a : Option Addr) (len cap : Nat) (zs : List Int) (w0 w : World) (h : IsCode w0 a len cap zs) (hB : Below w0.heap.size w0 w) :
    Calls Try.prog 23 #[.slice a len cap] w fun e w' => ∃ (v : Value) (n : Nat) (l : List Bl) (z : Ac), e = .returned (.tuple #[v, acv z]) ∧ n ≤ 6 ∧ w'.ownsRow w0.heap.size 26 3 v n (bls l) ∧ (∀ y ∈ l, y.a.size ≤ 9) ∧ (z.who.a.size ≤ 9 ∧ z.who.b.size ≤ 9 ∧ z.what.size ≤ 9) ∧ Below w0.heap.size w0 w' := by
  have HC := Lib.hid h
  have HB := Lib.hid hB
  clear h hB
  go_enter Try.func23, Try.ntmps23
  go_wp2_with fail
  have HBa := Lib.hid (HB.out.alloc HB.out.size (.cells #[.int .i64 0, .int .i64 0, .string ⟨#[]⟩, .string ⟨#[]⟩, .string ⟨#[]⟩] 45))
  refine (open_any a len cap zs w0 _ HC.out HBa.out).mono ?_
  rintro e w1 ⟨R, rfl, hb1, hR1, hR2, hr1⟩
  have hk1 : Bk w1 w.heap.size 45 #[.int .i64 0, .int .i64 0, .string ⟨#[]⟩, .string ⟨#[]⟩, .string ⟨#[]⟩] := (Bk.new w _ _).keep hb1
  have HB1 := Lib.hid (belB HB.out HB.out.size (bela hb1))
  have hRw : w.heap.size < R := by simp at hR1; omega
  have HR1 := Lib.hid hr1; have HK1 := Lib.hid hk1
  clear hb1 hr1 hk1 HBa hR1
  have hne : some w.heap.size ≠ some R := by intro e; injection e with e; omega
  go_wp2_with fail
  refine (l20bls_any _ R 0 _ HR1.out (by omega) (by omega)).mono ?_
  rintro e w2 ⟨v, n, l, rfl, hn, ho2, hs2, hg2, hr2⟩
  have hR0 : w0.heap.size ≤ R := by have := HB.out.size; omega
  have HNE : Hid (some w.heap.size ≠ v.ownBlock) := Lib.hid (fun e => by have := (ho2.lt _ e.symm).1; have := HK1.out.lt; omega)
  have HO2 := Lib.hid (own_less ho2 HB1.out.size)
  have HB2 := Lib.hid (below_pick HB1.out hg2 hR0 HB1.out.size)
  have HK2 := Lib.hid (HK1.out.grown hg2 hne)
  have HR2 := Lib.hid hr2; have HS2 := Lib.hid hs2
  clear ho2 hs2 hg2 hr2
  go_wp2_with fail
  refine (l20ac_any _ R 400 _ (rdr_more HR2.out (by omega)) (by omega) (by omega)).mono ?_
  rintro e w3 ⟨z, rfl, hz, hg3, hr3⟩
  have HO3 := Lib.hid (own_pick HO2.out HR2.out (by decide) hg3)
  have HB3 := Lib.hid (below_pick HB2.out hg3 hR0 HB2.out.size)
  have hk3 := HK2.out.grown hg3 hne
  have HZ := Lib.hid hz
  have c0 := hk3.cell 0 (v := .int .i64 0) rfl
  have c1 := hk3.cell 1 (v := .int .i64 0) rfl
  have c2 := hk3.cell 2 (v := .string ⟨#[]⟩) rfl
  have c3 := hk3.cell 3 (v := .string ⟨#[]⟩) rfl
  have c4 := hk3.cell 4 (v := .string ⟨#[]⟩) rfl
  have f0 := hk3.free 0
  have f1 := hk3.free 1
  have f2 := hk3.free 2
  have f3 := hk3.free 3
  have f4 := hk3.free 4
  have hkl := hk3.lt
  have HK3 := Lib.hid hk3
  clear hz hg3 hr3 hk3
  obtain ⟨ak, an, ⟨ax, ay⟩, at_⟩ := z
  go_wp2_with fail
  have hk : Bk (((((w3.setCell ⟨w.heap.size, 0, none⟩ (.int .i64 ak)).setCell ⟨w.heap.size, 1, none⟩ (.int .i64 an)).setCell ⟨w.heap.size, 2, none⟩ (.string ax)).setCell ⟨w.heap.size, 3, none⟩ (.string ay)).setCell ⟨w.heap.size, 4, none⟩ (.string at_)) w.heap.size 45 #[.int .i64 ak, .int .i64 an, .string ax, .string ay, .string at_] := ((((HK3.out.set_ 0 _).set_ 1 _).set_ 2 _).set_ 3 _).set_ 4 _
  have d0 := hk.cell 0 (v := .int .i64 ak) rfl
  have d1 := hk.cell 1 (v := .int .i64 an) rfl
  have d2 := hk.cell 2 (v := .string ax) rfl
  have d3 := hk.cell 3 (v := .string ay) rfl
  have d4 := hk.cell 4 (v := .string at_) rfl
  obtain ⟨A, c, rfl, _, _, _⟩ := own_form HO3.out
  refine bodyPost_ret (v := .tuple #[.slice A n c, acv ⟨ak, an, ⟨ax, ay⟩, at_⟩]) (by simp [results, Try.results23, go_sem, d0, d1, d2, d3, d4]) rfl ?_
  have hB0 := HB.out.size
  exact ⟨_, n, l, ⟨ak, an, ⟨ax, ay⟩, at_⟩, rfl, hn, (own_set (own_set (own_set (own_set (own_set HO3.out (p := ⟨w.heap.size, 0, none⟩) HNE.out _) (p := ⟨w.heap.size, 1, none⟩) HNE.out _) (p := ⟨w.heap.size, 2, none⟩) HNE.out _) (p := ⟨w.heap.size, 3, none⟩) HNE.out _) (p := ⟨w.heap.size, 4, none⟩) HNE.out _), HS2.out, HZ.out, (((((HB3.out.setCell hB0 _).setCell hB0 _).setCell hB0 _).setCell hB0 _).setCell hB0 _)⟩
end Go.Proofs.Ytajfglcoigklnaa
