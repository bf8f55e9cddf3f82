/-
  The drawing of feeds that are looked at.
-/
import Derived.Test.YteankmmmkdcaiaaDrawMore
import Derived.Test.YteankmmmkdcaiaaDrawWord
import Derived.Test.YteankmmmkdcaiaaLookAt
namespace Go.Proofs.Yteankmmmkdcaiaa
open Go.ChangeShapes Go.WideShapes Go.ChangeAt Go.RowKit Go.Joins
set_option linter.unusedVariables false
variable {L : Nat}

structure DWI (w wr : World) (L R q : Nat) (v : Value) (n : Nat) (l : List Wa) : Prop where
  row : wr.ownsRow w.heap.size 33 3 v n (was l)
  small : ∀ z ∈ l, z.a.size ≤ 9
  rdr : Rdr wr L R q
  below : w.grownBy wr (some R)

set_option maxRecDepth 100000 in
set_option maxHeartbeats 80000000 in
theorem l20wa_any (w : World) (R q : Nat) (m : Int) (h : Rdr w L R q) (hq : q ≤ 100) (hm : m ≤ 1000) :
    Calls Try.prog 39 #[.pointer (some ⟨R, 0, none⟩), .int .i64 m] w fun e w' => ∃ (v : Value) (n : Nat) (l : List Wa), e = .returned v ∧ n ≤ 6 ∧ w'.ownsRow w.heap.size 33 3 v n (was l) ∧ (∀ z ∈ l, z.a.size ≤ 9) ∧ w.grownBy w' (some R) ∧ Rdr w' L R (q + 60) := by
  have H := Lib.hid h
  have hRl := rdr_lt h
  clear h
  obtain ⟨i0, hi, hz0, hz1, hz2⟩ := info_parts wa_info
  have HI := Lib.hid hi; have HZ0 := Lib.hid hz0; have HZ1 := Lib.hid hz1; have HZ2 := Lib.hid hz2
  clear hi hz0 hz1 hz2
  go_enter Try.func39, Try.ntmps39
  go_wp2_with fail
  refine (pick_any _ _ _ _ (rdr_alloc H.out _) (by omega)).mono ?_
  rintro e w1 ⟨k1, rfl, hk1, hg1, hr1⟩
  have hk1' : k1 ≤ 4 := by omega
  have HI1 : Hid (DWI w w1 L R (q + 4) (.slice (some ⟨w.heap.size, 0, none⟩) 0 0) 0 []) := Lib.hid ⟨own_pick (World.ownsRow_made w #[] 0 (Nat.le_refl _) (by simp) (by simp)) (rdr_alloc H.out _) (by decide) hg1, by simp, rdr_more hr1 (by omega), grown_tr (World.grownBy_alloc w _ _) hg1⟩
  clear hk1 hg1 hr1
  go_wp2_with fail
  go_loopw [5, 6] (fun v kk wr => ∃ (j n : Nat) (l : List Wa), n + j ≤ 4 ∧ kk = .int .i64 j ∧ DWI w wr L R (q + 4 + 8 * (4 - j)) v n l) (fun _ kk _ => (intOf kk).toNat)
  case atStart => exact ⟨k1, 0, [], by omega, rfl, ⟨HI1.out.row, HI1.out.small, rdr_more HI1.out.rdr (by omega), HI1.out.below⟩⟩
  case round =>
    clear HI1
    obtain ⟨j, n, l, hnj, rfl, hI⟩ := hrel
    obtain ⟨ho, hs, hr, hb⟩ := hI
    have HO := Lib.hid ho; have HS := Lib.hid hs; have HR := Lib.hid hr; have HB := Lib.hid hb
    clear ho hs hr hb
    by_cases hj : 0 < j
    · go_wp2_with fail
      have hRw := rdr_lt HR.out
      go_region_held3 (fun _ => True) (trivial)
        (first
          | (go_at_call 45
             refine (l20wd_any _ _ (q + 4 + 8 * (4 - j)) _ (by first | exact HR.out | exact rdr_alloc HR.out _) (by omega) (by omega)).mono ?_
             rintro e x1 ⟨s, rfl, hs1, hx1, hr1⟩
             have hR1 := rdr_lt hr1
             (try have b1 : Bk x1 wr.heap.size 33 #[.string ⟨#[]⟩, .int .i64 0, .int .i64 0] := Bk.grown (Bk.drew (Bk.new wr 33 #[.string ⟨#[]⟩, .int .i64 0, .int .i64 0])) hx1 (by intro e; injection e with e; omega))
             have Hx1 : Hid (wr.grownBy x1 (some R)) := Lib.hid (by first | exact undrew hx1 | exact unalloc (undrew hx1))
             have Hr1 := Lib.hid hr1
             clear hx1 hr1)
          | (go_at_call 37
             refine (pick_any _ _ (q + 4 + 8 * (4 - j) + 3) _ (by first | exact Hr2.out | exact rdr_alloc Hr2.out _) (by omega)).mono ?_
             rintro e x3 ⟨k3, rfl, hk3, hx3, hr3⟩
             have hR3 := rdr_lt hr3
             (try (have b3 : Bk x3 wr.heap.size 33 #[.string ⟨#[]⟩, .int .i64 0, .int .i64 0] := Bk.grown b2 hx3 (by intro e; injection e with e; omega); have zb0 := b3.cell 0 (v := .string ⟨#[]⟩) rfl; have zb1 := b3.cell 1 (v := .int .i64 0) rfl; have zb2 := b3.cell 2 (v := .int .i64 0) rfl; have yb0 := b3.free 0; have yb1 := b3.free 1; have yb2 := b3.free 2; have ybl := b3.lt))
             (try (have c3 : Bk x3 x1.heap.size 33 #[.string ⟨#[]⟩, .int .i64 0, .int .i64 0] := Bk.grown c2 hx3 (by intro e; injection e with e; omega); have zc0 := c3.cell 0 (v := .string ⟨#[]⟩) rfl; have zc1 := c3.cell 1 (v := .int .i64 0) rfl; have zc2 := c3.cell 2 (v := .int .i64 0) rfl; have yc0 := c3.free 0; have yc1 := c3.free 1; have yc2 := c3.free 2; have ycl := c3.lt))
             (try (have d3 : Bk x3 x2.heap.size 33 #[.string ⟨#[]⟩, .int .i64 0, .int .i64 0] := Bk.grown (Bk.new x2 33 #[.string ⟨#[]⟩, .int .i64 0, .int .i64 0]) hx3 (by intro e; injection e with e; omega); have zd0 := d3.cell 0 (v := .string ⟨#[]⟩) rfl; have zd1 := d3.cell 1 (v := .int .i64 0) rfl; have zd2 := d3.cell 2 (v := .int .i64 0) rfl; have yd0 := d3.free 0; have yd1 := d3.free 1; have yd2 := d3.free 2; have ydl := d3.lt))
             have Hx3 : Hid (x2.grownBy x3 (some R)) := Lib.hid (by first | exact hx3 | exact unalloc hx3)
             have Hr3 := Lib.hid hr3
             clear hx3 hr3)
          | (go_at_call 37
             refine (pick_any _ _ (q + 4 + 8 * (4 - j) + 2) _ (by first | exact Hr1.out | exact rdr_alloc Hr1.out _) (by omega)).mono ?_
             rintro e x2 ⟨k2, rfl, hk2, hx2, hr2⟩
             have hR2 := rdr_lt hr2
             have hk2' : k2 ≤ 7 := by omega
             (try have b2 : Bk x2 wr.heap.size 33 #[.string ⟨#[]⟩, .int .i64 0, .int .i64 0] := Bk.grown b1 hx2 (by intro e; injection e with e; omega))
             (try have c2 : Bk x2 x1.heap.size 33 #[.string ⟨#[]⟩, .int .i64 0, .int .i64 0] := Bk.grown (Bk.new x1 33 #[.string ⟨#[]⟩, .int .i64 0, .int .i64 0]) hx2 (by intro e; injection e with e; omega))
             have Hx2 : Hid (x1.grownBy x2 (some R)) := Lib.hid (by first | exact hx2 | exact unalloc hx2)
             have Hr2 := Lib.hid hr2
             clear hx2 hr2))
      all_goals
        have HO1 := Lib.hid (own_pick HO.out HR.out (by decide) Hx1.out)
        have HO2 := Lib.hid (own_pick HO1.out Hr1.out (by decide) Hx2.out)
        have HO3 := Lib.hid (own_pick HO2.out Hr2.out (by decide) Hx3.out)
        have HB3 := Lib.hid (grown_trans' (grown_trans' (grown_trans' HB.out Hx1.out) Hx2.out) Hx3.out)
        have sz0 : w.heap.size ≤ wr.heap.size := HB.out.size
        have hLR : L ≤ R := by obtain ⟨_, _, _, _, _, _, _, _, _, hh, _⟩ := H.out; exact hh
        have sz1 : wr.heap.size ≤ x1.heap.size := Hx1.out.size
        have sz2 : x1.heap.size ≤ x2.heap.size := Hx2.out.size
        have sz3 : x2.heap.size ≤ x3.heap.size := Hx3.out.size
      have hK : Bk (x3.alloc (.cells #[.string s, .int .i64 (IntKind.i64.wrap (10 * 2 ^ k2)), .int .i64 k3] 33)) x3.heap.size 33 #[.string s, .int .i64 (IntKind.i64.wrap (10 * 2 ^ k2)), .int .i64 k3] := Bk.new x3 33 #[.string s, .int .i64 (IntKind.i64.wrap (10 * 2 ^ k2)), .int .i64 k3]
      have hO : World.ownsRow (x3.alloc (.cells #[.string s, .int .i64 (IntKind.i64.wrap (10 * 2 ^ k2)), .int .i64 k3] 33)) w.heap.size 33 3 u5 n (was l) := HO3.out.alloc _
      have hRr : Rdr (x3.alloc (.cells #[.string s, .int .i64 (IntKind.i64.wrap (10 * 2 ^ k2)), .int .i64 k3] 33)) L R (q + 4 + 8 * (4 - j) + 4) := rdr_alloc Hr3.out _
      have hBr : w.grownBy (x3.alloc (.cells #[.string s, .int .i64 (IntKind.i64.wrap (10 * 2 ^ k2)), .int .i64 k3] 33)) (some R) := only_alloc HB3.out _
      have hgw : wr.heap.size ≤ x3.heap.size := by omega
      generalize (x3.alloc (.cells #[.string s, .int .i64 (IntKind.i64.wrap (10 * 2 ^ k2)), .int .i64 k3] 33)) = wq at *
      generalize x3.heap.size = gq at *
      rotate_left
      have hK : Bk (((x3.setCell ⟨x2.heap.size, 0, none⟩ (.string s)).setCell ⟨x2.heap.size, 1, none⟩ (.int .i64 (IntKind.i64.wrap (10 * 2 ^ k2)))).setCell ⟨x2.heap.size, 2, none⟩ (.int .i64 k3)) x2.heap.size 33 #[.string s, .int .i64 (IntKind.i64.wrap (10 * 2 ^ k2)), .int .i64 k3] := ((d3.set_ 0 (.string s)).set_ 1 (.int .i64 (IntKind.i64.wrap (10 * 2 ^ k2)))).set_ 2 (.int .i64 k3)
      have hO : World.ownsRow (((x3.setCell ⟨x2.heap.size, 0, none⟩ (.string s)).setCell ⟨x2.heap.size, 1, none⟩ (.int .i64 (IntKind.i64.wrap (10 * 2 ^ k2)))).setCell ⟨x2.heap.size, 2, none⟩ (.int .i64 k3)) w.heap.size 33 3 u5 n (was l) := own_set (own_set (own_set HO3.out (fun e => by have := (HO.out.lt _ e.symm).2; simp only at this; omega) _) (fun e => by have := (HO.out.lt _ e.symm).2; simp only at this; omega) _) (fun e => by have := (HO.out.lt _ e.symm).2; simp only at this; omega) _
      have hRr : Rdr (((x3.setCell ⟨x2.heap.size, 0, none⟩ (.string s)).setCell ⟨x2.heap.size, 1, none⟩ (.int .i64 (IntKind.i64.wrap (10 * 2 ^ k2)))).setCell ⟨x2.heap.size, 2, none⟩ (.int .i64 k3)) L R (q + 4 + 8 * (4 - j) + 4) := rdr_setCell' (rdr_setCell' (rdr_setCell' Hr3.out (by simp only; omega) (by simp only; omega) _) (by simp only; omega) (by simp only; omega) _) (by simp only; omega) (by simp only; omega) _
      have hBr : w.grownBy (((x3.setCell ⟨x2.heap.size, 0, none⟩ (.string s)).setCell ⟨x2.heap.size, 1, none⟩ (.int .i64 (IntKind.i64.wrap (10 * 2 ^ k2)))).setCell ⟨x2.heap.size, 2, none⟩ (.int .i64 k3)) (some R) := only_setCell (only_setCell (only_setCell HB3.out (by simp only; omega) _) (by simp only; omega) _) (by simp only; omega) _
      have hgw : wr.heap.size ≤ x2.heap.size := by omega
      generalize (((x3.setCell ⟨x2.heap.size, 0, none⟩ (.string s)).setCell ⟨x2.heap.size, 1, none⟩ (.int .i64 (IntKind.i64.wrap (10 * 2 ^ k2)))).setCell ⟨x2.heap.size, 2, none⟩ (.int .i64 k3)) = wq at *
      generalize x2.heap.size = gq at *
      rotate_left
      have hK : Bk (((x3.setCell ⟨x1.heap.size, 0, none⟩ (.string s)).setCell ⟨x1.heap.size, 1, none⟩ (.int .i64 (IntKind.i64.wrap (10 * 2 ^ k2)))).setCell ⟨x1.heap.size, 2, none⟩ (.int .i64 k3)) x1.heap.size 33 #[.string s, .int .i64 (IntKind.i64.wrap (10 * 2 ^ k2)), .int .i64 k3] := ((c3.set_ 0 (.string s)).set_ 1 (.int .i64 (IntKind.i64.wrap (10 * 2 ^ k2)))).set_ 2 (.int .i64 k3)
      have hO : World.ownsRow (((x3.setCell ⟨x1.heap.size, 0, none⟩ (.string s)).setCell ⟨x1.heap.size, 1, none⟩ (.int .i64 (IntKind.i64.wrap (10 * 2 ^ k2)))).setCell ⟨x1.heap.size, 2, none⟩ (.int .i64 k3)) w.heap.size 33 3 u5 n (was l) := own_set (own_set (own_set HO3.out (fun e => by have := (HO.out.lt _ e.symm).2; simp only at this; omega) _) (fun e => by have := (HO.out.lt _ e.symm).2; simp only at this; omega) _) (fun e => by have := (HO.out.lt _ e.symm).2; simp only at this; omega) _
      have hRr : Rdr (((x3.setCell ⟨x1.heap.size, 0, none⟩ (.string s)).setCell ⟨x1.heap.size, 1, none⟩ (.int .i64 (IntKind.i64.wrap (10 * 2 ^ k2)))).setCell ⟨x1.heap.size, 2, none⟩ (.int .i64 k3)) L R (q + 4 + 8 * (4 - j) + 4) := rdr_setCell' (rdr_setCell' (rdr_setCell' Hr3.out (by simp only; omega) (by simp only; omega) _) (by simp only; omega) (by simp only; omega) _) (by simp only; omega) (by simp only; omega) _
      have hBr : w.grownBy (((x3.setCell ⟨x1.heap.size, 0, none⟩ (.string s)).setCell ⟨x1.heap.size, 1, none⟩ (.int .i64 (IntKind.i64.wrap (10 * 2 ^ k2)))).setCell ⟨x1.heap.size, 2, none⟩ (.int .i64 k3)) (some R) := only_setCell (only_setCell (only_setCell HB3.out (by simp only; omega) _) (by simp only; omega) _) (by simp only; omega) _
      have hgw : wr.heap.size ≤ x1.heap.size := by omega
      generalize (((x3.setCell ⟨x1.heap.size, 0, none⟩ (.string s)).setCell ⟨x1.heap.size, 1, none⟩ (.int .i64 (IntKind.i64.wrap (10 * 2 ^ k2)))).setCell ⟨x1.heap.size, 2, none⟩ (.int .i64 k3)) = wq at *
      generalize x1.heap.size = gq at *
      rotate_left
      have hK : Bk (((x3.setCell ⟨wr.heap.size, 0, none⟩ (.string s)).setCell ⟨wr.heap.size, 1, none⟩ (.int .i64 (IntKind.i64.wrap (10 * 2 ^ k2)))).setCell ⟨wr.heap.size, 2, none⟩ (.int .i64 k3)) wr.heap.size 33 #[.string s, .int .i64 (IntKind.i64.wrap (10 * 2 ^ k2)), .int .i64 k3] := ((b3.set_ 0 (.string s)).set_ 1 (.int .i64 (IntKind.i64.wrap (10 * 2 ^ k2)))).set_ 2 (.int .i64 k3)
      have hO : World.ownsRow (((x3.setCell ⟨wr.heap.size, 0, none⟩ (.string s)).setCell ⟨wr.heap.size, 1, none⟩ (.int .i64 (IntKind.i64.wrap (10 * 2 ^ k2)))).setCell ⟨wr.heap.size, 2, none⟩ (.int .i64 k3)) w.heap.size 33 3 u5 n (was l) := own_set (own_set (own_set HO3.out (fun e => by have := (HO.out.lt _ e.symm).2; simp only at this; omega) _) (fun e => by have := (HO.out.lt _ e.symm).2; simp only at this; omega) _) (fun e => by have := (HO.out.lt _ e.symm).2; simp only at this; omega) _
      have hRr : Rdr (((x3.setCell ⟨wr.heap.size, 0, none⟩ (.string s)).setCell ⟨wr.heap.size, 1, none⟩ (.int .i64 (IntKind.i64.wrap (10 * 2 ^ k2)))).setCell ⟨wr.heap.size, 2, none⟩ (.int .i64 k3)) L R (q + 4 + 8 * (4 - j) + 4) := rdr_setCell' (rdr_setCell' (rdr_setCell' Hr3.out (by simp only; omega) (by simp only; omega) _) (by simp only; omega) (by simp only; omega) _) (by simp only; omega) (by simp only; omega) _
      have hBr : w.grownBy (((x3.setCell ⟨wr.heap.size, 0, none⟩ (.string s)).setCell ⟨wr.heap.size, 1, none⟩ (.int .i64 (IntKind.i64.wrap (10 * 2 ^ k2)))).setCell ⟨wr.heap.size, 2, none⟩ (.int .i64 k3)) (some R) := only_setCell (only_setCell (only_setCell HB3.out (by simp only; omega) _) (by simp only; omega) _) (by simp only; omega) _
      have hgw : wr.heap.size ≤ wr.heap.size := by omega
      generalize (((x3.setCell ⟨wr.heap.size, 0, none⟩ (.string s)).setCell ⟨wr.heap.size, 1, none⟩ (.int .i64 (IntKind.i64.wrap (10 * 2 ^ k2)))).setCell ⟨wr.heap.size, 2, none⟩ (.int .i64 k3)) = wq at *
      generalize wr.heap.size = gq at *
      rotate_left
      all_goals
        clear HO1 HO2 HO3 HB3 sz1 sz2 sz3 Hx1 Hx2 Hx3 Hr1 Hr2 Hr3
        generalize IntKind.i64.wrap (10 * 2 ^ k2) = p at *
        obtain ⟨A, c, rfl, hnc, hcm, _⟩ := own_form hO
        have k0 := hK.cell 0 (v := .string s) rfl
        have k1' := hK.cell 1 (v := .int .i64 p) rfl
        have k2'' := hK.cell 2 (v := .int .i64 k3) rfl
        have hgl := hK.lt
        have hszq := hBr.size
        have HK := Lib.hid hK; have HOq := Lib.hid hO; have HRq := Lib.hid hRr; have HBq := Lib.hid hBr; have HS1 := Lib.hid hs1
        have HRE : Hid (Reads wq wq.heap.size 3 A n (was l)) := Lib.hid (reads_of_rd (rd_own hO) (by omega))
        have HRL : Hid (R < wq.heap.size) := Lib.hid (rdr_lt hRr)
        have HLW : Hid (L ≤ w.heap.size) := Lib.hid (by omega)
        have hNB : n + 1 ≤ maxLen := by simp only [maxLen]; omega
        have hSB : ∀ z ∈ l ++ [(⟨s, p, (k3 : Int)⟩ : Wa)], z.a.size ≤ maxLen := by
          intro z hz
          simp only [maxLen]
          rcases List.mem_append.1 hz with h | h
          · have := HS.out z h; omega
          · simp only [List.mem_cons, List.not_mem_nil, or_false] at h; subst h; simp only; omega
        have HNB := Lib.hid hNB; have HSB := Lib.hid hSB
        have HM0 : Hid (0 + n ≤ maxLen) := Lib.hid (by simp only [maxLen]; omega)
        have HM1 : Hid ((0 + n) * 32 ≤ 140737488355328) := Lib.hid (by omega)
        have HM2 : Hid (n + 1 ≤ maxLen) := Lib.hid hNB
        have HM3 : Hid ((n + 1) * 32 ≤ 140737488355328) := Lib.hid (by omega)
        have HW0 : Hid (w.heap.size ≤ wq.heap.size) := Lib.hid hszq
        have HW1 : Hid (w.heap.size ≤ wq.heap.size + 1) := Lib.hid (by omega)
        have HN0 : Hid (some gq ≠ some wq.heap.size) := Lib.hid (by intro e; injection e with e; omega)
        have HN1 : Hid (some gq ≠ some (wq.heap.size + 1)) := Lib.hid (by intro e; injection e with e; omega)
        have HN2 : Hid (some (wq.heap.size + 1) ≠ some wq.heap.size) := Lib.hid (by intro e; injection e with e; omega)
        have HN3 : Hid (some wq.heap.size ≠ some (wq.heap.size + 1)) := Lib.hid (by intro e; injection e with e; omega)
        have HOC : Hid (∀ u ∈ wac (⟨s, p, (k3 : Int)⟩ : Wa), u.oneCell' = true) := Lib.hid (by intro u hu; simp [wac] at hu; rcases hu with rfl | rfl | rfl <;> rfl)
        clear hK hO hRr hBr hs1 hNB hSB
        go_wp2_with fail
        go_region_held3 (fun w' => w'.cell? ⟨gq, 0, none⟩ = some (.string s) ∧ w'.cell? ⟨gq, 1, none⟩ = some (.int .i64 p) ∧ w'.cell? ⟨gq, 2, none⟩ = some (.int .i64 k3))
          (refine ⟨?_, ?_, ?_⟩ <;> (try refine drew_some ?_) <;> (repeat refine alloc_some ?_ _) <;> assumption)
          (first
            | (refine step_append_any _ rfl _ _ _ rfl wq.heap.size 33 i0 (.agg #[.string ⟨#[]⟩, .int .i64 0, .int .i64 0]) 3 32 Try.underlying29 HI.out HZ0.out HZ1.out HZ2.out rfl (by omega) (.slice (some ⟨wq.heap.size, 0, none⟩) 0 0) 0 [] rfl ?_ wq.heap.size A n c (was l) rfl ?_ (was_oneC l) HM0.out HM1.out ?_ ?_
               · exact own_zero (new_blk wq _ rfl) (Nat.le_refl _)
               · exact (Reads.alloc HRE.out (Nat.le_refl _) _)
               · exact (al1_le wq _ (Nat.le_refl _))
               intro v1 w1 hown1 hg1 hat1
               simp only [Nat.zero_add, List.nil_append] at hown1
               obtain ⟨A1, c1, rfl, _, _, _⟩ := own_form hown1
               have HBa : Hid (Below wq.heap.size wq w1) := Lib.hid (bw1 hg1 (Nat.le_refl _))
               have e0 : w1.cell? ⟨gq, 0, none⟩ = some (.string s) := (HBa.out.cell (p := ⟨gq, 0, none⟩) hgl).trans k0
               have e1 : w1.cell? ⟨gq, 1, none⟩ = some (.int .i64 p) := (HBa.out.cell (p := ⟨gq, 1, none⟩) hgl).trans k1'
               have e2 : w1.cell? ⟨gq, 2, none⟩ = some (.int .i64 k3) := (HBa.out.cell (p := ⟨gq, 2, none⟩) hgl).trans k2''
               have Hown1 := Lib.hid hown1
               clear hg1 hown1 hat1)
            | (refine step_append_any _ rfl _ _ _ rfl wq.heap.size 33 i0 (.agg #[.string ⟨#[]⟩, .int .i64 0, .int .i64 0]) 3 32 Try.underlying29 HI.out HZ0.out HZ1.out HZ2.out rfl (by omega) (.slice (some ⟨wq.heap.size, 0, none⟩) 0 0) 0 [] rfl ?_ wq.heap.size A n c (was l) rfl ?_ (was_oneC l) HM0.out HM1.out ?_ ?_
               · exact own_zero (blk_under wq _ _) (Nat.le_refl _)
               · exact (reads_al2 HRE.out _ _)
               · exact (al2_le wq _ _ (Nat.le_refl _))
               intro v1 w1 hown1 hg1 hat1
               simp only [Nat.zero_add, List.nil_append] at hown1
               obtain ⟨A1, c1, rfl, _, _, _⟩ := own_form hown1
               have HBa : Hid (Below wq.heap.size wq w1) := Lib.hid (bw2 hg1 (Nat.le_refl _))
               have HZB : Hid (Bk w1 (wq.heap.size + 1) 33 #[.string s, .int .i64 p, .int .i64 k3]) := Lib.hid (Bk.grown (Bk.drew (bk_over wq _ 33 #[.string s, .int .i64 p, .int .i64 k3])) hg1 HN2.out)
               have e0 : w1.cell? ⟨gq, 0, none⟩ = some (.string s) := (HBa.out.cell (p := ⟨gq, 0, none⟩) hgl).trans k0
               have e1 : w1.cell? ⟨gq, 1, none⟩ = some (.int .i64 p) := (HBa.out.cell (p := ⟨gq, 1, none⟩) hgl).trans k1'
               have e2 : w1.cell? ⟨gq, 2, none⟩ = some (.int .i64 k3) := (HBa.out.cell (p := ⟨gq, 2, none⟩) hgl).trans k2''
               have Hown1 := Lib.hid hown1
               clear hg1 hown1 hat1)
            | (refine step_append_any _ rfl _ _ _ rfl wq.heap.size 33 i0 (.agg #[.string ⟨#[]⟩, .int .i64 0, .int .i64 0]) 3 32 Try.underlying29 HI.out HZ0.out HZ1.out HZ2.out rfl (by omega) (.slice (some ⟨wq.heap.size + 1, 0, none⟩) 0 0) 0 [] rfl ?_ wq.heap.size A n c (was l) rfl ?_ (was_oneC l) HM0.out HM1.out ?_ ?_
               · exact own_zero (blk_over wq _ _) (Nat.le_succ _)
               · exact (reads_al2 HRE.out _ _)
               · exact (al2_le wq _ _ (Nat.le_refl _))
               intro v1 w1 hown1 hg1 hat1
               simp only [Nat.zero_add, List.nil_append] at hown1
               obtain ⟨A1, c1, rfl, _, _, _⟩ := own_form hown1
               have HBa : Hid (Below wq.heap.size wq w1) := Lib.hid (bw2 hg1 (Nat.le_succ _))
               have HZC : Hid (Bk w1 wq.heap.size 33 #[.string s, .int .i64 p, .int .i64 k3]) := Lib.hid (Bk.grown (Bk.drew ((Bk.new wq 33 #[.string s, .int .i64 p, .int .i64 k3]).alloc _)) hg1 HN3.out)
               have e0 : w1.cell? ⟨gq, 0, none⟩ = some (.string s) := (HBa.out.cell (p := ⟨gq, 0, none⟩) hgl).trans k0
               have e1 : w1.cell? ⟨gq, 1, none⟩ = some (.int .i64 p) := (HBa.out.cell (p := ⟨gq, 1, none⟩) hgl).trans k1'
               have e2 : w1.cell? ⟨gq, 2, none⟩ = some (.int .i64 k3) := (HBa.out.cell (p := ⟨gq, 2, none⟩) hgl).trans k2''
               have Hown1 := Lib.hid hown1
               clear hg1 hown1 hat1)
            | (refine step_append_any _ rfl _ _ _ rfl wq.heap.size 33 i0 (.agg #[.string ⟨#[]⟩, .int .i64 0, .int .i64 0]) 3 32 Try.underlying29 HI.out HZ0.out HZ1.out HZ2.out rfl (by omega) (.slice A1 n c1) n (was l) rfl ?_ (w1.heap.size + 1) (some ⟨w1.heap.size, 0, none⟩) 1 1 (wac (⟨s, p, (k3 : Int)⟩ : Wa)) rfl ?_ HOC.out HM2.out HM3.out ?_ ?_
               · exact (Hown1.out.alloc _)
               · exact (reads_bk' (Bk.new w1 33 #[.string s, .int .i64 p, .int .i64 k3]) rfl (Nat.lt_succ_self _))
               · exact (al1_le w1 _ HBa.out.size)
               intro v2 w2 hown2 hg2 hat2
               obtain ⟨A2, c2, rfl, _, _, _⟩ := own_form hown2
               have HBb : Hid (Below wq.heap.size wq w2) := Lib.hid (bw4 HBa.out HBa.out.size Hown1.out hg2)
               have f0 : w2.cell? ⟨gq, 0, none⟩ = some (.string s) := (HBb.out.cell (p := ⟨gq, 0, none⟩) hgl).trans k0
               have f1 : w2.cell? ⟨gq, 1, none⟩ = some (.int .i64 p) := (HBb.out.cell (p := ⟨gq, 1, none⟩) hgl).trans k1'
               have f2 : w2.cell? ⟨gq, 2, none⟩ = some (.int .i64 k3) := (HBb.out.cell (p := ⟨gq, 2, none⟩) hgl).trans k2''
               have hRB : Rd w2 3 A2 (n + 1) (was (l ++ [(⟨s, p, (k3 : Int)⟩ : Wa)])) := by rw [was_app, was_one]; exact rd_own hown2
               have HRB := Lib.hid hRB
               clear hg2 hown2 hat2 hRB)
            | (refine step_append_any _ rfl _ _ _ rfl wq.heap.size 33 i0 (.agg #[.string ⟨#[]⟩, .int .i64 0, .int .i64 0]) 3 32 Try.underlying29 HI.out HZ0.out HZ1.out HZ2.out rfl (by omega) (.slice A1 n c1) n (was l) rfl ?_ ((wq.heap.size + 1) + 1) (some ⟨(wq.heap.size + 1), 0, none⟩) 1 1 (wac (⟨s, p, (k3 : Int)⟩ : Wa)) rfl ?_ HOC.out HM2.out HM3.out ?_ ?_
               · exact Hown1.out
               · exact (reads_bk' HZB.out rfl (Nat.lt_succ_self _))
               · exact HBa.out.size
               intro v2 w2 hown2 hg2 hat2
               obtain ⟨A2, c2, rfl, _, _, _⟩ := own_form hown2
               have HBb : Hid (Below wq.heap.size wq w2) := Lib.hid (bw3 HBa.out HBa.out.size Hown1.out hg2)
               have f0 : w2.cell? ⟨gq, 0, none⟩ = some (.string s) := (HBb.out.cell (p := ⟨gq, 0, none⟩) hgl).trans k0
               have f1 : w2.cell? ⟨gq, 1, none⟩ = some (.int .i64 p) := (HBb.out.cell (p := ⟨gq, 1, none⟩) hgl).trans k1'
               have f2 : w2.cell? ⟨gq, 2, none⟩ = some (.int .i64 k3) := (HBb.out.cell (p := ⟨gq, 2, none⟩) hgl).trans k2''
               have hRB : Rd w2 3 A2 (n + 1) (was (l ++ [(⟨s, p, (k3 : Int)⟩ : Wa)])) := by rw [was_app, was_one]; exact rd_own hown2
               have HRB := Lib.hid hRB
               clear hg2 hown2 hat2 hRB)
            | (refine step_append_any _ rfl _ _ _ rfl wq.heap.size 33 i0 (.agg #[.string ⟨#[]⟩, .int .i64 0, .int .i64 0]) 3 32 Try.underlying29 HI.out HZ0.out HZ1.out HZ2.out rfl (by omega) (.slice A1 n c1) n (was l) rfl ?_ (wq.heap.size + 1) (some ⟨wq.heap.size, 0, none⟩) 1 1 (wac (⟨s, p, (k3 : Int)⟩ : Wa)) rfl ?_ HOC.out HM2.out HM3.out ?_ ?_
               · exact Hown1.out
               · exact (reads_bk' HZC.out rfl (Nat.lt_succ_self _))
               · exact HBa.out.size
               intro v2 w2 hown2 hg2 hat2
               obtain ⟨A2, c2, rfl, _, _, _⟩ := own_form hown2
               have HBb : Hid (Below wq.heap.size wq w2) := Lib.hid (bw3 HBa.out HBa.out.size Hown1.out hg2)
               have f0 : w2.cell? ⟨gq, 0, none⟩ = some (.string s) := (HBb.out.cell (p := ⟨gq, 0, none⟩) hgl).trans k0
               have f1 : w2.cell? ⟨gq, 1, none⟩ = some (.int .i64 p) := (HBb.out.cell (p := ⟨gq, 1, none⟩) hgl).trans k1'
               have f2 : w2.cell? ⟨gq, 2, none⟩ = some (.int .i64 k3) := (HBb.out.cell (p := ⟨gq, 2, none⟩) hgl).trans k2''
               have hRB : Rd w2 3 A2 (n + 1) (was (l ++ [(⟨s, p, (k3 : Int)⟩ : Wa)])) := by rw [was_app, was_one]; exact rd_own hown2
               have HRB := Lib.hid hRB
               clear hg2 hown2 hat2 hRB)
            | (go_at_call 17
               have hsw := swa_any A2 (n + 1) c2 (l ++ [(⟨s, p, (k3 : Int)⟩ : Wa)]) w2 HRB.out HNB.out HSB.out
               refine Calls.mono hsw ?_
               clear hsw
               rintro e w3 ⟨rfl, hb3⟩
               have HBc : Hid (Below wq.heap.size wq w3) := Lib.hid (belB HBb.out HBb.out.size hb3)
               have d0 : w3.cell? ⟨gq, 0, none⟩ = some (.string s) := (HBc.out.cell (p := ⟨gq, 0, none⟩) hgl).trans k0
               have d1 : w3.cell? ⟨gq, 1, none⟩ = some (.int .i64 p) := (HBc.out.cell (p := ⟨gq, 1, none⟩) hgl).trans k1'
               have d2 : w3.cell? ⟨gq, 2, none⟩ = some (.int .i64 k3) := (HBc.out.cell (p := ⟨gq, 2, none⟩) hgl).trans k2''
               clear hb3))
        all_goals
          have HO3 := Lib.hid (own_below HOq.out HBc.out)
          have HR3 := Lib.hid (rdr_below HRq.out HBc.out HRL.out)
          have HB3 := Lib.hid (grown_trans' HBq.out (grown_of_below HBc.out))
          have hgl3 : gq < w3.heap.size := Nat.lt_of_lt_of_le hgl HBc.out.size
          clear HOq HRq HBq HBc HBb HBa HRE HK k0 k1' k2'' e0 e1 e2 f0 f1 f2 Hown1 HRB HNB HSB HM0 HM1 HN0 HN1 HN2 HN3 HOC
          cases hv : wvA (l ++ [(⟨s, p, (k3 : Int)⟩ : Wa)])
          · go_wp2_with fail
            go_roundw
            case rel => exact ⟨j - 1, n, l, by omega, by go_num, ⟨HO3.out, HS.out, rdr_more HR3.out (by omega), HB3.out⟩⟩
            case measure => simp [intOf]; omega
          · clear hv
            go_wp2_with (first
              | (at_builtin; refine wpList_append1 _ rfl _ _ 29 rfl w.heap.size 33 i0 (.agg #[.string ⟨#[]⟩, .int .i64 0, .int .i64 0]) 3 32 Try.underlying29 HI.out HZ0.out HZ1.out HZ2.out rfl (by decide) [.string s, .int .i64 p, .int .i64 k3] rfl (by intro u hu; simp at hu; rcases hu with rfl | rfl | rfl <;> rfl) _ n (was l) _ _ HO3.out rfl rfl _ rfl rfl HM2.out HM3.out HB3.out.size ?_))
            intro v' w5 ho5 hg5
            have hRne : some R ≠ (Value.slice A n c).ownBlock := own_rdr HO3.out HR3.out (by decide)
            have hRne := own_base HO3.out hRl (Nat.le_refl _)
            have HR5 := Lib.hid (rdr_grown HR3.out hg5 hRne (fun k hk => by have := (HO3.out.lt k hk).1; have := HLW.out; omega))
            have HB5 : Hid (w.grownBy w5 (some R)) := Lib.hid (grown_own HB3.out hg5 HO3.out)
            have HO5 := Lib.hid ho5
            clear ho5 hg5 hRne HO3 HR3 HB3
            go_wp2_with fail
            go_roundw
            case rel => exact ⟨j - 1, n + 1, l ++ [(⟨s, p, (k3 : Int)⟩ : Wa)], by omega, by go_num, ⟨by rw [was_app, was_one]; exact HO5.out, by
              intro z hz
              rcases List.mem_append.1 hz with h | h
              · exact HS.out z h
              · simp only [List.mem_cons, List.not_mem_nil, or_false] at h; subst h; exact HS1.out, rdr_more HR5.out (by omega), HB5.out⟩⟩
            case measure => simp [intOf]; omega
    · obtain rfl : j = 0 := by omega
      have hszr := HB.out.size
      have hRw := rdr_lt HR.out
      have hLR : L ≤ R := by obtain ⟨_, _, _, _, _, _, _, _, _, hh, _⟩ := H.out; exact hh
      go_wp2_with fail
      refine (odd_any _ _ _ _ HR.out (by omega) (by omega)).mono ?_
      rintro e x1 ⟨ob, rfl, _, hx1, hr1⟩
      have HO1 := Lib.hid (own_pick HO.out HR.out (by decide) hx1); have HB1 := Lib.hid (grown_trans' HB.out hx1); have HR1 := Lib.hid hr1
      have hR1 := rdr_lt hr1
      clear hx1 hr1
      cases ob
      · go_wp2_with fail
        go_ret
        exact ⟨_, n, l, rfl, by omega, HO1.out, HS.out, HB1.out, rdr_more HR1.out (by omega)⟩
      · go_wp2_with fail
        refine (pick_any _ _ _ _ (rdr_alloc HR1.out _) (by omega)).mono ?_
        rintro e x2 ⟨k4, rfl, hk4, hx2, hr2⟩
        have hk4' : k4 ≤ 4 := by omega
        have hBk : Bk x2 x1.heap.size 33 #[.string ⟨#[]⟩, .int .i64 0, .int .i64 0, .string ⟨#[122]⟩, .int .i64 9, .int .i64 0, .string ⟨#[122]⟩, .int .i64 1281, .int .i64 0, .string ⟨#[122]⟩, .int .i64 10, .int .i64 (-1), .string ⟨#[65]⟩, .int .i64 10, .int .i64 0] := Bk.grown (Bk.new x1 33 #[.string ⟨#[]⟩, .int .i64 0, .int .i64 0, .string ⟨#[122]⟩, .int .i64 9, .int .i64 0, .string ⟨#[122]⟩, .int .i64 1281, .int .i64 0, .string ⟨#[122]⟩, .int .i64 10, .int .i64 (-1), .string ⟨#[65]⟩, .int .i64 10, .int .i64 0]) hx2 (by intro e; injection e with e; omega)
        have HO2 := Lib.hid (own_pick (HO1.out.alloc _) (rdr_alloc HR1.out _) (by decide) hx2); have HB2 := Lib.hid (grown_trans' (only_alloc HB1.out _) hx2); have HR2 := Lib.hid hr2
        have hBl := hBk.lt
        have HBK := Lib.hid hBk
        clear hx2 hr2 hk4 hBk HO1 HB1 HR1
        have hcases : k4 = 0 ∨ k4 = 1 ∨ k4 = 2 ∨ k4 = 3 ∨ k4 = 4 := by omega
        have HNN : Hid (n + 1 ≤ maxLen) := Lib.hid (by simp only [maxLen]; omega)
        rcases hcases with rfl | rfl | rfl | rfl | rfl
        · have z0 := HBK.out.cell 0 (v := .string ⟨#[]⟩) rfl
          have z1 := HBK.out.cell 1 (v := .int .i64 0) rfl
          have z2 := HBK.out.cell 2 (v := .int .i64 0) rfl
          go_wp2_with (first
            | (at_builtin; refine wpList_append1 _ rfl _ _ 29 rfl w.heap.size 33 i0 (.agg #[.string ⟨#[]⟩, .int .i64 0, .int .i64 0]) 3 32 Try.underlying29 HI.out HZ0.out HZ1.out HZ2.out rfl (by decide) [.string ⟨#[]⟩, .int .i64 0, .int .i64 0] rfl (by intro u hu; simp at hu; rcases hu with rfl | rfl | rfl <;> rfl) _ n (was l) _ _ HO2.out rfl rfl _ rfl rfl HNN.out (by omega) HB2.out.size ?_))
          intro v' w5 ho5 hg5
          have HR5 := Lib.hid (rdr_grown HR2.out hg5 (own_base HO2.out hRl (Nat.le_refl _)) (fun k hk => by have := (HO2.out.lt k hk).1; omega))
          have HB5 : Hid (w.grownBy w5 (some R)) := Lib.hid (grown_own HB2.out hg5 HO2.out)
          have HO5 := Lib.hid ho5
          clear ho5 hg5
          go_wp2_with fail
          go_ret
          exact ⟨_, n + 1, l ++ [(⟨⟨#[]⟩, 0, 0⟩ : Wa)], rfl, by omega, by rw [was_app, was_one]; exact HO5.out, by
            intro z hz
            rcases List.mem_append.1 hz with h | h
            · exact HS.out z h
            · simp only [List.mem_cons, List.not_mem_nil, or_false] at h; subst h; decide, HB5.out, rdr_more HR5.out (by omega)⟩
        · have z0 := HBK.out.cell 3 (v := .string ⟨#[122]⟩) rfl
          have z1 := HBK.out.cell 4 (v := .int .i64 9) rfl
          have z2 := HBK.out.cell 5 (v := .int .i64 0) rfl
          go_wp2_with (first
            | (at_builtin; refine wpList_append1 _ rfl _ _ 29 rfl w.heap.size 33 i0 (.agg #[.string ⟨#[]⟩, .int .i64 0, .int .i64 0]) 3 32 Try.underlying29 HI.out HZ0.out HZ1.out HZ2.out rfl (by decide) [.string ⟨#[122]⟩, .int .i64 9, .int .i64 0] rfl (by intro u hu; simp at hu; rcases hu with rfl | rfl | rfl <;> rfl) _ n (was l) _ _ HO2.out rfl rfl _ rfl rfl HNN.out (by omega) HB2.out.size ?_))
          intro v' w5 ho5 hg5
          have HR5 := Lib.hid (rdr_grown HR2.out hg5 (own_base HO2.out hRl (Nat.le_refl _)) (fun k hk => by have := (HO2.out.lt k hk).1; omega))
          have HB5 : Hid (w.grownBy w5 (some R)) := Lib.hid (grown_own HB2.out hg5 HO2.out)
          have HO5 := Lib.hid ho5
          clear ho5 hg5
          go_wp2_with fail
          go_ret
          exact ⟨_, n + 1, l ++ [(⟨⟨#[122]⟩, 9, 0⟩ : Wa)], rfl, by omega, by rw [was_app, was_one]; exact HO5.out, by
            intro z hz
            rcases List.mem_append.1 hz with h | h
            · exact HS.out z h
            · simp only [List.mem_cons, List.not_mem_nil, or_false] at h; subst h; decide, HB5.out, rdr_more HR5.out (by omega)⟩
        · have z0 := HBK.out.cell 6 (v := .string ⟨#[122]⟩) rfl
          have z1 := HBK.out.cell 7 (v := .int .i64 1281) rfl
          have z2 := HBK.out.cell 8 (v := .int .i64 0) rfl
          go_wp2_with (first
            | (at_builtin; refine wpList_append1 _ rfl _ _ 29 rfl w.heap.size 33 i0 (.agg #[.string ⟨#[]⟩, .int .i64 0, .int .i64 0]) 3 32 Try.underlying29 HI.out HZ0.out HZ1.out HZ2.out rfl (by decide) [.string ⟨#[122]⟩, .int .i64 1281, .int .i64 0] rfl (by intro u hu; simp at hu; rcases hu with rfl | rfl | rfl <;> rfl) _ n (was l) _ _ HO2.out rfl rfl _ rfl rfl HNN.out (by omega) HB2.out.size ?_))
          intro v' w5 ho5 hg5
          have HR5 := Lib.hid (rdr_grown HR2.out hg5 (own_base HO2.out hRl (Nat.le_refl _)) (fun k hk => by have := (HO2.out.lt k hk).1; omega))
          have HB5 : Hid (w.grownBy w5 (some R)) := Lib.hid (grown_own HB2.out hg5 HO2.out)
          have HO5 := Lib.hid ho5
          clear ho5 hg5
          go_wp2_with fail
          go_ret
          exact ⟨_, n + 1, l ++ [(⟨⟨#[122]⟩, 1281, 0⟩ : Wa)], rfl, by omega, by rw [was_app, was_one]; exact HO5.out, by
            intro z hz
            rcases List.mem_append.1 hz with h | h
            · exact HS.out z h
            · simp only [List.mem_cons, List.not_mem_nil, or_false] at h; subst h; decide, HB5.out, rdr_more HR5.out (by omega)⟩
        · have z0 := HBK.out.cell 9 (v := .string ⟨#[122]⟩) rfl
          have z1 := HBK.out.cell 10 (v := .int .i64 10) rfl
          have z2 := HBK.out.cell 11 (v := .int .i64 (-1)) rfl
          go_wp2_with (first
            | (at_builtin; refine wpList_append1 _ rfl _ _ 29 rfl w.heap.size 33 i0 (.agg #[.string ⟨#[]⟩, .int .i64 0, .int .i64 0]) 3 32 Try.underlying29 HI.out HZ0.out HZ1.out HZ2.out rfl (by decide) [.string ⟨#[122]⟩, .int .i64 10, .int .i64 (-1)] rfl (by intro u hu; simp at hu; rcases hu with rfl | rfl | rfl <;> rfl) _ n (was l) _ _ HO2.out rfl rfl _ rfl rfl HNN.out (by omega) HB2.out.size ?_))
          intro v' w5 ho5 hg5
          have HR5 := Lib.hid (rdr_grown HR2.out hg5 (own_base HO2.out hRl (Nat.le_refl _)) (fun k hk => by have := (HO2.out.lt k hk).1; omega))
          have HB5 : Hid (w.grownBy w5 (some R)) := Lib.hid (grown_own HB2.out hg5 HO2.out)
          have HO5 := Lib.hid ho5
          clear ho5 hg5
          go_wp2_with fail
          go_ret
          exact ⟨_, n + 1, l ++ [(⟨⟨#[122]⟩, 10, (-1)⟩ : Wa)], rfl, by omega, by rw [was_app, was_one]; exact HO5.out, by
            intro z hz
            rcases List.mem_append.1 hz with h | h
            · exact HS.out z h
            · simp only [List.mem_cons, List.not_mem_nil, or_false] at h; subst h; decide, HB5.out, rdr_more HR5.out (by omega)⟩
        · have z0 := HBK.out.cell 12 (v := .string ⟨#[65]⟩) rfl
          have z1 := HBK.out.cell 13 (v := .int .i64 10) rfl
          have z2 := HBK.out.cell 14 (v := .int .i64 0) rfl
          go_wp2_with (first
            | (at_builtin; refine wpList_append1 _ rfl _ _ 29 rfl w.heap.size 33 i0 (.agg #[.string ⟨#[]⟩, .int .i64 0, .int .i64 0]) 3 32 Try.underlying29 HI.out HZ0.out HZ1.out HZ2.out rfl (by decide) [.string ⟨#[65]⟩, .int .i64 10, .int .i64 0] rfl (by intro u hu; simp at hu; rcases hu with rfl | rfl | rfl <;> rfl) _ n (was l) _ _ HO2.out rfl rfl _ rfl rfl HNN.out (by omega) HB2.out.size ?_))
          intro v' w5 ho5 hg5
          have HR5 := Lib.hid (rdr_grown HR2.out hg5 (own_base HO2.out hRl (Nat.le_refl _)) (fun k hk => by have := (HO2.out.lt k hk).1; omega))
          have HB5 : Hid (w.grownBy w5 (some R)) := Lib.hid (grown_own HB2.out hg5 HO2.out)
          have HO5 := Lib.hid ho5
          clear ho5 hg5
          go_wp2_with fail
          go_ret
          exact ⟨_, n + 1, l ++ [(⟨⟨#[65]⟩, 10, 0⟩ : Wa)], rfl, by omega, by rw [was_app, was_one]; exact HO5.out, by
            intro z hz
            rcases List.mem_append.1 hz with h | h
            · exact HS.out z h
            · simp only [List.mem_cons, List.not_mem_nil, or_false] at h; subst h; decide, HB5.out, rdr_more HR5.out (by omega)⟩
end Go.Proofs.Yteankmmmkdcaiaa
