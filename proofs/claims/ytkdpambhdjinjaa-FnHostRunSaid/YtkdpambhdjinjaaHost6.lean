/-
  The contract of HostRun of the reference.
-/
import Derived.Test.YtkdpambhdjinjaaHost5
namespace Go.Proofs.Ytkdpambhdjinjaa
open Go.ChangeShapes Go.WideShapes Go.ChangeAt Go.RowKit Go.Joins
set_option linter.unusedVariables false

theorem l1In_q (n lo hi : Int) (w : World) : Calls Try.prog 32 #[.int .i64 n, .int .i64 lo, .int .i64 hi] w fun e w' => e = .returned (.bool (wi n lo hi)) ∧ w' = w :=
  (l1In_any n lo hi w).mono fun _ _ h => ⟨h.1, h.2.symm⟩
structure TT (ts : List Int) (k : Nat) : Prop where
  out : tvTo ts k
theorem tOk_k0 {ts : List Int} {k : Nat} {z : Int} (h : ts[k]? = some z) (hw : wi z 0 1000000 = true) (hk : k = 0) : tOk ts k = true := by subst hk; exact tOk_0 h hw
theorem tOk_p {ts : List Int} {k : Nat} {z y : Int} (h : ts[k]? = some z) (hy : ts[k - 1]? = some y) (hw : wi z 0 1000000 = true) (hk : 0 < k) : tOk ts k = decide (y ≤ z) := by
  obtain ⟨j, rfl⟩ : ∃ j, k = j + 1 := ⟨k - 1, by omega⟩
  exact tOk_s h hy hw

set_option maxRecDepth 100000 in
set_option maxHeartbeats 8000000 in
theorem shr_any (s : ByteArray) (f u : Int) (A B : Option Addr) (n c m d : Nat) (ts : List Int) (gs : List Bool) (w : World) (hs : s.size ≤ maxLen) (h1 : Rd w 1 A n (iv ts)) (h2 : Rd w 1 B m (bvs gs)) (hn : n ≤ 1048576) :
    Calls Try.prog 26 #[sv s f u, .slice A n c, .slice B m d] w fun e w' => e = .returned (.tuple #[sv (hrW s f u ts gs) (hrR s f u ts gs).f (hrR s f u ts gs).u, .int .i64 (hrR s f u ts gs).m]) ∧ Below w.heap.size w w' := by
  have hl1 := rd_ilen h1; have hl2 := rd_blen h2
  have H1 := Lib.hid h1; have H2 := Lib.hid h2; have L1 := Lib.hid hl1; have L2 := Lib.hid hl2; have HN := Lib.hid hn; have HS := Lib.hid hs
  clear h1 h2 hl1 hl2 hs
  have HR0 : Hid (SB ((w.alloc (.cells #[.string s, .int .i64 f, .int .i64 u] 26)).alloc (.cells #[.string ⟨#[]⟩, .int .i64 0, .int .i64 0] 26)) (w.heap.size + 1) ⟨#[]⟩ 0 0) := Lib.hid (SB.new _ _ _ _ (by simp))
  have HH0 : Hid (SB ((w.alloc (.cells #[.string s, .int .i64 f, .int .i64 u] 26)).alloc (.cells #[.string ⟨#[]⟩, .int .i64 0, .int .i64 0] 26)) w.heap.size s f u) := Lib.hid ((SB.new _ _ _ _ rfl).alloc _)
  generalize hz : hrR s f u ts gs = z
  generalize hwd : hrW s f u ts gs = Wd
  have HZZ := Lib.hid hz; have HWD := Lib.hid hwd; clear hz hwd
  go_enter Try.func26, Try.ntmps26
  go_wp2_with fail
  refine (shv_b _ _ _ _ HS.out).mono ?_
  rintro e w1 ⟨rfl, hb1⟩
  have HRB := Lib.hid (HR0.out.below hb1)
  have HH1 := Lib.hid (HH0.out.below hb1)
  have HB : Hid (Below w.heap.size w w1) := Lib.hid ((((Below.refl _ _).alloc (Nat.le_refl _) _).alloc (by simp) _).trans (hb1.mono (by simp; omega)))
  clear hb1
  obtain ⟨⟨r0, r1, r2⟩, p0, p1, p2⟩ := HRB.out.cells
  have hgr := HRB.out.lt
  cases hh : hvB s f u
  · have hno : hrV s f u ts gs = false := hrV_no1 hh
    have HW : Hid (Wd = ⟨#[]⟩) := Lib.hid (by rw [← HWD.out]; exact (hr_no hno).1)
    have HZ : Hid (z = ⟨0, 0, -1⟩) := Lib.hid (by rw [← HZZ.out]; exact (hr_no hno).2)
    clear hno
    go_wp2_with fail
    obtain ⟨⟨q0, q1, q2⟩, _⟩ := (HRB.out.store ⟨#[]⟩ 0 0).cells
    exact bodyPost_ret (v := .tuple #[sv ⟨#[]⟩ 0 0, .int .i64 (-1)]) (by simp [results, Try.results26, go_sem, q0, q1, q2]) rfl ⟨by rw [HW.out, HZ.out], ((HB.out.setCell (by simp) _).setCell (by simp) _).setCell (by simp) _⟩
  · have HH := Lib.hid hh
    by_cases hnm : n = m
    · subst hnm
      by_cases h20 : n ≤ 20
      · clear r0 r1 r2 p0 p1 p2 hgr
        go_wp2_with fail
        go_loopw [8, 9] (fun m i wr => ∃ k : Nat, k ≤ n ∧ i = .int .i64 k ∧ m = .int .i64 (hrS s f u ts gs k).m ∧ SB wr w.heap.size s (hrS s f u ts gs k).f (hrS s f u ts gs k).u ∧ SB wr (w.heap.size + 1) ⟨#[]⟩ 0 0 ∧ TT ts k ∧ Below w.heap.size w wr)
          (fun _ i _ => n - (intOf i).toNat)
        case atStart => exact ⟨0, Nat.zero_le _, rfl, rfl, HH1.out, HRB.out, ⟨tvTo_0 _⟩, HB.out⟩
        case round =>
          clear HRB HB
          obtain ⟨k, hk, rfl, rfl, hsb, hrb, htt, hb⟩ := hrel
          have hmb := hrS_m s f u ts gs k
          by_cases hlt : k < n
          · obtain ⟨b, off, t, rfl, hbl, hz, hc⟩ := H1.out.iv hlt
            obtain ⟨b2, off2, gv, rfl, hbl2, hgz, hc2⟩ := H2.out.bv hlt
            have hc' := (hb.cell (p := ⟨b, off + k, none⟩) hbl).trans hc
            have HST : Hid (∀ gv, gs[k]? = some gv → hrS s f u ts gs (k + 1) = hrStep s (hrS s f u ts gs k) t gv) := Lib.hid (fun gv hg => by rw [hrS, getD_of hz, getB_of hg])
            have HC := Lib.hid hc; have HC2 := Lib.hid hc2; have HTZ := Lib.hid hz; have HG := Lib.hid hgz; have HTT := Lib.hid htt.out
            clear hz hgz hc hc2 htt
            generalize hp : hrS s f u ts gs k = p at *
            obtain ⟨pf, pu, pm⟩ := p
            have HP := Lib.hid hp; clear hp
            simp only at hmb hsb
            obtain ⟨hm0, hm1⟩ := hmb
            have HS0 := Lib.hid hsb; have HRB := Lib.hid hrb; have HB := Lib.hid hb
            clear hsb hrb hb
            cases hw : wi t 0 1000000
            · have hno : hrV s f u ts gs = false := hrV_no3 (tvB_bad (by rw [L1.out]; exact hlt) (tOk_bad1 HTZ.out hw)).symm
              have HW : Hid (Wd = ⟨#[]⟩) := Lib.hid (by rw [← HWD.out]; exact (hr_no hno).1)
              have HZ : Hid (z = ⟨0, 0, -1⟩) := Lib.hid (by rw [← HZZ.out]; exact (hr_no hno).2)
              clear hno
              go_wp2_with fail
              go_quiet ((go_at_call 32; exact Calls.quiet_of_same (l1In_q _ _ _ _)))
              have HR1 : Hid (SB (wr.drewN nq) (w.heap.size + 1) ⟨#[]⟩ 0 0) := HRB.out
              have HB1 : Hid (Below w.heap.size w (wr.drewN nq)) := bdN HB.out nq
              generalize wr.drewN nq = wq at *
              obtain ⟨⟨r0, r1, r2⟩, p0, p1, p2⟩ := HR1.out.cells
              have hgr := HR1.out.lt
              go_wp2_with fail
              obtain ⟨⟨q0, q1, q2⟩, _⟩ := (HR1.out.store ⟨#[]⟩ 0 0).cells
              exact bodyPost_ret (v := .tuple #[sv ⟨#[]⟩ 0 0, .int .i64 (-1)]) (by simp [results, Try.results26, go_sem, q0, q1, q2]) rfl ⟨by rw [HW.out, HZ.out], ((HB1.out.setCell (by simp) _).setCell (by simp) _).setCell (by simp) _⟩
            · by_cases hk0 : k = 0
              · have hd0 : decide (0 < k) = false := by simp; omega
                have HK0 := Lib.hid hk0; clear hk0
                have HTO : Hid (tOk ts k = true) := Lib.hid (tOk_k0 HTZ.out hw HK0.out)
                go_wp2_with fail
                go_quiet ((go_at_call 32; exact Calls.quiet_of_same (l1In_q _ _ _ _)))
                have HS1 : Hid (SB (wr.drewN nq) w.heap.size s pf pu) := HS0.out
                have HR1 : Hid (SB (wr.drewN nq) (w.heap.size + 1) ⟨#[]⟩ 0 0) := HRB.out
                have HB1 : Hid (Below w.heap.size w (wr.drewN nq)) := bdN HB.out nq
                have hc1 : (wr.drewN nq).cell? ⟨b, off + k, none⟩ = some (.int .i64 t) := hc'
                generalize wr.drewN nq = wq at *
                clear HS0 HRB HB hc'
                obtain ⟨⟨g0, g1, g2⟩, f0, f1, f2⟩ := HS1.out.cells
                have hgl := HS1.out.lt
                go_wp2_with fail
                go_still_tail 5, (by kernel_rfl)
                change wpList _ _ _ _ _ wq.drew
                go_wp2_with fail
                refine (smt_b _ _ _ _ _ HS.out).mono ?_
                rintro e w2 ⟨rfl, hb2⟩
                have hb2 := beld hb2
                have HS2 := Lib.hid (HS1.out.below hb2); have HR2 := Lib.hid (HR1.out.below hb2); have HB2 := Lib.hid (belB HB1.out HB1.out.size hb2)
                clear hb2 g0 g1 g2 f0 f1 f2 hgl hc1
                obtain ⟨⟨g0, g1, g2⟩, f0, f1, f2⟩ := HS2.out.cells
                have hgl := HS2.out.lt
                cases hmt : mtB s pf pu t
                · have HE : Hid (hrS s f u ts gs (k + 1) = ⟨pf, pu, pm⟩) := Lib.hid (by rw [HST.out gv HG.out, hrStep, if_neg (by simp [hmt])])
                  go_wp2_with fail
                  go_roundw
                  case rel => exact ⟨k + 1, by omega, by go_num, by rw [HE.out], by rw [HE.out]; exact HS2.out, HR2.out, ⟨tvTo_succ HTT.out HTO.out⟩, HB2.out⟩
                  case measure => simp [intOf]; omega
                · have HE : Hid (hrS s f u ts gs (k + 1) = ⟨stF pf gv, stU pf t gv, pm + 1⟩) := Lib.hid (by rw [HST.out gv HG.out, hrStep, if_pos hmt])
                  have HSV : Hid (stV s pf pu t = true) := Lib.hid (by rw [stV, mt_hv hmt, hw]; rfl)
                  have hc1 := (HB2.out.cell (p := ⟨b, off + k, none⟩) hbl).trans HC.out
                  have hc2' := (HB2.out.cell (p := ⟨b2, off2 + k, none⟩) hbl2).trans HC2.out
                  generalize hya : stF pf gv = ya at *
                  generalize hyb : stU pf t gv = yb at *
                  have HYA := Lib.hid hya; have HYB := Lib.hid hyb; clear hya hyb
                  go_wp2_with fail
                  go_still_tail 9, (by kernel_rfl)
                  change wpList _ _ _ _ _ w2.drew
                  go_wp2_with fail
                  refine (sst_b _ _ _ _ _ _ HS.out HSV.out).mono ?_
                  rw [HYA.out, HYB.out]
                  rintro e w3 ⟨rfl, hb3⟩
                  have hb3 := beld hb3
                  have HS3 := Lib.hid (HS2.out.below hb3); have HR3 := Lib.hid (HR2.out.below hb3); have HB3 := Lib.hid (belB HB2.out HB2.out.size hb3)
                  clear hb3 g0 g1 g2 f0 f1 f2 hgl
                  obtain ⟨⟨g0, g1, g2⟩, f0, f1, f2⟩ := HS3.out.cells
                  have hgl := HS3.out.lt
                  go_wp2_with fail
                  go_roundw
                  case rel => exact ⟨k + 1, by omega, by go_num, by rw [HE.out], by rw [HE.out]; exact HS3.out.store _ _ _, ((HR3.out.far (by simp) _).far (by simp) _).far (by simp) _, ⟨tvTo_succ HTT.out HTO.out⟩, ((HB3.out.setCell (by simp) _).setCell (by simp) _).setCell (by simp) _⟩
                  case measure => simp [intOf]; omega
              · have hd0 : decide (0 < k) = true := by simp; omega
                have hk1 : 0 < k := by omega
                obtain ⟨b', off', y, e', hbl', hy, hcy⟩ := H1.out.iv (show k - 1 < n by omega)
                injection e' with e'; injection e' with e1 e2
                subst e1; subst e2
                have hcy' := (HB.out.cell (p := ⟨b, off + (k - 1), none⟩) hbl).trans hcy
                have HY := Lib.hid hy; clear hy hcy
                have j1 : (0 : Int) ≤ (k : Int) - 1 := by omega
                have j2 : ((k : Int) - 1).toNat = k - 1 := by omega
                have j3 : (k : Int) - 1 < (n : Int) := by omega
                by_cases hyz : t < y
                · have hdd : decide (t < y) = true := by simpa using hyz
                  have hno : hrV s f u ts gs = false := hrV_no3 (tvB_bad (by rw [L1.out]; exact hlt) (by rw [tOk_p HTZ.out HY.out hw hk1]; simp; omega)).symm
                  have HW : Hid (Wd = ⟨#[]⟩) := Lib.hid (by rw [← HWD.out]; exact (hr_no hno).1)
                  have HZ : Hid (z = ⟨0, 0, -1⟩) := Lib.hid (by rw [← HZZ.out]; exact (hr_no hno).2)
                  clear hno
                  go_wp2_with fail
                  go_quiet ((go_at_call 32; exact Calls.quiet_of_same (l1In_q _ _ _ _)))
                  have HR1 : Hid (SB (wr.drewN nq) (w.heap.size + 1) ⟨#[]⟩ 0 0) := HRB.out
                  have HB1 : Hid (Below w.heap.size w (wr.drewN nq)) := bdN HB.out nq
                  generalize wr.drewN nq = wq at *
                  obtain ⟨⟨r0, r1, r2⟩, p0, p1, p2⟩ := HR1.out.cells
                  have hgr := HR1.out.lt
                  go_wp2_with fail
                  obtain ⟨⟨q0, q1, q2⟩, _⟩ := (HR1.out.store ⟨#[]⟩ 0 0).cells
                  exact bodyPost_ret (v := .tuple #[sv ⟨#[]⟩ 0 0, .int .i64 (-1)]) (by simp [results, Try.results26, go_sem, q0, q1, q2]) rfl ⟨by rw [HW.out, HZ.out], ((HB1.out.setCell (by simp) _).setCell (by simp) _).setCell (by simp) _⟩
                · have hdd : decide (t < y) = false := by simpa using hyz
                  have HYZ : Hid (y ≤ t) := Lib.hid (by omega)
                  have HTO : Hid (tOk ts k = true) := Lib.hid (by rw [tOk_p HTZ.out HY.out hw hk1]; simpa using HYZ.out)
                  go_wp2_with fail
                  go_quiet ((go_at_call 32; exact Calls.quiet_of_same (l1In_q _ _ _ _)))
                  have HS1 : Hid (SB (wr.drewN nq) w.heap.size s pf pu) := HS0.out
                  have HR1 : Hid (SB (wr.drewN nq) (w.heap.size + 1) ⟨#[]⟩ 0 0) := HRB.out
                  have HB1 : Hid (Below w.heap.size w (wr.drewN nq)) := bdN HB.out nq
                  have hc1 : (wr.drewN nq).cell? ⟨b, off + k, none⟩ = some (.int .i64 t) := hc'
                  generalize wr.drewN nq = wq at *
                  clear HS0 HRB HB hc'
                  obtain ⟨⟨g0, g1, g2⟩, f0, f1, f2⟩ := HS1.out.cells
                  have hgl := HS1.out.lt
                  go_wp2_with fail
                  go_still_tail 5, (by kernel_rfl)
                  change wpList _ _ _ _ _ wq.drew
                  go_wp2_with fail
                  refine (smt_b _ _ _ _ _ HS.out).mono ?_
                  rintro e w2 ⟨rfl, hb2⟩
                  have hb2 := beld hb2
                  have HS2 := Lib.hid (HS1.out.below hb2); have HR2 := Lib.hid (HR1.out.below hb2); have HB2 := Lib.hid (belB HB1.out HB1.out.size hb2)
                  clear hb2 g0 g1 g2 f0 f1 f2 hgl hc1
                  obtain ⟨⟨g0, g1, g2⟩, f0, f1, f2⟩ := HS2.out.cells
                  have hgl := HS2.out.lt
                  cases hmt : mtB s pf pu t
                  · have HE : Hid (hrS s f u ts gs (k + 1) = ⟨pf, pu, pm⟩) := Lib.hid (by rw [HST.out gv HG.out, hrStep, if_neg (by simp [hmt])])
                    go_wp2_with fail
                    go_roundw
                    case rel => exact ⟨k + 1, by omega, by go_num, by rw [HE.out], by rw [HE.out]; exact HS2.out, HR2.out, ⟨tvTo_succ HTT.out HTO.out⟩, HB2.out⟩
                    case measure => simp [intOf]; omega
                  · have HE : Hid (hrS s f u ts gs (k + 1) = ⟨stF pf gv, stU pf t gv, pm + 1⟩) := Lib.hid (by rw [HST.out gv HG.out, hrStep, if_pos hmt])
                    have HSV : Hid (stV s pf pu t = true) := Lib.hid (by rw [stV, mt_hv hmt, hw]; rfl)
                    have hc1 := (HB2.out.cell (p := ⟨b, off + k, none⟩) hbl).trans HC.out
                    have hc2' := (HB2.out.cell (p := ⟨b2, off2 + k, none⟩) hbl2).trans HC2.out
                    generalize hya : stF pf gv = ya at *
                    generalize hyb : stU pf t gv = yb at *
                    have HYA := Lib.hid hya; have HYB := Lib.hid hyb; clear hya hyb
                    go_wp2_with fail
                    go_still_tail 9, (by kernel_rfl)
                    change wpList _ _ _ _ _ w2.drew
                    go_wp2_with fail
                    refine (sst_b _ _ _ _ _ _ HS.out HSV.out).mono ?_
                    rw [HYA.out, HYB.out]
                    rintro e w3 ⟨rfl, hb3⟩
                    have hb3 := beld hb3
                    have HS3 := Lib.hid (HS2.out.below hb3); have HR3 := Lib.hid (HR2.out.below hb3); have HB3 := Lib.hid (belB HB2.out HB2.out.size hb3)
                    clear hb3 g0 g1 g2 f0 f1 f2 hgl
                    obtain ⟨⟨g0, g1, g2⟩, f0, f1, f2⟩ := HS3.out.cells
                    have hgl := HS3.out.lt
                    go_wp2_with fail
                    go_roundw
                    case rel => exact ⟨k + 1, by omega, by go_num, by rw [HE.out], by rw [HE.out]; exact HS3.out.store _ _ _, ((HR3.out.far (by simp) _).far (by simp) _).far (by simp) _, ⟨tvTo_succ HTT.out HTO.out⟩, ((HB3.out.setCell (by simp) _).setCell (by simp) _).setCell (by simp) _⟩
                    case measure => simp [intOf]; omega
          · obtain rfl : k = n := by omega
            have hyes : hrV s f u ts gs = true := hrV_yes HH.out (by rw [L1.out, L2.out]) (tvB_iff.2 ⟨by rw [L1.out]; exact h20, by rw [L1.out]; exact htt.out⟩)
            have HW : Hid (Wd = s) := Lib.hid (by rw [← HWD.out]; exact (hr_yes hyes).1)
            have e : hrS s f u ts gs k = z := by rw [← HZZ.out, (hr_yes hyes).2, L1.out]
            have HE := Lib.hid e
            rw [e] at hsb hmb
            clear e hyes
            obtain ⟨zf, zu, zm⟩ := z
            simp only at hsb hmb
            obtain ⟨⟨g0, g1, g2⟩, f0, f1, f2⟩ := hsb.cells
            obtain ⟨⟨r0, r1, r2⟩, p0, p1, p2⟩ := hrb.cells
            have hgl := hsb.lt; have hgr := hrb.lt
            have HB := Lib.hid hb
            have HRB := Lib.hid hrb
            rw [HE.out]
            clear hsb hrb hb
            go_wp2_with fail
            obtain ⟨⟨q0, q1, q2⟩, _⟩ := (HRB.out.store s zf zu).cells
            exact bodyPost_ret (v := .tuple #[sv s zf zu, .int .i64 zm]) (by simp [results, Try.results26, go_sem, q0, q1, q2]) rfl ⟨by rw [HW.out], ((HB.out.setCell (by simp) _).setCell (by simp) _).setCell (by simp) _⟩
      · have hno : hrV s f u ts gs = false := hrV_no3 (tvB_long (by rw [L1.out]; omega)).symm
        have HW : Hid (Wd = ⟨#[]⟩) := Lib.hid (by rw [← HWD.out]; exact (hr_no hno).1)
        have HZ : Hid (z = ⟨0, 0, -1⟩) := Lib.hid (by rw [← HZZ.out]; exact (hr_no hno).2)
        clear hno
        have hd20 : decide ((20 : Int) < (n : Int)) = true := by simp; omega
        go_wp2_with fail
        obtain ⟨⟨q0, q1, q2⟩, _⟩ := (HRB.out.store ⟨#[]⟩ 0 0).cells
        exact bodyPost_ret (v := .tuple #[sv ⟨#[]⟩ 0 0, .int .i64 (-1)]) (by simp [results, Try.results26, go_sem, q0, q1, q2]) rfl ⟨by rw [HW.out, HZ.out], ((HB.out.setCell (by simp) _).setCell (by simp) _).setCell (by simp) _⟩
    · have hnm' : ((n : Int) != (m : Int)) = true := by simp; omega
      have hno : hrV s f u ts gs = false := hrV_no2 (by rw [L1.out, L2.out]; exact hnm)
      have HW : Hid (Wd = ⟨#[]⟩) := Lib.hid (by rw [← HWD.out]; exact (hr_no hno).1)
      have HZ : Hid (z = ⟨0, 0, -1⟩) := Lib.hid (by rw [← HZZ.out]; exact (hr_no hno).2)
      clear hno
      clear hnm
      go_wp2_with fail
      obtain ⟨⟨q0, q1, q2⟩, _⟩ := (HRB.out.store ⟨#[]⟩ 0 0).cells
      exact bodyPost_ret (v := .tuple #[sv ⟨#[]⟩ 0 0, .int .i64 (-1)]) (by simp [results, Try.results26, go_sem, q0, q1, q2]) rfl ⟨by rw [HW.out, HZ.out], ((HB.out.setCell (by simp) _).setCell (by simp) _).setCell (by simp) _⟩
end Go.Proofs.Ytkdpambhdjinjaa
