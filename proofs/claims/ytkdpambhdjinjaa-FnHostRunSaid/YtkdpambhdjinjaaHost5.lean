/-
  The contract of the program's HostRun.
-/
import Derived.Test.YtkdpambhdjinjaaHost4
namespace Go.Proofs.Ytkdpambhdjinjaa
open Go.ChangeShapes Go.WideShapes Go.ChangeAt Go.RowKit Go.Joins
set_option linter.unusedVariables false

set_option maxRecDepth 100000 in
set_option maxHeartbeats 4000000 in
theorem ihr_yes (s : ByteArray) (f u : Int) (A B : Option Addr) (n c m d : Nat) (ts : List Int) (gs : List Bool) (w : World) (hs : s.size ≤ maxLen) (h1 : Rd w 1 A n (iv ts)) (h2 : Rd w 1 B m (bvs gs)) (hn : n ≤ 1048576) (hv : hrV s f u ts gs = true) :
    Calls Try.prog 25 #[sv s f u, .slice A n c, .slice B m d] w fun e w' => e = .returned (.tuple #[sv s (hrS s f u ts gs n).f (hrS s f u ts gs n).u, .int .i64 (hrS s f u ts gs n).m]) ∧ Below w.heap.size w w' := by
  have hl1 := rd_ilen h1; have hl2 := rd_blen h2
  have hv0 := hv
  simp only [hrV, Bool.and_eq_true, beq_iff_eq] at hv0
  obtain ⟨⟨hh, hnm⟩, ht⟩ := hv0
  rw [hl1, hl2] at hnm
  subst hnm
  have htv := (tvB_iff.1 ht).2
  have hn20 := (tvB_iff.1 ht).1
  rw [hl1] at htv hn20
  have H1 := Lib.hid h1; have H2 := Lib.hid h2; have L1 := Lib.hid hl1; have L2 := Lib.hid hl2; have HN := Lib.hid hn; have HS := Lib.hid hs; have HV := Lib.hid hv; have HT := Lib.hid ht; have HTV := Lib.hid htv
  clear h1 h2 hl1 hl2 hn hs hv ht htv
  have HR0 : Hid (SB ((w.alloc (.cells #[.string s, .int .i64 f, .int .i64 u] 26)).alloc (.cells #[.string ⟨#[]⟩, .int .i64 0, .int .i64 0] 26)) (w.heap.size + 1) ⟨#[]⟩ 0 0) := Lib.hid (SB.new _ _ _ _ (by simp))
  have HH0 : Hid (SB ((w.alloc (.cells #[.string s, .int .i64 f, .int .i64 u] 26)).alloc (.cells #[.string ⟨#[]⟩, .int .i64 0, .int .i64 0] 26)) w.heap.size s f u) := Lib.hid ((SB.new _ _ _ _ rfl).alloc _)
  generalize hz : hrS s f u ts gs n = z
  have HZ := Lib.hid hz; clear hz
  go_enter Try.func25, Try.ntmps25
  go_wp2_with fail
  refine (ihv_b _ _ _ _ HS.out).mono ?_
  rintro e w1 ⟨rfl, hb1⟩
  have HR1 := Lib.hid (HR0.out.below hb1)
  have HH1 := Lib.hid (HH0.out.below hb1)
  have HB1 : Hid (Below w.heap.size w w1) := Lib.hid ((((Below.refl _ _).alloc (Nat.le_refl _) _).alloc (by simp) _).trans (hb1.mono (by simp; omega)))
  clear hb1
  go_wp2_with (go_at_call 39; refine (itv_any _ _ _ _ _ ((H1.out.below HB1.out)) HN.out).mono ?_; rw [HT.out]; rintro e w' ⟨rfl, rfl⟩)
  go_loopw [8, 29] (fun m i wr => ∃ k : Nat, k ≤ n ∧ i = .int .i64 k ∧ m = .int .i64 (hrS s f u ts gs k).m ∧ SB wr w.heap.size s (hrS s f u ts gs k).f (hrS s f u ts gs k).u ∧ SB wr (w.heap.size + 1) ⟨#[]⟩ 0 0 ∧ Below w.heap.size w wr)
    (fun _ i _ => n - (intOf i).toNat)
  case atStart => exact ⟨0, Nat.zero_le _, rfl, rfl, HH1.out, HR1.out, HB1.out⟩
  case round =>
    obtain ⟨k, hk, rfl, rfl, hsb, hrb, hb⟩ := hrel
    have hmb := hrS_m s f u ts gs k
    by_cases hlt : k < n
    · obtain ⟨b, off, t, rfl, hbl, hz, hc⟩ := H1.out.iv hlt
      obtain ⟨b2, off2, g, rfl, hbl2, hgz, hc2⟩ := H2.out.bv hlt
      have hc' := (hb.cell (p := ⟨b, off + k, none⟩) hbl).trans hc
      have hc2' := (hb.cell (p := ⟨b2, off2 + k, none⟩) hbl2).trans hc2
      have hstep : hrS s f u ts gs (k + 1) = hrStep s (hrS s f u ts gs k) t g := by rw [hrS, getD_of hz, getB_of hgz]
      have htw := tOk_wi (HTV.out k hlt) hz
      have HST := Lib.hid hstep; have HTW := Lib.hid htw; have HC2 := Lib.hid hc2
      clear hstep htw hz hgz hc hc2
      generalize hp : hrS s f u ts gs k = p at *
      obtain ⟨pf, pu, pm⟩ := p
      have HP := Lib.hid hp; clear hp
      simp only at hmb hsb
      obtain ⟨hm0, hm1⟩ := hmb
      have HS0 := Lib.hid hsb; have HRB := Lib.hid hrb; have HB := Lib.hid hb
      obtain ⟨⟨g0, g1, g2⟩, f0, f1, f2⟩ := hsb.cells
      have hgl := hsb.lt
      clear hsb hrb hb
      go_wp2_with fail
      refine (imt_b _ _ _ _ _ HS.out).mono ?_
      rintro e w2 ⟨rfl, hb2⟩
      have HS2 := Lib.hid (HS0.out.below hb2); have HR2 := Lib.hid (HRB.out.below hb2); have HB2 := Lib.hid (belB HB.out HB.out.size hb2)
      clear hb2 g0 g1 g2 f0 f1 f2 hgl hc' hc2'
      obtain ⟨⟨g0, g1, g2⟩, f0, f1, f2⟩ := HS2.out.cells
      have hgl := HS2.out.lt
      cases hmt : mtB s pf pu t
      · have HE : Hid (hrS s f u ts gs (k + 1) = ⟨pf, pu, pm⟩) := Lib.hid (by rw [HST.out, hrStep, if_neg (by simp [hmt])])
        go_wp2_with fail
        go_roundw
        case rel => exact ⟨k + 1, by omega, by go_num, by rw [HE.out], by rw [HE.out]; exact HS2.out, HR2.out, HB2.out⟩
        case measure => simp [intOf]; omega
      · have HE : Hid (hrS s f u ts gs (k + 1) = ⟨stF pf g, stU pf t g, pm + 1⟩) := Lib.hid (by rw [HST.out, hrStep, if_pos hmt])
        have HSV : Hid (stV s pf pu t = true) := Lib.hid (by rw [stV, mt_hv hmt, HTW.out]; rfl)
        have hc2' : w2.cell? ⟨b2, off2 + k, none⟩ = some (.bool g) := (HB2.out.cell (p := ⟨b2, off2 + k, none⟩) hbl2).trans HC2.out
        generalize hya : stF pf g = ya at *
        generalize hyb : stU pf t g = yb at *
        have HYA := Lib.hid hya; have HYB := Lib.hid hyb; clear hya hyb
        go_wp2_with fail
        go_still_tail 6, (by kernel_rfl)
        change wpList _ _ _ _ _ w2.drew
        go_wp2_with fail
        refine (ist_b _ _ _ _ _ _ HS.out HSV.out).mono ?_
        rw [HYA.out, HYB.out]
        rintro e w3 ⟨rfl, hb3⟩
        have hb3 := beld hb3
        have HS3 := Lib.hid (HS2.out.below hb3); have HR3 := Lib.hid (HR2.out.below hb3); have HB3 := Lib.hid (belB HB2.out HB2.out.size hb3)
        clear hb3 g0 g1 g2 f0 f1 f2 hgl
        obtain ⟨⟨g0, g1, g2⟩, f0, f1, f2⟩ := HS3.out.cells
        have hgl := HS3.out.lt
        go_wp2_with fail
        go_roundw
        case rel => exact ⟨k + 1, by omega, by go_num, by rw [HE.out], by rw [HE.out]; exact HS3.out.store _ _ _, ((HR3.out.far (by simp) _).far (by simp) _).far (by simp) _, ((HB3.out.setCell (by simp) _).setCell (by simp) _).setCell (by simp) _⟩
        case measure => simp [intOf]; omega
    · obtain rfl : k = n := by omega
      have e := HZ.out
      have HE := Lib.hid e
      rw [e] at hsb hmb
      clear e
      obtain ⟨zf, zu, zm⟩ := z
      simp only at hsb hmb
      obtain ⟨⟨g0, g1, g2⟩, f0, f1, f2⟩ := hsb.cells
      obtain ⟨⟨r0, r1, r2⟩, p0, p1, p2⟩ := hrb.cells
      have hgl := hsb.lt; have hgr := hrb.lt
      have HB := Lib.hid hb
      have HRB := Lib.hid hrb
      rw [HE.out]
      clear hsb hrb hb
      go_wp2_with fail
      obtain ⟨⟨q0, q1, q2⟩, _⟩ := (HRB.out.store s zf zu).cells
      exact bodyPost_ret (v := .tuple #[sv s zf zu, .int .i64 zm]) (by simp [results, Try.results25, go_sem, q0, q1, q2]) rfl ⟨rfl, ((HB.out.setCell (by simp) _).setCell (by simp) _).setCell (by simp) _⟩
theorem ihr_any (s : ByteArray) (f u : Int) (A B : Option Addr) (n c m d : Nat) (ts : List Int) (gs : List Bool) (w : World) (hs : s.size ≤ maxLen) (h1 : Rd w 1 A n (iv ts)) (h2 : Rd w 1 B m (bvs gs)) (hn : n ≤ 1048576) :
    Calls Try.prog 25 #[sv s f u, .slice A n c, .slice B m d] w fun e w' => e = .returned (.tuple #[sv (hrW s f u ts gs) (hrR s f u ts gs).f (hrR s f u ts gs).u, .int .i64 (hrR s f u ts gs).m]) ∧ Below w.heap.size w w' := by
  cases hv : hrV s f u ts gs
  · rw [(hr_no hv).1, (hr_no hv).2]; exact ihr_no s f u A B n c m d ts gs w hs h1 h2 hn hv
  · rw [(hr_yes hv).1, (hr_yes hv).2, rd_ilen h1]; exact ihr_yes s f u A B n c m d ts gs w hs h1 h2 hn hv
end Go.Proofs.Ytkdpambhdjinjaa
