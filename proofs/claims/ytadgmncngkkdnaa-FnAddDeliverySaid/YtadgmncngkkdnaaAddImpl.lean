/-
  The contract of AddDelivery of the program.
-/
import Derived.Test.YtadgmncngkkdnaaAddWalk
namespace Go.Proofs.Ytadgmncngkkdnaa
open Go.ChangeShapes Go.WideShapes Go.ChangeAt Go.RowKit Go.Joins
set_option linter.unusedVariables false

set_option maxRecDepth 100000 in
set_option maxHeartbeats 4000000 in
theorem iad_any (A : Option Addr) (n c : Nat) (l : List De) (d : De) (w : World) (h : Rd w 4 A n (des l)) (hn : n ≤ 1048576) (hnc : n ≤ c) (hc : c ≤ maxLen) (hs : ∀ z ∈ l, z.b.size ≤ maxLen) (hd : d.b.size ≤ maxLen) :
    Calls Try.prog 9 #[.slice A n c, dev d] w fun e w' => ∃ v, e = .returned (.tuple #[v, .bool (adB l d)]) ∧ w'.ownsRow w.heap.size 25 4 v (adL l d).length (des (adL l d)) ∧ Below w.heap.size w w' := by
  have hll := rd_delen h
  have H := Lib.hid h; have HLL := Lib.hid hll; have HS := Lib.hid hs; have HNC := Lib.hid hnc; have HC := Lib.hid hc; have HN := Lib.hid hn; have HD := Lib.hid hd
  clear h hll hs hnc hc hd
  generalize hr : adL l d = R
  generalize hbr : adB l d = bR
  have HR := Lib.hid hr; have HBR := Lib.hid hbr; clear hr hbr
  obtain ⟨da, db, dc, dd⟩ := d
  cases hv : deB l
  · have HE : Hid (R = [] ∧ bR = false) := Lib.hid (by rw [← HR.out, ← HBR.out]; exact adL_bad hv)
    have HV := Lib.hid hv; clear hv
    go_enter Try.func9, Try.ntmps9
    go_wp2_with fail
    refine (ide_any _ _ _ _ _ (H.out.alloc _) HNC.out HC.out HS.out).mono ?_
    rw [HV.out]
    rintro e w1 ⟨rfl, hb1⟩
    have HB1 := Lib.hid (bela hb1); clear hb1
    go_wp2_with fail
    go_ret2
    exact ⟨_, by rw [HE.out.2]; rfl, by rw [HE.out.1]; exact World.ownsRow_nil _ _ _ _, HB1.out⟩
  · have HV := Lib.hid hv; clear hv
    go_enter Try.func9, Try.ntmps9
    go_wp2_with fail
    refine (ide_any _ _ _ _ _ (H.out.alloc _) HNC.out HC.out HS.out).mono ?_
    rw [HV.out]
    rintro e w1 ⟨rfl, hb1⟩
    have HK1 : Hid (Bk w1 w.heap.size 25 #[.int .i64 da, .string db, .int .i64 dc, .int .i64 dd]) := Lib.hid ((Bk.new w _ _).keep hb1)
    have HB1 := Lib.hid (bela hb1); clear hb1
    have k0 := HK1.out.cell 0 (v := .int .i64 da) rfl
    have k1 := HK1.out.cell 1 (v := .string db) rfl
    have k2 := HK1.out.cell 2 (v := .int .i64 dc) rfl
    have k3 := HK1.out.cell 3 (v := .int .i64 dd) rfl
    have hkl := HK1.out.lt
    go_wp2_with fail
    go_loopw [6] (fun i wr => ∃ k : Nat, k ≤ n ∧ i = .int .i64 k ∧ AdL l ⟨da, db, dc, dd⟩ k ∧ ∃ q, w1.drewN q = wr) (fun i _ => n - (intOf i).toNat)
    case atStart => exact ⟨0, Nat.zero_le _, rfl, AdL_0 _ _, 0, rfl⟩
    case round =>
      obtain ⟨k, hk, rfl, hal, q, rfl⟩ := hrel
      have HAL := Lib.hid hal; clear hal
      have hout : ∀ (hkN : k = adN l ⟨da, db, dc, dd⟩), True := fun _ => trivial
      clear hout
      by_cases hlt : k < n
      · obtain ⟨b, off, z, rfl, hbl, hz, hc0, hc1, hc2, hc3⟩ := (H.out.below HB1.out).de hlt
        have HZ := Lib.hid hz; clear hz hc0 hc1 hc2
        have hl1 : decide ((k : Int) < (n : Int)) = true := by simpa using hlt
        by_cases hle : z.d ≤ dd
        · go_wp2
          go_quiet (fail)
          go_wp2
          go_roundw
          case rel => exact ⟨k + 1, by omega, by go_num, AdL_succ HAL.out HZ.out hle, _, rfl⟩
          case measure => simp [intOf]; omega
        · have HKN : Hid (k = adN l ⟨da, db, dc, dd⟩) := Lib.hid (ad_at (by rw [HLL.out]; exact hk) HAL.out (fun z' hz' => by rw [HZ.out] at hz'; injection hz' with hz'; subst hz'; simp only; omega))
          go_wp2
          go_quiet (fail)
          go_wp2_with fail
          refine (wat_any _ _ _ _ l ⟨da, db, dc, dd⟩ _ (H.out.below (bdN HB1.out _)) HN.out HNC.out HC.out hk).mono ?_
          rintro e w2 ⟨v, rfl, ho, hb2⟩
          obtain ⟨A2, c2, rfl, hnc2, hcm2, _⟩ := own_form ho
          have HB2 := Lib.hid (belB (bdN HB1.out _) (by have := HB1.out.size; exact this) hb2)
          have HO2 := Lib.hid (own_less ho (show w.heap.size ≤ _ from HB1.out.size))
          have HNC2 := Lib.hid hnc2; have HC2 := Lib.hid hcm2
          have HM : Hid (l.take k ++ [(⟨da, db, dc, dd⟩ : De)] ++ l.drop k = adM l ⟨da, db, dc, dd⟩) := Lib.hid (by unfold adM; rw [← HKN.out])
          clear ho hb2 hnc2 hcm2
          rw [HM.out] at HO2
          go_wp2_with fail
          refine (ide_any _ _ _ (adM l ⟨da, db, dc, dd⟩) _ (rd_own HO2.out) HNC2.out HC2.out (adM_small HS.out HD.out)).mono ?_
          cases hv2 : deB (adM l ⟨da, db, dc, dd⟩)
          · rintro e w3 ⟨rfl, hb3⟩
            have HE : Hid (R = l ∧ bR = false) := Lib.hid (by rw [← HR.out, ← HBR.out]; exact adL_no HV.out hv2)
            have HB3 := Lib.hid (belB HB2.out HB2.out.size hb3)
            clear hb3 hv2
            go_wp2_with fail
            refine (cpd_any _ _ _ l _ (H.out.below HB3.out) HN.out).mono ?_
            rintro e w4 ⟨v4, rfl, ho4, hb4⟩
            have HB4 := Lib.hid (belB HB3.out HB3.out.size hb4)
            have HO4 := Lib.hid (own_less ho4 HB3.out.size)
            clear hb4 ho4
            go_wp2_with fail
            go_ret2
            exact ⟨_, by rw [HE.out.2]; rfl, by rw [HE.out.1, HLL.out]; exact HO4.out, HB4.out⟩
          · rintro e w3 ⟨rfl, hb3⟩
            have HE : Hid (R = adM l ⟨da, db, dc, dd⟩ ∧ bR = true) := Lib.hid (by rw [← HR.out, ← HBR.out]; exact adL_yes HV.out hv2)
            have HB3 := Lib.hid (belB HB2.out HB2.out.size hb3)
            have HO3 := Lib.hid (own_below HO2.out hb3)
            clear hb3 hv2
            go_wp2_with fail
            go_ret2
            exact ⟨_, by rw [HE.out.2]; rfl, by rw [HE.out.1, adM_len, HLL.out]; exact HO3.out, HB3.out⟩
      · obtain rfl : k = n := by omega
        have HKN : Hid (k = adN l ⟨da, db, dc, dd⟩) := Lib.hid (ad_at (by rw [HLL.out]; exact Nat.le_refl _) HAL.out (fun z' hz' => by have := get_lt hz'; have := HLL.out; omega))
        have hl1 : decide ((k : Int) < (k : Int)) = false := by simp
        go_wp2
        go_quiet (fail)
        go_wp2_with fail
        refine (wat_any _ _ _ _ l ⟨da, db, dc, dd⟩ _ (H.out.below (bdN HB1.out _)) HN.out HNC.out HC.out hk).mono ?_
        rintro e w2 ⟨v, rfl, ho, hb2⟩
        obtain ⟨A2, c2, rfl, hnc2, hcm2, _⟩ := own_form ho
        have HB2 := Lib.hid (belB (bdN HB1.out _) (by have := HB1.out.size; exact this) hb2)
        have HO2 := Lib.hid (own_less ho (show w.heap.size ≤ _ from HB1.out.size))
        have HNC2 := Lib.hid hnc2; have HC2 := Lib.hid hcm2
        have HM : Hid (l.take k ++ [(⟨da, db, dc, dd⟩ : De)] ++ l.drop k = adM l ⟨da, db, dc, dd⟩) := Lib.hid (by unfold adM; rw [← HKN.out])
        clear ho hb2 hnc2 hcm2
        rw [HM.out] at HO2
        go_wp2_with fail
        refine (ide_any _ _ _ (adM l ⟨da, db, dc, dd⟩) _ (rd_own HO2.out) HNC2.out HC2.out (adM_small HS.out HD.out)).mono ?_
        cases hv2 : deB (adM l ⟨da, db, dc, dd⟩)
        · rintro e w3 ⟨rfl, hb3⟩
          have HE : Hid (R = l ∧ bR = false) := Lib.hid (by rw [← HR.out, ← HBR.out]; exact adL_no HV.out hv2)
          have HB3 := Lib.hid (belB HB2.out HB2.out.size hb3)
          clear hb3 hv2
          go_wp2_with fail
          refine (cpd_any _ _ _ l _ (H.out.below HB3.out) HN.out).mono ?_
          rintro e w4 ⟨v4, rfl, ho4, hb4⟩
          have HB4 := Lib.hid (belB HB3.out HB3.out.size hb4)
          have HO4 := Lib.hid (own_less ho4 HB3.out.size)
          clear hb4 ho4
          go_wp2_with fail
          go_ret2
          exact ⟨_, by rw [HE.out.2]; rfl, by rw [HE.out.1, HLL.out]; exact HO4.out, HB4.out⟩
        · rintro e w3 ⟨rfl, hb3⟩
          have HE : Hid (R = adM l ⟨da, db, dc, dd⟩ ∧ bR = true) := Lib.hid (by rw [← HR.out, ← HBR.out]; exact adL_yes HV.out hv2)
          have HB3 := Lib.hid (belB HB2.out HB2.out.size hb3)
          have HO3 := Lib.hid (own_below HO2.out hb3)
          clear hb3 hv2
          go_wp2_with fail
          go_ret2
          exact ⟨_, by rw [HE.out.2]; rfl, by rw [HE.out.1, adM_len, HLL.out]; exact HO3.out, HB3.out⟩
end Go.Proofs.Ytadgmncngkkdnaa
