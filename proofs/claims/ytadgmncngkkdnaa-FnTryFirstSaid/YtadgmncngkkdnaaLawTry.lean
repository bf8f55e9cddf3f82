/-
  The walk of the law of TryFirst.
-/
import Derived.Test.YtadgmncngkkdnaaDrawTry
import Derived.Test.YtadgmncngkkdnaaTryPlain
namespace Go.Proofs.Ytadgmncngkkdnaa
open Go.ChangeShapes Go.WideShapes Go.ChangeAt Go.RowKit Go.Joins
set_option linter.unusedVariables false

theorem sm_max2 {l : List De} (h : deB l = true) : ∀ z ∈ l, z.b.size ≤ maxLen := by
  intro z hz
  obtain ⟨k, hk⟩ := List.mem_iff_getElem?.1 hz
  have := wvB_size (deB_ok h hk).2.2.1
  simp only [maxLen]; omega
set_option maxRecDepth 100000 in
set_option maxHeartbeats 8000000 in
theorem walkTryFirst (a : Option Addr) (len cap : Nat) (zs : List Int) (w : World) (h : IsCode w a len cap zs) :
    Calls Try.prog 5 #[.slice a len cap] w fun e w' => e = .returned (.bool true) ∧ Below w.heap.size w w' := by
  obtain ⟨hl, hm⟩ := code_len h
  unfold maxLen at hm
  have H := Lib.hid h; clear h
  by_cases hb : (1048576 : Int) < (len : Int)
  · go_enter Try.func5, Try.ntmps5
    go_wp2
    go_ret
    exact ⟨rfl, Below.refl _ _⟩
  · go_enter Try.func5, Try.ntmps5
    go_wp2_with fail
    refine (dtry_any _ _ _ _ _ _ H.out (Below.refl _ _)).mono ?_
    rintro e x1 ⟨v, n, l, now, arr, rfl, hn, ho, hs, hb1⟩
    obtain ⟨A, c, rfl, hnc, hcm, _⟩ := own_form ho
    have HLL := Lib.hid (rd_delen (rd_own ho))
    have HO1 := Lib.hid ho; have HS := Lib.hid hs; have HB1 := Lib.hid hb1; have HNC := Lib.hid hnc; have HCM := Lib.hid hcm
    clear ho hs hb1 hnc hcm
    have hrl := tfR_len l now arr
    rw [HLL.out] at hrl
    generalize htf : tfR l now arr = RR at hrl
    obtain ⟨R, rn⟩ := RR
    have HTF := Lib.hid htf; clear htf
    simp only at hrl
    go_wp2_with fail
    refine (itf_any A n c l now arr x1 (rd_own HO1.out) (by omega) HNC.out HCM.out (sm_max HS.out)).mono ?_
    rw [HTF.out]
    rintro e x2 ⟨v2, rfl, ho2, hb2⟩
    simp only at ho2
    obtain ⟨A2, c2, rfl, hnc2, hcm2, _⟩ := own_form ho2
    have HNC2 := Lib.hid hnc2; have HCM2 := Lib.hid hcm2
    have HX2 := Lib.hid ho2; have HO2 := Lib.hid (own_below HO1.out hb2); have HB2 := Lib.hid (belB HB1.out HB1.out.size hb2)
    clear ho2 hb2 hnc2 hcm2
    go_wp2_with fail
    refine (stf_any A n c l now arr x2 (rd_own HO2.out) (by omega) HNC.out HCM.out (sm_max HS.out)).mono ?_
    rw [HTF.out]
    rintro e x3 ⟨A3, m3, c3, rfl, hq, hm3, _, _, hb3⟩
    simp only at hq hm3
    subst hm3
    have HX3 := Lib.hid (own_below HX2.out hb3); have HO3 := Lib.hid (own_below HO2.out hb3); have HB3 := Lib.hid (belB HB2.out HB2.out.size hb3); have HY3 := Lib.hid hq
    clear hq hb3
    go_wp2_with fail
    refine (sd_same A2 A3 R.length c2 c3 R x3 (rd_own HX3.out) HY3.out (by omega)).mono ?_
    rintro e x4 ⟨rfl, hb4⟩
    have HX4 := Lib.hid (own_below HX3.out hb4); have HO4 := Lib.hid (own_below HO3.out hb4); have HB4 := Lib.hid (belB HB3.out HB3.out.size hb4)
    clear hb4 HX2 HX3 HO1 HO2 HO3 HB1 HB2 HB3 HY3
    rcases try_cases HTF.out with ⟨hrn, hR⟩ | ⟨z, l', hT⟩
    · subst hrn
      by_cases hln : R.length = n
      · have hRl : R = l := by
          rcases hR with h1 | h1
          · subst h1
            have h0 : l.length = 0 := by rw [HLL.out, ← hln]; rfl
            exact (List.eq_nil_of_length_eq_zero h0).symm
          · exact h1
        have HRL := Lib.hid hRl
        clear hRl hR
        subst hln
        go_wp2_with fail
        refine (sd_same A2 A R.length c2 c R x4 (rd_own HX4.out) (by have := rd_own HO4.out; rw [← HRL.out] at this; exact this) (by omega)).mono ?_
        rintro e x5 ⟨rfl, hb5⟩
        have HB5 := Lib.hid (belB HB4.out HB4.out.size hb5)
        clear hb5
        go_wp2_with fail
        refine (alive_any _).mono ?_
        rintro e w' ⟨rfl, rfl⟩
        go_wp2_with fail
        go_ret
        exact ⟨rfl, HB5.out⟩
      · have hR0 : R.length = 0 := by
          rcases hR with h1 | h1
          · rw [h1]; rfl
          · rw [h1, HLL.out] at hln; exact absurd rfl hln
        have HX5 := Lib.hid HX4.out
        clear hR
        have hR0' : ((R.length : Int) == 0) = true := by simp [hR0]
        go_wp2_with fail
        refine (sd_diff A2 A 0 n c2 c x4 (by omega) (by omega) (by omega)).mono ?_
        rintro e x5 ⟨rfl, hb5⟩
        have HB5 := Lib.hid (belB HB4.out HB4.out.size hb5)
        clear hb5
        go_wp2_with (go_at_call 12; refine (alive_any _).mono ?_; rintro e w' ⟨rfl, rfl⟩)
        go_ret
        exact ⟨rfl, HB5.out⟩
    · obtain ⟨hform, hval, hwait, hmuch⟩ := hT
      subst hform
      have HVAL := Lib.hid hval; have HWAIT := Lib.hid hwait; have HMUCH := Lib.hid hmuch
      have hrn0 : 0 ≤ rn := by rcases hmuch with ⟨h1, _⟩ | ⟨h1, _⟩ | ⟨h1, _⟩ <;> omega
      have hnp : 0 < n := by have := HLL.out; simp at this; omega
      have hn0 : ((n : Int) == 0) = false := by simp; omega
      have hR10 := deB_len hval
      clear hval hwait hmuch
      obtain ⟨g, rfl, hgb, hgl⟩ := own_at HO4.out hnp
      have l0 : x4.cell? ⟨g, 0, none⟩ = some (.int .i64 z.a) := (HO4.out.cellAt 0 (by omega)).trans ((des_get (l := z :: l') (k := 0) rfl 0 (by omega)).trans rfl)
      have l1 : x4.cell? ⟨g, 1, none⟩ = some (.string z.b) := (HO4.out.cellAt 1 (by omega)).trans ((des_get (l := z :: l') (k := 0) rfl 1 (by omega)).trans rfl)
      have l2 : x4.cell? ⟨g, 2, none⟩ = some (.int .i64 z.c) := (HO4.out.cellAt 2 (by omega)).trans ((des_get (l := z :: l') (k := 0) rfl 2 (by omega)).trans rfl)
      clear hgb
      go_wp2_with fail
      go_loopw [10, 11] (fun m i wr => ∃ k : Nat, k ≤ R.length ∧ i = .int .i64 k ∧ m = .int .i64 (tw R z k : Nat) ∧ ∃ q, x4.drewN q = wr) (fun _ i _ => R.length - (intOf i).toNat)
      case atStart => exact ⟨0, Nat.zero_le _, rfl, by rw [tw_0]; rfl, 0, rfl⟩
      case round =>
        obtain ⟨k, hk, rfl, rfl, q, rfl⟩ := hrel
        have htk := tw_le R z k
        by_cases hlt : k < R.length
        · obtain ⟨b2, off2, y, e2, hbl2, hy, hd0, hd1, hd2, hd3⟩ := (rd_own HX4.out).de hlt
          subst e2
          have HY := Lib.hid hy; clear hy
          obtain ⟨v1, v2, v3, v4, v5, v6, v7⟩ := deB_ok HVAL.out HY.out
          have HV3 := Lib.hid v3; clear v3
          cases s0 : (y.a == z.a)
          · have HT1 := Lib.hid (tw_no HY.out (z := z) (by simp [deSm, s0]))
            generalize htw : tw R z k = t at *
            have HTW := Lib.hid htw; clear htw
            go_wp2
            go_quiet (fail)
            go_wp2
            go_roundw
            case rel => first | exact ⟨k + 1, by omega, by go_num, by rw [HT1.out], _, rfl⟩ | ((repeat apply Exists.intro); exact ⟨⟨k + 1, by omega, by go_num, by rw [HT1.out], _, rfl⟩, rfl⟩)
            case measure => simp [intOf]; omega
          · cases s1 : (y.b.toList == z.b.toList)
            · have HT1 := Lib.hid (tw_no HY.out (z := z) (by simp [deSm, s1]))
              generalize htw : tw R z k = t at *
              have HTW := Lib.hid htw; clear htw
              go_wp2
              go_quiet (fail)
              go_wp2
              go_roundw
              case rel => first | exact ⟨k + 1, by omega, by go_num, by rw [HT1.out], _, rfl⟩ | ((repeat apply Exists.intro); exact ⟨⟨k + 1, by omega, by go_num, by rw [HT1.out], _, rfl⟩, rfl⟩)
              case measure => simp [intOf]; omega
            · have hsm : deSm y z = true := by simp only [deSm, s0, s1]; rfl
              have HT1 := Lib.hid (tw_yes HY.out hsm)
              obtain ⟨hw1, hw2⟩ := HWAIT.out k y HY.out hsm
              rw [hw1] at hd2
              have hzc1 : 0 ≤ z.c + 1 := by omega
              have hzc2 : z.c + 1 ≤ 5 := by omega
              have hw2' : decide (y.d ≤ now) = false := by simp; omega
              have HW1 := Lib.hid hw1
              generalize htw : tw R z k = t at *
              have HTW := Lib.hid htw; clear htw hsm hw1
              go_wp2
              go_quiet (fail)
              go_wp2
              go_quiet (fail)
              go_wp2
              go_roundw
              case rel => first | exact ⟨k + 1, by omega, by go_num, by rw [HT1.out]; go_num, _, rfl⟩ | ((repeat apply Exists.intro); exact ⟨⟨k + 1, by omega, by go_num, by rw [HT1.out]; go_num, _, rfl⟩, rfl⟩)
              case measure => simp [intOf]; omega
        · obtain rfl : k = R.length := by omega
          have HBQ := Lib.hid (bdN HB4.out q)
          have HXQ := Lib.hid (show Rd (x4.drewN q) 4 A2 R.length (des R) from rd_own HX4.out)
          rcases HMUCH.out with ⟨rfl, rfl, ht, hlen⟩ | ⟨rfl, rfl, ht, hlen, hz5⟩ | ⟨rfl, rfl, ht, hlen⟩
          · rw [ht]
            have hlq : ((R.length : Int) == (n : Int) - 1) = true := by have := HLL.out; simp at this ⊢; simp at hlen; omega
            clear hlen ht htk
            go_wp2_with fail
            refine (ide_any A2 R.length c2 R _ HXQ.out HNC2.out HCM2.out (sm_max2 HVAL.out)).mono ?_
            rw [HVAL.out]
            rintro e x5 ⟨rfl, hb5⟩
            have HB5 := Lib.hid (belB HBQ.out (by exact HBQ.out.size) hb5)
            clear hb5
            go_wp2_with fail
            go_ret
            exact ⟨rfl, HB5.out⟩
          · rw [ht]
            have hlq : ((R.length : Int) == (n : Int) - 1) = true := by have := HLL.out; simp at this ⊢; simp at hlen; omega
            have HZ5 := Lib.hid hz5
            clear hlen ht htk hz5
            go_wp2_with fail
            refine (ide_any A2 R.length c2 R _ HXQ.out HNC2.out HCM2.out (sm_max2 HVAL.out)).mono ?_
            rw [HVAL.out]
            rintro e x5 ⟨rfl, hb5⟩
            have HB5 := Lib.hid (belB HBQ.out (by exact HBQ.out.size) hb5)
            have l2' := (hb5.cell (p := ⟨g, 2, none⟩) hgl).trans l2
            have hz5' : (z.c == 5) = true := by simp [HZ5.out]
            clear hb5 l0 l1 l2
            go_wp2_with fail
            go_ret
            exact ⟨rfl, HB5.out⟩
          · rw [ht]
            have hlq : ((R.length : Int) == (n : Int) - 1 + 1) = true := by have := HLL.out; simp at this ⊢; simp at hlen; omega
            have hlq2 : ((R.length : Int) == (n : Int)) = true := by have := HLL.out; simp at this ⊢; simp at hlen; omega
            clear hlen ht htk
            go_wp2_with fail
            refine (ide_any A2 R.length c2 R _ HXQ.out HNC2.out HCM2.out (sm_max2 HVAL.out)).mono ?_
            rw [HVAL.out]
            rintro e x5 ⟨rfl, hb5⟩
            have HB5 := Lib.hid (belB HBQ.out (by exact HBQ.out.size) hb5)
            clear hb5
            go_wp2_with fail
            go_ret
            exact ⟨rfl, HB5.out⟩
end Go.Proofs.Ytadgmncngkkdnaa
