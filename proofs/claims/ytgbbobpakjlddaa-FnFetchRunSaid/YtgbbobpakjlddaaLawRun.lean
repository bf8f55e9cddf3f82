/-
  The walk of the law of FetchRun.
-/
import Derived.Test.YtgbbobpakjlddaaDrawRun
import Derived.Test.YtgbbobpakjlddaaRun2
import Derived.Test.YtgbbobpakjlddaaWord
namespace Go.Proofs.Ytgbbobpakjlddaa
open Go.ChangeShapes Go.WideShapes Go.ChangeAt Go.RowKit Go.Joins
set_option linter.unusedVariables false

theorem frV_parts {ts ds : List Int} {long : Int} (h : frV ts ds long = true) : ts.length = ds.length ∧ tvB ts = true ∧ wi long 0 1000000 = true ∧ dTo ds ts.length := by
  unfold frV at h
  simp only [Bool.and_eq_true, beq_iff_eq, List.all_eq_true, List.mem_range] at h
  exact ⟨h.1.1.1, h.1.1.2, h.1.2, fun j hj => h.2 j hj⟩
theorem frV_of {ts ds : List Int} {long : Int} {m : Nat} (h : (frR ts ds long).length = m) (hm : 0 < m) : frV ts ds long = true := by
  cases hv : frV ts ds long
  · unfold frR at h; rw [hv] at h; simp at h; omega
  · rfl
theorem frV_zero {ts ds : List Int} {long : Int} (h : frV ts ds long = true) : frV ts ds 0 = true := by
  obtain ⟨h1, h2, h3, h4⟩ := frV_parts h
  have : (List.range ts.length).all (dOk ds) = true := by rw [List.all_eq_true]; intro j hj; exact h4 j (List.mem_range.1 hj)
  rw [frV, this, h2, h1, show wi 0 0 1000000 = true by decide +kernel]; simp
theorem tOk_nd {ts : List Int} {k : Nat} (h : tOk ts (k + 1) = true) : ts.getD k 0 ≤ ts.getD (k + 1) 0 := by
  unfold tOk at h
  simp only [Bool.and_eq_true, Bool.or_eq_true, beq_iff_eq, decide_eq_true_eq, Nat.add_sub_cancel] at h
  omega
theorem tOk_w {ts : List Int} {k : Nat} (h : tOk ts k = true) : wi (ts.getD k 0) 0 1000000 = true := by
  unfold tOk at h; simp only [Bool.and_eq_true] at h; exact h.1
/-- With a time of 0 what is kept is the last digest, until its own time. -/
theorem fr0 {ts ds : List Int} {n : Nat} (ht : tvTo ts n) (hd : dTo ds n) : ∀ k, k ≤ n → (k = 0 ∧ frK ts ds 0 k = (-1, 0)) ∨ (0 < k ∧ frK ts ds 0 k = (ds.getD (k - 1) 0, ts.getD (k - 1) 0)) := by
  intro k
  induction k with
  | zero => intro _; exact .inl ⟨rfl, rfl⟩
  | succ k ih =>
    intro hk
    refine .inr ⟨by omega, ?_⟩
    have hne : fc (frK ts ds 0 k).1 (frK ts ds 0 k).2 (ts.getD k 0) (ds.getD k 0) ≠ 0 := by
      have hV : fcV (frK ts ds 0 k).1 (frK ts ds 0 k).2 (ds.getD k 0) = true := by
        rw [fcV, frK_ok]; exact hd k (by omega)
      unfold fc
      rw [if_pos hV]
      have hno : ¬ (0 ≤ (frK ts ds 0 k).1 ∧ ts.getD k 0 < (frK ts ds 0 k).2) := by
        rcases ih (by omega) with ⟨_, e⟩ | ⟨h0, e⟩
        · rw [e]; simp
        · rw [e]
          obtain ⟨j, rfl⟩ : ∃ j, k = j + 1 := ⟨k - 1, by omega⟩
          have := tOk_nd (ht (j + 1) (by omega))
          simp only [Nat.add_sub_cancel]
          omega
      rw [if_neg hno]
      split <;> omega
    have hkf : kfV (frK ts ds 0 k).1 (frK ts ds 0 k).2 (ts.getD k 0) (ds.getD k 0) 0 = true := by
      have h1 : fcV (frK ts ds 0 k).1 (frK ts ds 0 k).2 (ds.getD k 0) = true := by rw [fcV, frK_ok]; exact hd k (by omega)
      rw [kfV, h1, tOk_w (ht k (by omega))]; decide +kernel
    have h1 := (kf_1 hkf hne).1
    have h2 := (kf_1 hkf hne).2
    rw [frK, ← h1, ← h2]
    simp
theorem fr0_ne {ts ds : List Int} {n k : Nat} (ht : tvTo ts n) (hd : dTo ds n) (hk : k < n) : frC ts ds 0 k ≠ 0 := by
  have hV : fcV (frK ts ds 0 k).1 (frK ts ds 0 k).2 (ds.getD k 0) = true := by
    rw [fcV, frK_ok]; exact hd k hk
  unfold frC fc
  rw [if_pos hV]
  have hno : ¬ (0 ≤ (frK ts ds 0 k).1 ∧ ts.getD k 0 < (frK ts ds 0 k).2) := by
    rcases fr0 ht hd k (by omega) with ⟨_, e⟩ | ⟨h0, e⟩
    · rw [e]; simp
    · rw [e]
      obtain ⟨j, rfl⟩ : ∃ j, k = j + 1 := ⟨k - 1, by omega⟩
      have := tOk_nd (ht (j + 1) hk)
      simp only [Nat.add_sub_cancel]
      omega
  rw [if_neg hno]
  split <;> omega
theorem fr_first {ts ds : List Int} {long : Int} (hd : dOk ds 0 = true) : frC ts ds long 0 = 200 := by
  unfold frC dOk at *
  show fc (-1) 0 _ _ = 200
  refine fc_200 (by rw [fcV, hd]; decide +kernel) (.inl (by omega)) ?_
  have := (wi_iff.1 hd).1
  omega

set_option maxRecDepth 100000 in
set_option maxHeartbeats 4000000 in
theorem walkFetchRun (a : Option Addr) (len cap : Nat) (zs : List Int) (w : World) (h : IsCode w a len cap zs) :
    Calls Try.prog 10 #[.slice a len cap] w fun e w' => e = .returned (.bool true) ∧ Below w.heap.size w w' := by
  obtain ⟨hl, hm⟩ := code_len h
  unfold maxLen at hm
  have H := Lib.hid h; clear h
  by_cases hb : (1048576 : Int) < (len : Int)
  · go_enter Try.func10, Try.ntmps10
    go_wp2
    go_ret
    exact ⟨rfl, Below.refl _ _⟩
  · go_enter Try.func10, Try.ntmps10
    go_wp2_with fail
    refine (dfrun_any _ _ _ _ _ _ H.out (Below.refl _ _)).mono ?_
    rintro e x1 ⟨v1, v2, long, n, m, ts, ds, rfl, hn, hm2, ho1, ho2, hb1⟩
    obtain ⟨A1, c1, rfl, _, _, _⟩ := own_form ho1
    obtain ⟨A2, c2, rfl, _, _, _⟩ := own_form ho2
    have R1 := Lib.hid ho1; have R2 := Lib.hid ho2; have HB1 := Lib.hid hb1
    have hn' : n ≤ 1048576 := by omega
    have hm' : m ≤ 1048576 := by omega
    have HN := Lib.hid hn'; have HM := Lib.hid hm'
    have hlen := own_len ho1
    rw [iv_len, Nat.mul_one] at hlen
    have HLEN := Lib.hid hlen
    clear ho1 ho2 hb1 hlen
    generalize hr : frR ts ds long = R
    generalize hr0 : frR ts ds 0 = R0
    have hRn : R.length ≤ n := by
      rw [← hr, ← HLEN.out]
      unfold frR; split
      · rw [frL_len]; exact Nat.le_refl _
      · simp
    have HR := Lib.hid hr; have HR0 := Lib.hid hr0
    clear hr hr0
    generalize hrn : R.length = r at *
    have HRN := Lib.hid hrn; clear hrn
    go_wp2_with fail
    refine (ifr_any _ _ _ _ _ _ _ _ long _ (rd_own R1.out) (rd_own R2.out) HN.out HM.out).mono ?_
    rw [HR.out, HRN.out]
    rintro e x2 ⟨v, rfl, ho, hb2⟩
    obtain ⟨Ax, cx, rfl, _, _, _⟩ := own_form ho
    have RX := Lib.hid ho; have R12 := Lib.hid (own_below R1.out hb2); have R22 := Lib.hid (own_below R2.out hb2); have HB2 := Lib.hid (belB HB1.out HB1.out.size hb2)
    clear ho hb2 R1 R2 HB1
    go_wp2_with fail
    refine (sfr_any _ _ _ _ _ _ _ _ long _ (rd_own R12.out) (rd_own R22.out) HN.out HM.out).mono ?_
    rw [HR.out, HRN.out]
    rintro e x3 ⟨v, rfl, ho, hb3⟩
    obtain ⟨As, cs, rfl, _, _, _⟩ := own_form ho
    have RS := Lib.hid ho; have R13 := Lib.hid (own_below R12.out hb3); have R23 := Lib.hid (own_below R22.out hb3); have RX3 := Lib.hid (own_below RX.out hb3); have HB3 := Lib.hid (belB HB2.out HB2.out.size hb3)
    clear ho hb3 R12 R22 RX HB2
    go_wp2_with fail
    refine (eqM_same _ _ _ _ _ _ _ (rd_own RX3.out) (rd_own RS.out) (by omega)).mono ?_
    rintro e x4 ⟨rfl, q, hw⟩
    have hb4 := belq hw
    clear hw
    have R14 := Lib.hid (own_below R13.out hb4); have R24 := Lib.hid (own_below R23.out hb4); have RX4 := Lib.hid (own_below RX3.out hb4); have HB4 := Lib.hid (belB HB3.out HB3.out.size hb4)
    clear hb4 R13 R23 RX3 HB3 RS
    by_cases hr0 : r = 0
    · have hr0' : ((r : Int) == 0) = true := by simp [hr0]
      have HR00 := Lib.hid hr0; clear hr0
      go_wp2_with fail
      refine (alive_any _).mono ?_
      rintro e x5 ⟨rfl, rfl⟩
      go_wp2_with fail
      go_ret
      exact ⟨rfl, HB4.out⟩
    · have hr0' : ((r : Int) == 0) = false := by simp [hr0]
      have hv : frV ts ds long = true := frV_of (m := r) (by rw [HR.out, HRN.out]) (by omega)
      obtain ⟨p1, p2, p3, p4⟩ := frV_parts hv
      have p5 := frV_zero hv
      have hR : R = frL ts ds long n := by rw [← HR.out, frR_yes p1 p2 p3 p4, HLEN.out]
      have hR0 : R0 = frL ts ds 0 n := by rw [← HR0.out, frR_yes p1 p2 (by decide +kernel) p4, HLEN.out]
      have hrn : r = n := by rw [← HRN.out, hR, frL_len]
      rw [HLEN.out] at p4
      have htv := (tvB_iff.1 p2).2
      rw [HLEN.out] at htv
      subst hrn
      have hx0 : R[0]? = some 200 := by
        rw [hR]
        simp only [frL, List.getElem?_map, List.getElem?_range (show 0 < r by omega), Option.map_some]
        rw [fr_first (p4 0 (by omega))]
      have hx1 : ∀ k z, k < r → R0[k]? = some z → z ≠ 0 := fun k z hk hz => by
        rw [hR0] at hz
        simp only [frL, List.getElem?_map, List.getElem?_range hk, Option.map_some] at hz
        injection hz with hz
        rw [← hz]
        exact fr0_ne htv p4 hk
      have hR0n : R0.length = r := by rw [hR0, frL_len]
      have HX0 := Lib.hid hx0; have HX1 := Lib.hid hx1; have HR0N := Lib.hid hR0n
      clear hx0 hx1 hR hR0 p1 p2 p3 p4 p5 htv hv hR0n
      have hrp : 0 < r := by omega
      clear hr0
      go_wp2_with fail
      refine (ifr_any _ _ _ _ _ _ _ _ 0 _ (rd_own R14.out) (rd_own R24.out) HN.out HM.out).mono ?_
      rw [HR0.out, HR0N.out]
      rintro e x5 ⟨v, rfl, ho, hb5⟩
      obtain ⟨Ay, cy, rfl, _, _, _⟩ := own_form ho
      have RY := Lib.hid ho; have RX5 := Lib.hid (own_below RX4.out hb5); have HB5 := Lib.hid (belB HB4.out HB4.out.size hb5)
      clear ho hb5 R14 R24 RX4 HB4
      obtain ⟨bx, offx, zx, rfl, hbx, hzx, hcx⟩ := (rd_own RX5.out).iv hrp
      obtain rfl : zx = 200 := by rw [HX0.out] at hzx; injection hzx with hzx; exact hzx.symm
      have hcx0 : x5.cell? ⟨bx, offx, none⟩ = some (.int .i64 200) := hcx
      clear hzx hcx
      have HCX := Lib.hid hcx0; clear hcx0
      go_wp2_with fail
      go_loop [8] (fun i => ∃ k : Nat, k ≤ r ∧ i = .int .i64 k) (fun i => r - (intOf i).toNat)
      case atStart => exact ⟨0, Nat.zero_le _, rfl⟩
      case round =>
        obtain ⟨k, hk, rfl⟩ := hrel
        by_cases hlt : k < r
        · obtain ⟨b, off, z, rfl, hbl, hz, hc⟩ := (rd_own RY.out).iv hlt
          have hz0 := HX1.out k z hlt hz
          have hz1 : (z == 0) = false := by simpa using hz0
          clear hz0 hz
          go_wp2_with fail
          go_round
          case rel => exact ⟨k + 1, by omega, by go_num⟩
          case measure => simp [intOf]; omega
        · obtain rfl : k = r := by omega
          have hcx0 := HCX.out
          go_wp2_with fail
          go_ret
          exact ⟨rfl, HB5.out⟩
end Go.Proofs.Ytgbbobpakjlddaa
