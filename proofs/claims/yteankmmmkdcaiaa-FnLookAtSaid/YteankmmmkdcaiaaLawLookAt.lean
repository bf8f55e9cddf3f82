/-
  The walk of the law of LookAt.
-/
import Derived.Test.YteankmmmkdcaiaaDrawLookAt
namespace Go.Proofs.Yteankmmmkdcaiaa
open Go.ChangeShapes Go.WideShapes Go.ChangeAt Go.RowKit Go.Joins
set_option linter.unusedVariables false

theorem sw_same (A B : Option Addr) (n c d : Nat) (l : List Wa) (w : World) (h1 : Rd w 3 A n (was l)) (h2 : Rd w 3 B n (was l)) (hn : n ≤ 1048576) :
    Calls Try.prog 32 #[.slice A n c, .slice B n d] w fun e w' => e = .returned (.bool true) ∧ Below w.heap.size w w' := by
  have H1 := Lib.hid h1; have H2 := Lib.hid h2; clear h1 h2
  go_enter Try.func32, Try.ntmps32
  go_wp2
  go_loopw [5] (fun i wr => ∃ k : Nat, k ≤ n ∧ i = .int .i64 k ∧ ∃ q, w.drewN q = wr) (fun i _ => n - (intOf i).toNat)
  case atStart => exact ⟨0, Nat.zero_le _, rfl, 0, rfl⟩
  case round =>
    obtain ⟨k, hk, rfl, q, rfl⟩ := hrel
    by_cases hlt : k < n
    · obtain ⟨b, off, z, rfl, hbl, hz, hc0, hc1, hc2⟩ := H1.out.wa hlt
      obtain ⟨b2, off2, z2, rfl, hbl2, hz2, hd0, hd1, hd2⟩ := H2.out.wa hlt
      obtain rfl : z = z2 := by rw [hz] at hz2; injection hz2
      clear hz hz2
      go_wp2
      go_quiet (fail)
      go_wp2
      go_roundw
      case rel => exact ⟨k + 1, by omega, by go_num, _, rfl⟩
      case measure => simp [intOf]; omega
    · obtain rfl : k = n := by omega
      go_wp2
      go_ret
      exact ⟨rfl, belq rfl⟩
theorem sw_diff (A B : Option Addr) (n m c d : Nat) (w : World) (hn : n ≤ 1048576) (hm : m ≤ 1048576) (hnm : n ≠ m) :
    Calls Try.prog 32 #[.slice A n c, .slice B m d] w fun e w' => e = .returned (.bool false) ∧ Below w.heap.size w w' := by
  go_enter Try.func32, Try.ntmps32
  go_wp2
  go_ret
  exact ⟨rfl, Below.refl _ _⟩
theorem la_ok {l : List Wa} {feed : ByteArray} {now : Int} (ch : Bool) (h : laB l feed now = true) :
    ∃ k z, laV l now = true ∧ l[k]? = some z ∧ laP feed z = true ∧ laL l feed now ch = l.set k (laN z now ch) := by
  simp only [laB, Bool.and_eq_true, decide_eq_true_eq] at h
  refine ⟨l.findIdx (laP feed), l[l.findIdx (laP feed)]'h.2, h.1, List.getElem?_eq_getElem h.2, List.findIdx_getElem, ?_⟩
  unfold laL
  rw [if_pos h.1, List.getElem?_eq_getElem h.2]
theorem set_at {l : List Wa} {k i : Nat} {x y : Wa} (h : (l.set k x)[i]? = some y) : (i = k ∧ y = x) ∨ (i ≠ k ∧ l[i]? = some y) := by
  by_cases e : i = k
  · subst e
    have hi : i < l.length := by have := get_lt h; simpa using this
    rw [List.getElem?_set_self hi] at h; injection h with h
    exact .inl ⟨rfl, h.symm⟩
  · rw [List.getElem?_set_ne (Ne.symm e)] at h
    exact .inr ⟨e, h⟩
theorem wv_sm {l : List Wa} {i j : Nat} {y z : Wa} (h : wvA l = true) (hy : l[i]? = some y) (hz : l[j]? = some z) (hij : i ≠ j) : (y.a.toList == z.a.toList) = false := by
  simp only [wvA, Bool.and_eq_true] at h
  rcases Nat.lt_or_gt_of_ne hij with hl | hl
  · exact (vAll_iff.1 h.2 j z hz).2.2 i y hl hy
  · have := (vAll_iff.1 h.2 i y hy).2.2 j z hl hz
    simp only [waSm, beq_eq_false_iff_ne, ne_eq] at this ⊢
    exact fun e => this e.symm
theorem la_wv {l : List Wa} {feed : ByteArray} {now : Int} {ch : Bool} (h : laB l feed now = true) : wvA (laL l feed now ch) = true := by
  obtain ⟨k, z, hv, hz, hp, e⟩ := la_ok ch h
  obtain ⟨hw, hn0, hn1⟩ := laV_parts hv
  obtain ⟨b1, b2, b3, b4, b5⟩ := wvA_b hw hz
  have nb := np_bd (ch := ch) b1 b2
  have hw' := hw
  simp only [wvA, Bool.and_eq_true, decide_eq_true_eq] at hw' ⊢
  rw [e]
  refine ⟨by rw [List.length_set]; exact hw'.1, vAll_iff.2 ?_⟩
  have nm : ∀ (i : Nat) (y : Wa), (l.set k (laN z now ch))[i]? = some y → ∃ x : Wa, l[i]? = some x ∧ y.a = x.a ∧ waOk y = true := by
    intro i y hy
    rcases set_at hy with ⟨rfl, rfl⟩ | ⟨hne, hy⟩
    · refine ⟨z, hz, rfl, ?_⟩
      simp only [laN, waOk, Bool.and_eq_true, wi_iff]
      exact ⟨⟨b5, nb⟩, by omega, by omega⟩
    · exact ⟨y, hy, rfl, (vAll_iff.1 hw'.2 i y hy).1⟩
  intro j y hy
  obtain ⟨x, hx, ha, hok⟩ := nm j y hy
  refine ⟨hok, fun _ _ _ => rfl, fun i y' hij hy' => ?_⟩
  obtain ⟨x', hx', ha', _⟩ := nm i y' hy'
  simp only [waSm, ha, ha']
  exact wv_sm hw hx' hx (by omega)
theorem la_due {l : List Wa} {feed : ByteArray} {now : Int} {ch : Bool} (h : laB l feed now = true) {j : Nat} {s : ByteArray} (hs : (ldR (laL l feed now ch) now)[j]? = some s) : (s.toList == feed.toList) = false := by
  rw [show ldR (laL l feed now ch) now = ldL (laL l feed now ch) now (laL l feed now ch).length from if_pos (la_wv h)] at hs
  obtain ⟨k, z, hv, hz, hp, e⟩ := la_ok ch h
  obtain ⟨hw, hn0, hn1⟩ := laV_parts hv
  obtain ⟨b1, b2, b3, b4, b5⟩ := wvA_b hw hz
  have nb := np_bd (ch := ch) b1 b2
  have hm := List.mem_of_getElem? hs
  simp only [ldL, List.take_length, List.mem_map, List.mem_filter, decide_eq_true_eq] at hm
  obtain ⟨y, ⟨hy, hyc⟩, rfl⟩ := hm
  obtain ⟨i, hi⟩ := List.mem_iff_getElem?.1 hy
  rw [e] at hi
  rcases set_at hi with ⟨rfl, rfl⟩ | ⟨hne, hi⟩
  · simp only [laN] at hyc; omega
  · have := wv_sm hw hi hz hne
    simp only [laP, beq_iff_eq] at hp
    rw [← hp]; exact this
theorem la_rel {l : List Wa} {feed : ByteArray} {now : Int} {ch : Bool} (h : laB l feed now = true) {i : Nat} {y z : Wa} (hy : (laL l feed now ch)[i]? = some y) (hz : l[i]? = some z) : y.a = z.a ∧ ((z.a.toList == feed.toList) = false → y = z) := by
  obtain ⟨k, x, hv, hx, hp, e⟩ := la_ok ch h
  rw [e] at hy
  rcases set_at hy with ⟨rfl, rfl⟩ | ⟨hne, hy⟩
  · rw [hx] at hz; injection hz with hz; subst hz
    refine ⟨rfl, fun hf => ?_⟩
    simp only [laP] at hp
    rw [hp] at hf; cases hf
  · rw [hy] at hz; injection hz with hz; subst hz
    exact ⟨rfl, fun _ => rfl⟩
theorem la_small {l : List Wa} {feed : ByteArray} {now : Int} {ch : Bool} (hs : ∀ z ∈ l, z.a.size ≤ 9) : ∀ z ∈ laL l feed now ch, z.a.size ≤ 9 := by
  intro z hz
  unfold laL at hz
  split at hz
  · split at hz
    · rename_i x hx
      obtain ⟨i, hi⟩ := List.mem_iff_getElem?.1 hz
      rcases set_at hi with ⟨rfl, rfl⟩ | ⟨hne, hi⟩
      · exact hs x (List.mem_of_getElem? hx)
      · exact hs z (List.mem_of_getElem? hi)
    · exact hs z hz
  · cases hz
theorem la_not {l : List Wa} {feed : ByteArray} {now : Int} {ch : Bool} (hb : laB l feed now = false) : laL l feed now ch = l ∨ laL l feed now ch = [] := by
  unfold laL
  split
  · rename_i hv
    left
    simp only [laB, hv, Bool.true_and, decide_eq_false_iff_not] at hb
    rw [List.getElem?_eq_none (by omega)]
  · exact .inr rfl

set_option maxRecDepth 100000 in
set_option maxHeartbeats 4000000 in
theorem walkLookAt (a : Option Addr) (len cap : Nat) (zs : List Int) (w : World) (h : IsCode w a len cap zs) :
    Calls Try.prog 9 #[.slice a len cap] w fun e w' => e = .returned (.bool true) ∧ Below w.heap.size w w' := by
  obtain ⟨hl, hm⟩ := code_len h
  unfold maxLen at hm
  have H := Lib.hid h; clear h
  by_cases hb : (1048576 : Int) < (len : Int)
  · go_enter Try.func9, Try.ntmps9
    go_wp2
    go_ret
    exact ⟨rfl, Below.refl _ _⟩
  · go_enter Try.func9, Try.ntmps9
    go_wp2_with fail
    refine (dla_any _ _ _ _ _ _ H.out (Below.refl _ _)).mono ?_
    rintro e x1 ⟨v, n, l, d, now, ch, rfl, hn, hd, hnw, ho, hs, hb1⟩
    obtain ⟨A, c, rfl, hnc, hcm, _⟩ := own_form ho
    obtain ⟨hn1, hn2⟩ := hnw
    have hlen := rd_walen (rd_own ho)
    have HNC := Lib.hid hnc; have HCM := Lib.hid hcm; have HLEN := Lib.hid hlen
    have HSM : Hid (∀ z ∈ l, z.a.size ≤ maxLen) := Lib.hid (fun z hz => by have := hs z hz; simp only [maxLen]; omega)
    have HDM : Hid (d.size ≤ maxLen) := Lib.hid (by simp only [maxLen]; omega)
    have HNN : Hid (n ≤ 1048576) := Lib.hid (by omega)
    have HO1 := Lib.hid ho; have HB1 := Lib.hid hb1
    have hml : (laL l d now ch).length ≤ 6 := by rw [laL_len]; split <;> omega
    have HRS : Hid (∀ z ∈ laL l d now ch, z.a.size ≤ maxLen) := Lib.hid (fun z hz => by have := la_small hs z hz; simp only [maxLen]; omega)
    have HNOT : Hid (laB l d now = false → laL l d now ch = l ∨ laL l d now ch = []) := Lib.hid la_not
    have HWV : Hid (laB l d now = true → wvA (laL l d now ch) = true) := Lib.hid la_wv
    have HDUE : Hid (laB l d now = true → ∀ (j : Nat) (s : ByteArray), (ldR (laL l d now ch) now)[j]? = some s → (s.toList == d.toList) = false) := Lib.hid (fun h j s hs => la_due h hs)
    have HREL : Hid (laB l d now = true → ∀ (i : Nat) (y z : Wa), (laL l d now ch)[i]? = some y → l[i]? = some z → y.a = z.a ∧ ((z.a.toList == d.toList) = false → y = z)) := Lib.hid (fun h i y z hy hz => la_rel h hy hz)
    have HMN : Hid (laB l d now = true → (laL l d now ch).length = n) := Lib.hid (fun h => by obtain ⟨k, z, hv, _⟩ := la_ok ch h; rw [laL_len, if_pos hv]; exact hlen)
    clear ho hs hb1 hlen hnc hcm hd
    generalize hR : laL l d now ch = R at *
    generalize hbR : laB l d now = bR at *
    generalize hm1 : R.length = m at *
    have HR := Lib.hid hR; have HBR := Lib.hid hbR; have HM1 := Lib.hid hm1
    clear hR hbR hm1
    go_wp2_with fail
    refine (ila_any _ _ _ l d now ch _ (rd_own HO1.out) HNN.out HNC.out HCM.out HSM.out HDM.out).mono ?_
    rw [HR.out, HBR.out, HM1.out]
    rintro e x2 ⟨v, rfl, ho, hb2⟩
    obtain ⟨Ag, cg, rfl, hgc, hgm, _⟩ := own_form ho
    have RG := Lib.hid ho; have HO2 := Lib.hid (own_below HO1.out hb2); have HB2 := Lib.hid (belB HB1.out HB1.out.size hb2)
    have HGC := Lib.hid hgc; have HGM := Lib.hid hgm
    clear ho hb2 hgc hgm
    go_wp2_with fail
    refine (sla_any _ _ _ l d now ch _ (rd_own HO2.out) HNN.out HNC.out HCM.out HSM.out HDM.out).mono ?_
    rw [HR.out, HBR.out, HM1.out]
    rintro e x3 ⟨v, rfl, ho, hb3⟩
    obtain ⟨As, cs, rfl, _, _, _⟩ := own_form ho
    have RS := Lib.hid ho; have HO3 := Lib.hid (own_below HO2.out hb3); have RG3 := Lib.hid (own_below RG.out hb3); have HB3 := Lib.hid (belB HB2.out HB2.out.size hb3)
    clear ho hb3
    go_wp2_with fail
    refine (sw_same _ _ _ _ _ _ _ (rd_own RG3.out) (rd_own RS.out) (by omega)).mono ?_
    rintro e x4 ⟨rfl, hb4⟩
    have HO4 := Lib.hid (own_below HO3.out hb4); have RG4 := Lib.hid (own_below RG3.out hb4); have HB4 := Lib.hid (belB HB3.out HB3.out.size hb4)
    clear hb4
    cases bR
    · by_cases hmn : m = n
      · have hRl : R = l := by
          rcases HNOT.out rfl with h | h
          · exact h
          · rw [h] at HM1; have h1 := HM1.out; have h2 := HLEN.out
            rw [h]; simp only [List.length_nil] at h1
            exact (List.length_eq_zero_iff.1 (by omega)).symm
        have HRd : Hid (Rd x4 3 A m (was R)) := Lib.hid (by rw [hRl, hmn]; exact rd_own HO4.out)
        subst hmn
        clear hRl
        go_wp2_with fail
        refine (sw_same _ _ _ _ _ _ _ (rd_own RG4.out) HRd.out (by omega)).mono ?_
        rintro e x5 ⟨rfl, hb5⟩
        have HB5 := Lib.hid (belB HB4.out HB4.out.size hb5)
        clear hb5
        go_wp2_with (go_at_call 14; refine (alive_any _).mono ?_; rintro e w' ⟨rfl, rfl⟩)
        go_ret
        exact ⟨rfl, HB5.out⟩
      · have hm0 : m = 0 := by
          rcases HNOT.out rfl with h | h
          · have h1 := HM1.out; have h2 := HLEN.out; rw [h] at h1; omega
          · have h1 := HM1.out; rw [h] at h1; simpa using h1.symm
        subst hm0
        go_wp2_with fail
        refine (sw_diff _ _ _ _ _ _ _ (by omega) HNN.out hmn).mono ?_
        rintro e x5 ⟨rfl, hb5⟩
        have HB5 := Lib.hid (belB HB4.out HB4.out.size hb5)
        clear hb5
        go_wp2_with (go_at_call 14; refine (alive_any _).mono ?_; rintro e w' ⟨rfl, rfl⟩)
        go_ret
        exact ⟨rfl, HB5.out⟩
    · obtain rfl := HMN.out rfl
      have HWV' := Lib.hid (HWV.out rfl); have HDUE' := Lib.hid (HDUE.out rfl); have HREL' := Lib.hid (HREL.out rfl)
      clear HNOT HWV HDUE HREL HMN
      go_wp2_with fail
      refine (ild_any _ _ _ R now _ (rd_own RG4.out) (by omega) HGC.out HGM.out HRS.out).mono ?_
      generalize hD : ldR R now = D at *
      have hDl : D.length ≤ m := by rw [← hD, ← HM1.out]; exact ldR_le R now
      clear hD
      generalize hm2 : D.length = p at *
      have HM2 := Lib.hid hm2; clear hm2
      rintro e x5 ⟨v, rfl, ho, hb5⟩
      obtain ⟨Ad, cd, rfl, _, _, _⟩ := own_form ho
      have RD5 := Lib.hid ho; have HO5 := Lib.hid (own_below HO4.out hb5); have RG5 := Lib.hid (own_below RG4.out hb5); have HB5 := Lib.hid (belB HB4.out HB4.out.size hb5)
      clear ho hb5
      go_wp2_with fail
      go_loopw [12] (fun i wr => ∃ k : Nat, k ≤ p ∧ i = .int .i64 k ∧ x5 = wr) (fun i _ => p - (intOf i).toNat)
      case atStart => exact ⟨0, Nat.zero_le _, rfl, by first | rfl | trivial⟩
      case round =>
        obtain ⟨k, hk, rfl, rfl⟩ := hrel
        by_cases hlt : k < p
        · obtain ⟨b, off, z, rfl, _, hz, hc⟩ := (rd_own RD5.out).sv hlt
          have hne := HDUE'.out k z hz
          clear hz
          go_wp2_with fail
          go_roundw
          case rel => exact ⟨k + 1, by omega, by go_num, by first | rfl | trivial⟩
          case measure => simp [intOf]; omega
        · obtain rfl : k = p := by omega
          go_wp2_with fail
          go_loopw [13] (fun i wr => ∃ k : Nat, k ≤ m ∧ i = .int .i64 k ∧ ∃ q, x5.drewN q = wr) (fun i _ => m - (intOf i).toNat)
          case atStart => exact ⟨0, Nat.zero_le _, rfl, 0, rfl⟩
          case round =>
            obtain ⟨j, hj, rfl, q, rfl⟩ := hrel
            by_cases hlj : j < m
            · obtain ⟨b1, off1, y, rfl, _, hy, hy0, hy1, hy2⟩ := (rd_own RG5.out).wa hlj
              obtain ⟨b2, off2, z, rfl, _, hz, hz0, hz1, hz2⟩ := (rd_own HO5.out).wa hlj
              obtain ⟨hya, hyz⟩ := HREL'.out j y z hy hz
              rw [hya] at hy0
              clear hya hy hz
              cases hf : (z.a.toList == d.toList)
              · obtain rfl := hyz hf
                go_wp2
                go_quiet (fail)
                go_wp2
                go_roundw
                case rel => exact ⟨j + 1, by omega, by go_num, _, rfl⟩
                case measure => simp [intOf]; omega
              · clear hyz
                go_wp2
                go_quiet (fail)
                go_wp2
                go_roundw
                case rel => exact ⟨j + 1, by omega, by go_num, _, rfl⟩
                case measure => simp [intOf]; omega
            · obtain rfl : j = m := by omega
              go_wp2_with fail
              refine (iwa_any _ _ _ R _ ((rd_own RG5.out).drewN q) HGC.out HGM.out HRS.out).mono ?_
              rw [HWV'.out]
              rintro e x6 ⟨rfl, hb6⟩
              have HB6 := Lib.hid (belB HB5.out HB5.out.size (beldN hb6))
              clear hb6
              go_wp2_with fail
              go_ret
              exact ⟨rfl, HB6.out⟩
end Go.Proofs.Yteankmmmkdcaiaa
