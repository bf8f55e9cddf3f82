/-
  The contract of TagsIn of the reference.
-/
import Derived.Test.YtpbnbekkmifbpaaDoorTgI
import Derived.Test.YtpbnbekkmifbpaaDoorMnS
import Derived.Test.YtpbnbekkmifbpaaDoorWordS
namespace Go.Proofs.YtpbnbekkmifbpaaDoor
open Go.ChangeShapes Go.WideShapes Go.ChangeAt Go.RowKit Go.Joins Go.Shelf
set_option linter.unusedVariables false

/-- A row that lies apart from another one. -/
def APd (v u : Value) : Prop := v.ownBlock = none ∨ v.ownBlock ≠ u.ownBlock
/-- The text t is one of the first j. -/
def fnJ (acc : List ByteArray) (t : ByteArray) (j : Nat) : Bool := inS (acc.take j) t
theorem fnJ_0 (acc : List ByteArray) (t : ByteArray) : fnJ acc t 0 = false := by
  cases h : fnJ acc t 0
  · rfl
  · rw [fnJ, inS_iff] at h; simp at h
theorem fnJ_end (acc : List ByteArray) (t : ByteArray) : fnJ acc t acc.length = inS acc t := by simp [fnJ]
theorem ba_iff {a b : ByteArray} : (a.toList == b.toList) = true ↔ a = b := by
  rw [Lib.toList_data, Lib.toList_data, beq_iff_eq]
  exact ⟨fun h => ByteArray.ext (Array.ext' h), fun h => by rw [h]⟩
theorem fnJ_succ {acc : List ByteArray} {t y : ByteArray} {j : Nat} (h : acc[j]? = some y) : fnJ acc t (j + 1) = (fnJ acc t j || (y.toList == t.toList)) := by
  rw [Bool.eq_iff_iff, Bool.or_eq_true, ba_iff, fnJ, fnJ, inS_iff, inS_iff, take_snoc_get acc j y h, List.mem_append, List.mem_singleton]
  constructor
  · rintro (h | h)
    · exact .inl h
    · exact .inr h.symm
  · rintro (h | h)
    · exact .inl h
    · exact .inr h.symm
theorem hp35 {x : ByteArray} (h : 0 < x.size) : Lib.hasPrefix x.data.toList [35] = (((x[0]'h).toNat : Int) == 35) := by
  have hl : 0 < x.data.toList.length := by rw [size_list]; exact h
  have e : x.data.toList = x[0]'h :: x.data.toList.drop 1 := by
    conv => lhs; rw [← List.drop_zero (l := x.data.toList), List.drop_eq_getElem_cons hl]
    rfl
  rw [e]
  simp only [Lib.hasPrefix, List.isPrefixOf, Bool.and_true]
  rw [Bool.eq_iff_iff]
  simp only [beq_iff_eq]
  constructor
  · intro h; rw [← h]; rfl
  · intro h; exact (UInt8.toNat_inj.1 (by show (x[0]).toNat = 35; omega)).symm
theorem emp_size {x : ByteArray} (h : x.size = 0) : x = ⟨#[]⟩ := by
  apply ByteArray.ext; apply Array.eq_empty_of_size_eq_zero; exact h
theorem emp_no {x : ByteArray} (h : 0 < x.size) : x.toList.isEmpty = false := by
  have hl : x.toList.length = x.size := by rw [ByteArray.toList_eq]; simp
  cases hq : x.toList with
  | nil => rw [hq] at hl; simp at hl; omega
  | cons a b => rfl
theorem tgF_ok {acc : List ByteArray} {z : ByteArray} (h : Lib.hasPrefix z.data.toList [35] = true) (h1 : wvB (tgT z) = true) : tgF acc z = if fnJ acc (tgT z) acc.length = true then acc else acc ++ [tgT z] := by
  rw [fnJ_end, tgF, tgV, h, h1]
  cases inS acc (tgT z) <;> simp

set_option maxRecDepth 100000 in
set_option maxHeartbeats 16000000 in
theorem stg_any (s : ByteArray) (w : World) (hs : s.size ≤ 1048576) :
    Calls Tryd.prog 27 #[.string s] w fun e w' => ∃ v, e = .returned v ∧ w'.ownsRow w.heap.size 9 1 v (tgB s).length (svs (tgB s)) ∧ Below w.heap.size w w' := by
  obtain ⟨i0, hi, hz0, hz1, hz2⟩ := info_parts str_info
  have HI := Lib.hid hi; have HZ0 := Lib.hid hz0; have HZ1 := Lib.hid hz1; have HZ2 := Lib.hid hz2
  clear hi hz0 hz1 hz2
  have HS : Hid (s.size ≤ maxLen) := Lib.hid (by simp only [maxLen]; omega)
  have HWO := Lib.hid (fun w => l1w_any s w hs)
  have hwl := (wsB_len s).2
  have hw1 := (wsB_len s).1
  have HWM : Hid (∀ z ∈ wsB s, z.size ≤ maxLen) := Lib.hid (fun z hz => by have := wsB_mem hz; simp only [maxLen]; omega)
  generalize hR : tgB s = R at *
  have HR1 : Hid (tvB s = true → R = ((wsB s).map ctB).foldl tgF []) := Lib.hid (fun h => by rw [← hR, tgB, wdB_yes h])
  have HR0 : Hid (tvB s = false → R = []) := Lib.hid (fun h => by rw [← hR, tgB, wdB_no h]; rfl)
  clear hR
  generalize hW : wsB s = W at *
  generalize hn : W.length = n at hwl hw1 HWO
  have HN := Lib.hid hn
  clear hn hW
  go_enter Tryd.func27, Tryd.ntmps27
  go_wp2_with fail
  refine (HWO.out _).mono ?_
  rintro e w1 ⟨v, rfl, ho1, hb1⟩
  obtain ⟨A, c, rfl, hnc, hcm, hrd⟩ := own_form ho1
  have HOO : Hid (w1.ownsRow w.heap.size 9 1 (.slice (some ⟨w.heap.size, 0, none⟩) 0 0) 0 (svs [])) := Lib.hid (own_below (World.ownsRow_made w #[] 0 (Nat.le_refl _) (by simp) (by simp)) hb1)
  have HBB : Hid (Below w.heap.size w w1) := Lib.hid (belt (bel1 rfl) hb1)
  have HRD := Lib.hid hrd
  have hal : (w.alloc (.cells #[] 9)).heap.size = w.heap.size + 1 := by simp
  have HWR : Hid (w1.ownsRow w.heap.size 9 1 (.slice A n c) n (svs W)) := Lib.hid (own_less ho1 (by simp))
  have HAP : Hid (APd (.slice A n c) (.slice (some ⟨w.heap.size, 0, none⟩) 0 0)) := Lib.hid (by
    refine .inr fun e => ?_
    have := (ho1.lt w.heap.size e).1
    omega)
  clear hrd ho1 hb1 hnc hcm HWO hal HRD
  go_wp2_with fail
  go_loopw [3, 5] (fun v i wr => ∃ k : Nat, k ≤ n ∧ i = .int .i64 k ∧ wr.ownsRow w.heap.size 9 1 v (tgK (W.map ctB) k).length (svs (tgK (W.map ctB) k)) ∧ wr.ownsRow w.heap.size 9 1 (.slice A n c) n (svs W) ∧ Below w.heap.size w wr ∧ APd (.slice A n c) v ∧ (tvB s = false → k = 0)) (fun _ i _ => n - (intOf i).toNat)
  case atStart => exact ⟨0, Nat.zero_le _, rfl, by rw [tgK_0]; exact HOO.out, HWR.out, HBB.out, HAP.out, fun _ => rfl⟩
  case round =>
    obtain ⟨k, hk, rfl, ho, hwr, hb, hap, hv0⟩ := hrel
    have HO := Lib.hid ho; have HB := Lib.hid hb; have HWR := Lib.hid hwr; have HV0 := Lib.hid hv0; have HAP := Lib.hid hap
    clear ho hb hwr HOO HBB hv0 hap
    by_cases hlt : k < n
    · cases ht : tvB s
      · have HE : Hid (R = tgK (W.map ctB) k) := Lib.hid (by rw [HR0.out ht, HV0.out ht, tgK_0])
        go_wp2_with fail
        refine (stv_any _ _ HS.out).mono ?_
        rw [ht]
        rintro e w' ⟨rfl, rfl⟩
        go_wp2_with fail
        go_ret
        exact ⟨_, rfl, by rw [HE.out]; exact HO.out, HB.out⟩
      · have HT := Lib.hid ht; clear ht
        obtain ⟨b, off, z, eA, hbl, hz, hcell⟩ := (rd_own HWR.out).sv hlt
        subst eA
        have HSZ := Lib.hid (HWM.out z (List.mem_of_getElem? hz))
        have HSC : Hid ((ctB z).size ≤ maxLen) := Lib.hid (Nat.le_trans (ctB_size z) HSZ.out)
        have HK1 : Hid (tgK (W.map ctB) (k + 1) = tgF (tgK (W.map ctB) k) (ctB z)) := Lib.hid (tgK_succ (by rw [List.getElem?_map, hz]; rfl))
        have hkl := tgK_len (W.map ctB) k
        clear hz
        generalize hacc : tgK (W.map ctB) k = acc at *
        clear hacc
        have HF1 := Lib.hid (fun h => tgF_nop (acc := acc) (z := ctB z) h); have HF2 := Lib.hid (fun h => tgF_now (acc := acc) (z := ctB z) h); have HF3 := Lib.hid (fun h h1 => tgF_ok (acc := acc) (z := ctB z) h h1)
        have HST : Hid ((tgT (ctB z)).size ≤ maxLen) := Lib.hid (Nat.le_trans (tgT_size _) HSC.out)
        have HCT := Lib.hid (fun w => cut_any z w HSZ.out)
        generalize ctB z = x at *
        go_wp2_with fail
        refine (stv_any _ _ HS.out).mono ?_
        rw [HT.out]
        rintro e w' ⟨rfl, rfl⟩
        go_wp2_with fail
        refine (HCT.out _).mono ?_
        rintro e w' ⟨rfl, rfl⟩
        clear HCT hcell
        by_cases hx0 : x.size = 0
        · obtain rfl := emp_size hx0
          have HE : Hid (tgK (W.map ctB) (k + 1) = acc) := Lib.hid (by rw [HK1.out]; exact HF1.out rfl)
          clear HF1 HF2 HF3 HK1 HST hx0
          go_wp2
          go_roundw
          case rel => exact ⟨k + 1, by omega, by go_num, by rw [HE.out]; exact HO.out, HWR.out, HB.out, HAP.out, fun h => by cases h⟩
          case measure => simp [intOf]; omega
        · have hxp : 0 < x.size := by omega
          have HP35 := Lib.hid (hp35 hxp)
          have hem := emp_no hxp
          have hem2 : (!x.toList.isEmpty) = true := by rw [hem]; rfl
          have hxs := HSC.out
          unfold maxLen at hxs
          cases hp : (((x[0]'hxp).toNat : Int) == 35)
          · have HE : Hid (tgK (W.map ctB) (k + 1) = acc) := Lib.hid (by rw [HK1.out]; exact HF1.out (HP35.out.trans hp))
            have hp2 : ((x[0]'hxp).toNat : Int) ≠ 35 := by simpa using hp
            clear HF1 HF2 HF3 HK1 HST HP35
            go_wp2
            go_roundw
            case rel => exact ⟨k + 1, by omega, by go_num, by rw [HE.out]; exact HO.out, HWR.out, HB.out, HAP.out, fun h => by cases h⟩
            case measure => simp [intOf]; omega
          · have HP := Lib.hid (HP35.out.trans hp)
            have hp2 : ((x[0]'hxp).toNat : Int) = 35 := by simpa using hp
            clear HP35
            cases hv : wvB (tgT x)
            · have HE : Hid (tgK (W.map ctB) (k + 1) = acc) := Lib.hid (by rw [HK1.out]; exact HF2.out hv)
              clear HF1 HF2 HF3 HK1
              have HV := Lib.hid hv; clear hv
              unfold tgT at HV HST
              go_wp2_with fail
              refine (swv_any _ _ HST.out).mono ?_
              rw [HV.out]
              rintro e w' ⟨rfl, rfl⟩
              go_wp2
              go_roundw
              case rel => exact ⟨k + 1, by omega, by go_num, by rw [HE.out]; exact HO.out, HWR.out, HB.out, HAP.out, fun h => by cases h⟩
              case measure => simp [intOf]; omega
            · have HF := Lib.hid (HF3.out HP.out hv)
              clear HF1 HF2 HF3
              have HV := Lib.hid hv; clear hv
              unfold tgT at HV HST HF
              generalize hm : acc.length = m at *
              have HM := Lib.hid hm; clear hm
              obtain ⟨A3, c3, e3, hnc3, hcm3, hrd3⟩ := own_form HO.out
              clear hrd3
              subst e3
              go_wp2_with fail
              refine (swv_any _ _ HST.out).mono ?_
              rw [HV.out]
              rintro e w' ⟨rfl, rfl⟩
              go_wp2_with fail
              obtain ⟨wq, rfl⟩ : ∃ wq : World, wq = wr := ⟨_, rfl⟩
              go_loopw [7, 8] (fun f j wr => ∃ i : Nat, i ≤ m ∧ j = .int .i64 i ∧ f = .bool (fnJ acc (x.extract 1 x.size) i) ∧ Below wq.heap.size wq wr) (fun _ j _ => m - (intOf j).toNat)
              case atStart => exact ⟨0, Nat.zero_le _, rfl, by rw [fnJ_0], Below.refl _ _⟩
              case round =>
                obtain ⟨i, hi, rfl, rfl, hb⟩ := hrel
                have HB3 := Lib.hid hb; clear hb
                by_cases hlt2 : i < m
                · obtain ⟨g2, off2, y, eA, hbl2, hy, hc0⟩ := ((rd_own HO.out).below HB3.out).sv hlt2
                  subst eA
                  have HOS := Lib.hid (fnJ_succ (t := x.extract 1 x.size) hy)
                  clear hy
                  obtain ⟨wo, rfl⟩ : ∃ wo : World, wo = wr := ⟨_, rfl⟩
                  cases hok : fnJ acc (x.extract 1 x.size) i
                  · rw [hok] at HOS
                    have HO9 := Lib.hid (HOS.out.trans (Bool.false_or _))
                    clear HOS
                    go_upto_region 12 with (fail)
                    refine wp_region_inv' (TabJ 11 (fun j => [46, 47, 48, 49, 50, 51, 52, 53, 54, 55, 7].getD j 0) (fun j v => match j with
                      | 0 => v = .bool false
                      | 1 => v = .bool false
                      | 2 => v = .slice (some ⟨g2, off2, none⟩) m c3
                      | 3 => v = .int .i64 i
                      | 4 => v = .pointer (some ⟨g2, off2 + i, none⟩)
                      | 5 => v = .string y
                      | 6 => v = .string x
                      | 7 => v = .string (x.extract 1 x.size)
                      | 8 => v = .bool (y.toList == (x.extract 1 x.size).toList)
                      | 9 => v = .bool (y.toList == (x.extract 1 x.size).toList)
                      | 10 => v = .bool (y.toList == (x.extract 1 x.size).toList)
                      | _ => True) 10 (.bool false) 18 19 0 #[] #[] wo) (by kernel_rfl) (regOkI_of (by kernel_rfl)) (TabJ.start (by intro h; rfl)) ?_ ?_
                    · intro i o ff bx wb ho hf hrd hcl hsz hfr hJ K hK
                      have hi := (Array.getElem?_eq_some_iff.1 ho).1
                      simp only [List.size_toArray, List.length_cons, List.length_nil] at hi
                      have hcases : i = 0 ∨ i = 1 ∨ i = 2 ∨ i = 3 ∨ i = 4 ∨ i = 5 ∨ i = 6 ∨ i = 7 ∨ i = 8 ∨ i = 9 ∨ i = 10 := by omega
                      have hB := hJ.below.size
                      rcases hcases with rfl | rfl | rfl | rfl | rfl | rfl | rfl | rfl | rfl | rfl | rfl
                      · cases (show some _ = some o from ho)
                        refine ite_yes (by rfl) ?_
                        have hjw : ff 10 = false := by
                          cases e : ff 10
                          · rfl
                          · exfalso
                            have e9 := hcl 10 _ ⟨9, .data⟩ rfl e (by simp) rfl
                            have e1 := hcl 9 _ ⟨1, .data⟩ rfl e9 (by simp) rfl
                            have e0 := hcl 1 _ ⟨0, .data⟩ rfl e1 (by simp) rfl
                            rw [show ff 0 = true from e0] at hf; cases hf
                        have h7 : bx.tmps.getD 7 undef = .bool false := hJ.u (by decide) hjw
                        have f7 := getD_opt h7
                        have HK := Lib.hid hK
                        have HJ := Lib.hid hJ
                        clear hK hJ hcl hrd hfr hsz ho
                        go_simp
                        exact HK.out _ _ (HJ.out.pure (by decide +kernel) 0 (by decide) (by decide) (by decide) (by first | rfl | rw [hwk]))
                      · cases (show some _ = some o from ho)
                        refine ite_yes (by rfl) ?_
                        have h46 : bx.tmps.getD 46 undef = .bool false := hJ.m 0 (by decide) (hrd ⟨0, .data⟩ (by simp) rfl)
                        have f46 := getD_opt h46
                        have HK := Lib.hid hK
                        have HJ := Lib.hid hJ
                        clear hK hJ hcl hrd hfr hsz ho
                        go_simp
                        exact HK.out _ _ (HJ.out.pure (by decide +kernel) 1 (by decide) (by decide) (by decide) (by first | rfl | rw [hwk]))
                      · cases (show some _ = some o from ho)
                        have hg : bx.tmps.getD 47 undef = .bool false := hJ.m 1 (by decide) (hrd ⟨1, .guard⟩ (by simp) rfl)
                        refine ite_yes ((wanted_of rfl rfl rfl hg).trans rfl) ?_
                        have h3 : bx.tmps.getD 3 undef = .slice (some ⟨g2, off2, none⟩) m c3 := hfr 3 (noDst_of (by kernel_rfl))
                        have f3 := getD_opt h3
                        have HK := Lib.hid hK
                        have HJ := Lib.hid hJ
                        clear hK hJ hcl hrd hfr hsz ho
                        go_simp
                        exact HK.out _ _ (HJ.out.pure (by decide +kernel) 2 (by decide) (by decide) (by decide) (by first | rfl | rw [hwk]))
                      · cases (show some _ = some o from ho)
                        have hg : bx.tmps.getD 47 undef = .bool false := hJ.m 1 (by decide) (hrd ⟨1, .guard⟩ (by simp) rfl)
                        refine ite_yes ((wanted_of rfl rfl rfl hg).trans rfl) ?_
                        have h8 : bx.tmps.getD 8 undef = .int .i64 i := hfr 8 (noDst_of (by kernel_rfl))
                        have f8 := getD_opt h8
                        have HK := Lib.hid hK
                        have HJ := Lib.hid hJ
                        clear hK hJ hcl hrd hfr hsz ho
                        go_simp
                        exact HK.out _ _ (HJ.out.pure (by decide +kernel) 3 (by decide) (by decide) (by decide) (by first | rfl | rw [hwk]))
                      · cases (show some _ = some o from ho)
                        have hg : bx.tmps.getD 47 undef = .bool false := hJ.m 1 (by decide) (hrd ⟨1, .guard⟩ (by simp) rfl)
                        refine ite_yes ((wanted_of rfl rfl rfl hg).trans rfl) ?_
                        have h48 : bx.tmps.getD 48 undef = .slice (some ⟨g2, off2, none⟩) m c3 := hJ.m 2 (by decide) (hrd ⟨2, .data⟩ (by simp) rfl)
                        have f48 := getD_opt h48
                        have h49 : bx.tmps.getD 49 undef = .int .i64 i := hJ.m 3 (by decide) (hrd ⟨3, .data⟩ (by simp) rfl)
                        have f49 := getD_opt h49
                        have HK := Lib.hid hK
                        have HJ := Lib.hid hJ
                        clear hK hJ hcl hrd hfr hsz ho
                        go_simp
                        try rw [if_pos (by omega)]
                        exact HK.out _ _ (HJ.out.pure (by decide +kernel) 4 (by decide) (by decide) (by decide) (by first | rfl | rw [hwk]))
                      · cases (show some _ = some o from ho)
                        have hg : bx.tmps.getD 47 undef = .bool false := hJ.m 1 (by decide) (hrd ⟨1, .guard⟩ (by simp) rfl)
                        refine ite_yes ((wanted_of rfl rfl rfl hg).trans rfl) ?_
                        have h50 : bx.tmps.getD 50 undef = .pointer (some ⟨g2, off2 + i, none⟩) := hJ.m 4 (by decide) (hrd ⟨4, .data⟩ (by simp) rfl)
                        have f50 := getD_opt h50
                        have c0 := (hJ.below.cell (p := ⟨g2, off2 + i, none⟩) hbl2).trans hc0
                        have HK := Lib.hid hK
                        have HJ := Lib.hid hJ
                        clear hK hJ hcl hrd hfr hsz ho
                        go_simp
                        exact HK.out _ _ (HJ.out.pure (by decide +kernel) 5 (by decide) (by decide) (by decide) (by first | rfl | rw [hwk]))
                      · cases (show some _ = some o from ho)
                        have hg : bx.tmps.getD 47 undef = .bool false := hJ.m 1 (by decide) (hrd ⟨1, .guard⟩ (by simp) rfl)
                        refine ite_yes ((wanted_of rfl rfl rfl hg).trans rfl) ?_
                        have h6 : bx.tmps.getD 6 undef = .string x := hfr 6 (noDst_of (by kernel_rfl))
                        have f6 := getD_opt h6
                        have HK := Lib.hid hK
                        have HJ := Lib.hid hJ
                        clear hK hJ hcl hrd hfr hsz ho
                        go_simp
                        exact HK.out _ _ (HJ.out.pure (by decide +kernel) 6 (by decide) (by decide) (by decide) (by first | rfl | rw [hwk]))
                      · cases (show some _ = some o from ho)
                        have hg : bx.tmps.getD 47 undef = .bool false := hJ.m 1 (by decide) (hrd ⟨1, .guard⟩ (by simp) rfl)
                        refine ite_yes ((wanted_of rfl rfl rfl hg).trans rfl) ?_
                        have h52 : bx.tmps.getD 52 undef = .string x := hJ.m 6 (by decide) (hrd ⟨6, .data⟩ (by simp) rfl)
                        have f52 := getD_opt h52
                        have HK := Lib.hid hK
                        have HJ := Lib.hid hJ
                        clear hK hJ hcl hrd hfr hsz ho
                        go_simp
                        first | rw [if_pos (by omega), if_pos (by omega)] | rw [if_pos (by omega)] | skip
                        exact HK.out _ _ (HJ.out.pure (by decide +kernel) 7 (by decide) (by decide) (by decide) (by first | rfl | rw [hwk]))
                      · cases (show some _ = some o from ho)
                        have hg : bx.tmps.getD 47 undef = .bool false := hJ.m 1 (by decide) (hrd ⟨1, .guard⟩ (by simp) rfl)
                        refine ite_yes ((wanted_of rfl rfl rfl hg).trans rfl) ?_
                        have h51 : bx.tmps.getD 51 undef = .string y := hJ.m 5 (by decide) (hrd ⟨5, .data⟩ (by simp) rfl)
                        have f51 := getD_opt h51
                        have h53 : bx.tmps.getD 53 undef = .string (x.extract 1 x.size) := hJ.m 7 (by decide) (hrd ⟨7, .data⟩ (by simp) rfl)
                        have f53 := getD_opt h53
                        have HK := Lib.hid hK
                        have HJ := Lib.hid hJ
                        clear hK hJ hcl hrd hfr hsz ho
                        go_simp
                        exact HK.out _ _ (HJ.out.pure (by decide +kernel) 8 (by decide) (by decide) (by decide) (by first | rfl | rw [hwk]))
                      · cases (show some _ = some o from ho)
                        refine ite_yes (by rfl) ?_
                        have h47 : bx.tmps.getD 47 undef = .bool false := hJ.m 1 (by decide) (hrd ⟨1, .data⟩ (by simp) rfl)
                        have f47 := getD_opt h47
                        have h54 : bx.tmps.getD 54 undef = .bool (y.toList == (x.extract 1 x.size).toList) := hJ.m 8 (by decide) (hrd ⟨8, .data⟩ (by simp) rfl)
                        have f54 := getD_opt h54
                        have HK := Lib.hid hK
                        have HJ := Lib.hid hJ
                        clear hK hJ hcl hrd hfr hsz ho
                        go_simp
                        exact HK.out _ _ (HJ.out.pure (by decide +kernel) 9 (by decide) (by decide) (by decide) (by first | rfl | rw [hwk]))
                      · cases (show some _ = some o from ho)
                        refine ite_yes (by rfl) ?_
                        have h55 : bx.tmps.getD 55 undef = .bool (y.toList == (x.extract 1 x.size).toList) := hJ.m 9 (by decide) (hrd ⟨9, .data⟩ (by simp) rfl)
                        have f55 := getD_opt h55
                        have HK := Lib.hid hK
                        have HJ := Lib.hid hJ
                        clear hK hJ hcl hrd hfr hsz ho
                        go_simp
                        exact HK.out _ _ (HJ.out.pure (by decide +kernel) 10 (by decide) (by decide) (by decide) (by first | rfl | rw [hwk]))
                    · intro ff bx wb hall hsz hdf hfr hJ
                      have HBW := Lib.hid hJ.below
                      obtain ⟨tm, df⟩ := bx
                      obtain rfl : df = [] := hdf
                      have q0 : tm.getD 0 undef = .string s := hfr 0 (noDst_of (by kernel_rfl))
                      have q1 : tm.getD 1 undef = undef := hfr 1 (noDst_of (by kernel_rfl))
                      have q2 : tm.getD 2 undef = .slice none 0 0 := hfr 2 (noDst_of (by kernel_rfl))
                      have q3 : tm.getD 3 undef = .slice (some ⟨g2, off2, none⟩) m c3 := hfr 3 (noDst_of (by kernel_rfl))
                      have q4 : tm.getD 4 undef = .slice (some ⟨b, off, none⟩) n c := hfr 4 (noDst_of (by kernel_rfl))
                      have q5 : tm.getD 5 undef = .int .i64 k := hfr 5 (noDst_of (by kernel_rfl))
                      have q6 : tm.getD 6 undef = .string x := hfr 6 (noDst_of (by kernel_rfl))
                      have q8 : tm.getD 8 undef = .int .i64 i := hfr 8 (noDst_of (by kernel_rfl))
                      have q9 : tm.getD 9 undef = .slice (some ⟨w.heap.size, 0, none⟩) 0 0 := hfr 9 (noDst_of (by kernel_rfl))
                      have q10 : tm.getD 10 undef = .string s := hfr 10 (noDst_of (by kernel_rfl))
                      have q11 : tm.getD 11 undef = .slice (some ⟨b, off, none⟩) n c := hfr 11 (noDst_of (by kernel_rfl))
                      have q12 : tm.getD 12 undef = .int .i64 k := hfr 12 (noDst_of (by kernel_rfl))
                      have q13 : tm.getD 13 undef = .slice (some ⟨b, off, none⟩) n c := hfr 13 (noDst_of (by kernel_rfl))
                      have q14 : tm.getD 14 undef = .int .i64 n := hfr 14 (noDst_of (by kernel_rfl))
                      have q15 : tm.getD 15 undef = .bool true := hfr 15 (noDst_of (by kernel_rfl))
                      have q16 : tm.getD 16 undef = .bool true := hfr 16 (noDst_of (by kernel_rfl))
                      have q17 : tm.getD 17 undef = .string s := hfr 17 (noDst_of (by kernel_rfl))
                      have q18 : tm.getD 18 undef = .bool true := hfr 18 (noDst_of (by kernel_rfl))
                      have q19 : tm.getD 19 undef = .bool true := hfr 19 (noDst_of (by kernel_rfl))
                      have q20 : tm.getD 20 undef = u20 := hfr 20 (noDst_of (by kernel_rfl))
                      have q21 : tm.getD 21 undef = u21 := hfr 21 (noDst_of (by kernel_rfl))
                      have q22 : tm.getD 22 undef = .slice (some ⟨b, off, none⟩) n c := hfr 22 (noDst_of (by kernel_rfl))
                      have q23 : tm.getD 23 undef = .int .i64 k := hfr 23 (noDst_of (by kernel_rfl))
                      have q24 : tm.getD 24 undef = .pointer (some ⟨b, off + k, none⟩) := hfr 24 (noDst_of (by kernel_rfl))
                      have q25 : tm.getD 25 undef = .string z := hfr 25 (noDst_of (by kernel_rfl))
                      have q26 : tm.getD 26 undef = .string x := hfr 26 (noDst_of (by kernel_rfl))
                      have q27 : tm.getD 27 undef = .string x := hfr 27 (noDst_of (by kernel_rfl))
                      have q28 : tm.getD 28 undef = .bool false := hfr 28 (noDst_of (by kernel_rfl))
                      have q29 : tm.getD 29 undef = .bool false := hfr 29 (noDst_of (by kernel_rfl))
                      have q30 : tm.getD 30 undef = .string x := hfr 30 (noDst_of (by kernel_rfl))
                      have q31 : tm.getD 31 undef = .int .u8 35 := hfr 31 (noDst_of (by kernel_rfl))
                      have q32 : tm.getD 32 undef = .bool false := hfr 32 (noDst_of (by kernel_rfl))
                      have q33 : tm.getD 33 undef = .bool false := hfr 33 (noDst_of (by kernel_rfl))
                      have q34 : tm.getD 34 undef = .bool false := hfr 34 (noDst_of (by kernel_rfl))
                      have q35 : tm.getD 35 undef = .string x := hfr 35 (noDst_of (by kernel_rfl))
                      have q36 : tm.getD 36 undef = .string (x.extract 1 x.size) := hfr 36 (noDst_of (by kernel_rfl))
                      have q37 : tm.getD 37 undef = .bool true := hfr 37 (noDst_of (by kernel_rfl))
                      have q38 : tm.getD 38 undef = .bool false := hfr 38 (noDst_of (by kernel_rfl))
                      have q39 : tm.getD 39 undef = .bool false := hfr 39 (noDst_of (by kernel_rfl))
                      have q56 : tm.getD 56 undef = u56 := hfr 56 (noDst_of (by kernel_rfl))
                      have q57 : tm.getD 57 undef = u57 := hfr 57 (noDst_of (by kernel_rfl))
                      have q58 : tm.getD 58 undef = u58 := hfr 58 (noDst_of (by kernel_rfl))
                      have q59 : tm.getD 59 undef = u59 := hfr 59 (noDst_of (by kernel_rfl))
                      have q60 : tm.getD 60 undef = u60 := hfr 60 (noDst_of (by kernel_rfl))
                      have q61 : tm.getD 61 undef = u61 := hfr 61 (noDst_of (by kernel_rfl))
                      have q62 : tm.getD 62 undef = u62 := hfr 62 (noDst_of (by kernel_rfl))
                      have q63 : tm.getD 63 undef = undef := hfr 63 (noDst_of (by kernel_rfl))
                      have q7 : tm.getD 7 undef = .bool (y.toList == (x.extract 1 x.size).toList) := hJ.m 10 (by decide) (hall 10 (by decide))
                      have q := lit_of tm 64 hsz
                      simp only [List.range, List.range.loop, List.map, q0, q1, q2, q3, q4, q5, q6, q8, q9, q10, q11, q12, q13, q14, q15, q16, q17, q18, q19, q20, q21, q22, q23, q24, q25, q26, q27, q28, q29, q30, q31, q32, q33, q34, q35, q36, q37, q38, q39, q56, q57, q58, q59, q60, q61, q62, q63, q7] at q
                      have HQ := Lib.hid q
                      clear q hsz hfr hJ hall q0 q1 q2 q3 q4 q5 q6 q8 q9 q10 q11 q12 q13 q14 q15 q16 q17 q18 q19 q20 q21 q22 q23 q24 q25 q26 q27 q28 q29 q30 q31 q32 q33 q34 q35 q36 q37 q38 q39 q56 q57 q58 q59 q60 q61 q62 q63 q7
                      rw [HQ.out]
                      generalize tm.getD 40 undef = x40
                      generalize tm.getD 41 undef = x41
                      generalize tm.getD 42 undef = x42
                      generalize tm.getD 43 undef = x43
                      generalize tm.getD 44 undef = x44
                      generalize tm.getD 45 undef = x45
                      generalize tm.getD 46 undef = x46
                      generalize tm.getD 47 undef = x47
                      generalize tm.getD 48 undef = x48
                      generalize tm.getD 49 undef = x49
                      generalize tm.getD 50 undef = x50
                      generalize tm.getD 51 undef = x51
                      generalize tm.getD 52 undef = x52
                      generalize tm.getD 53 undef = x53
                      generalize tm.getD 54 undef = x54
                      generalize tm.getD 55 undef = x55
                      clear HQ
                      have hb2 := HBW.out
                      go_wp2
                      go_roundw
                      case rel => first | exact ⟨i + 1, by omega, by go_num, by rw [HO9.out], belB HB3.out HB3.out.size hb2⟩ | ((repeat apply Exists.intro); exact ⟨⟨i + 1, by omega, by go_num, by rw [HO9.out], belB HB3.out HB3.out.size hb2⟩, rfl⟩)
                      case measure => simp [intOf]; omega
                  · rw [hok] at HOS
                    have HO9 := Lib.hid (HOS.out.trans (Bool.true_or _))
                    clear HOS
                    go_upto_region 12 with (fail)
                    refine wp_region_inv' (TabJ 11 (fun j => [46, 47, 48, 49, 50, 51, 52, 53, 54, 55, 7].getD j 0) (fun j v => match j with
                      | 0 => v = .bool true
                      | 1 => v = .bool true
                      | 2 => v = undef
                      | 3 => v = undef
                      | 4 => v = undef
                      | 5 => v = undef
                      | 6 => v = undef
                      | 7 => v = undef
                      | 8 => v = undef
                      | 9 => v = .bool true
                      | 10 => v = .bool true
                      | _ => True) 10 (.bool true) 18 19 0 #[] #[] wo) (by kernel_rfl) (regOkI_of (by kernel_rfl)) (TabJ.start (by intro h; rfl)) ?_ ?_
                    · intro i o ff bx wb ho hf hrd hcl hsz hfr hJ K hK
                      have hi := (Array.getElem?_eq_some_iff.1 ho).1
                      simp only [List.size_toArray, List.length_cons, List.length_nil] at hi
                      have hcases : i = 0 ∨ i = 1 ∨ i = 2 ∨ i = 3 ∨ i = 4 ∨ i = 5 ∨ i = 6 ∨ i = 7 ∨ i = 8 ∨ i = 9 ∨ i = 10 := by omega
                      have hB := hJ.below.size
                      rcases hcases with rfl | rfl | rfl | rfl | rfl | rfl | rfl | rfl | rfl | rfl | rfl
                      · cases (show some _ = some o from ho)
                        refine ite_yes (by rfl) ?_
                        have hjw : ff 10 = false := by
                          cases e : ff 10
                          · rfl
                          · exfalso
                            have e9 := hcl 10 _ ⟨9, .data⟩ rfl e (by simp) rfl
                            have e1 := hcl 9 _ ⟨1, .data⟩ rfl e9 (by simp) rfl
                            have e0 := hcl 1 _ ⟨0, .data⟩ rfl e1 (by simp) rfl
                            rw [show ff 0 = true from e0] at hf; cases hf
                        have h7 : bx.tmps.getD 7 undef = .bool true := hJ.u (by decide) hjw
                        have f7 := getD_opt h7
                        have HK := Lib.hid hK
                        have HJ := Lib.hid hJ
                        clear hK hJ hcl hrd hfr hsz ho
                        go_simp
                        exact HK.out _ _ (HJ.out.pure (by decide +kernel) 0 (by decide) (by decide) (by decide) (by first | rfl | rw [hwk]))
                      · cases (show some _ = some o from ho)
                        refine ite_yes (by rfl) ?_
                        have h46 : bx.tmps.getD 46 undef = .bool true := hJ.m 0 (by decide) (hrd ⟨0, .data⟩ (by simp) rfl)
                        have f46 := getD_opt h46
                        have HK := Lib.hid hK
                        have HJ := Lib.hid hJ
                        clear hK hJ hcl hrd hfr hsz ho
                        go_simp
                        exact HK.out _ _ (HJ.out.pure (by decide +kernel) 1 (by decide) (by decide) (by decide) (by first | rfl | rw [hwk]))
                      · cases (show some _ = some o from ho)
                        have hg : bx.tmps.getD 47 undef = .bool true := hJ.m 1 (by decide) (hrd ⟨1, .guard⟩ (by simp) rfl)
                        refine ite_no ((wanted_of rfl rfl rfl hg).trans rfl) ?_
                        exact hK undef _ (hJ.pure (by decide +kernel) 2 (by decide) (by decide) (by decide) rfl)
                      · cases (show some _ = some o from ho)
                        have hg : bx.tmps.getD 47 undef = .bool true := hJ.m 1 (by decide) (hrd ⟨1, .guard⟩ (by simp) rfl)
                        refine ite_no ((wanted_of rfl rfl rfl hg).trans rfl) ?_
                        exact hK undef _ (hJ.pure (by decide +kernel) 3 (by decide) (by decide) (by decide) rfl)
                      · cases (show some _ = some o from ho)
                        have hg : bx.tmps.getD 47 undef = .bool true := hJ.m 1 (by decide) (hrd ⟨1, .guard⟩ (by simp) rfl)
                        refine ite_no ((wanted_of rfl rfl rfl hg).trans rfl) ?_
                        exact hK undef _ (hJ.pure (by decide +kernel) 4 (by decide) (by decide) (by decide) rfl)
                      · cases (show some _ = some o from ho)
                        have hg : bx.tmps.getD 47 undef = .bool true := hJ.m 1 (by decide) (hrd ⟨1, .guard⟩ (by simp) rfl)
                        refine ite_no ((wanted_of rfl rfl rfl hg).trans rfl) ?_
                        exact hK undef _ (hJ.pure (by decide +kernel) 5 (by decide) (by decide) (by decide) rfl)
                      · cases (show some _ = some o from ho)
                        have hg : bx.tmps.getD 47 undef = .bool true := hJ.m 1 (by decide) (hrd ⟨1, .guard⟩ (by simp) rfl)
                        refine ite_no ((wanted_of rfl rfl rfl hg).trans rfl) ?_
                        exact hK undef _ (hJ.pure (by decide +kernel) 6 (by decide) (by decide) (by decide) rfl)
                      · cases (show some _ = some o from ho)
                        have hg : bx.tmps.getD 47 undef = .bool true := hJ.m 1 (by decide) (hrd ⟨1, .guard⟩ (by simp) rfl)
                        refine ite_no ((wanted_of rfl rfl rfl hg).trans rfl) ?_
                        exact hK undef _ (hJ.pure (by decide +kernel) 7 (by decide) (by decide) (by decide) rfl)
                      · cases (show some _ = some o from ho)
                        have hg : bx.tmps.getD 47 undef = .bool true := hJ.m 1 (by decide) (hrd ⟨1, .guard⟩ (by simp) rfl)
                        refine ite_no ((wanted_of rfl rfl rfl hg).trans rfl) ?_
                        exact hK undef _ (hJ.pure (by decide +kernel) 8 (by decide) (by decide) (by decide) rfl)
                      · cases (show some _ = some o from ho)
                        refine ite_yes (by rfl) ?_
                        have h47 : bx.tmps.getD 47 undef = .bool true := hJ.m 1 (by decide) (hrd ⟨1, .data⟩ (by simp) rfl)
                        have f47 := getD_opt h47
                        have h54 : bx.tmps.getD 54 undef = undef := hJ.m 8 (by decide) (hrd ⟨8, .data⟩ (by simp) rfl)
                        have HK := Lib.hid hK
                        have HJ := Lib.hid hJ
                        clear hK hJ hcl hrd hfr hsz ho
                        go_simp
                        exact HK.out _ _ (HJ.out.pure (by decide +kernel) 9 (by decide) (by decide) (by decide) (by first | rfl | rw [hwk]))
                      · cases (show some _ = some o from ho)
                        refine ite_yes (by rfl) ?_
                        have h55 : bx.tmps.getD 55 undef = .bool true := hJ.m 9 (by decide) (hrd ⟨9, .data⟩ (by simp) rfl)
                        have f55 := getD_opt h55
                        have HK := Lib.hid hK
                        have HJ := Lib.hid hJ
                        clear hK hJ hcl hrd hfr hsz ho
                        go_simp
                        exact HK.out _ _ (HJ.out.pure (by decide +kernel) 10 (by decide) (by decide) (by decide) (by first | rfl | rw [hwk]))
                    · intro ff bx wb hall hsz hdf hfr hJ
                      have HBW := Lib.hid hJ.below
                      obtain ⟨tm, df⟩ := bx
                      obtain rfl : df = [] := hdf
                      have q0 : tm.getD 0 undef = .string s := hfr 0 (noDst_of (by kernel_rfl))
                      have q1 : tm.getD 1 undef = undef := hfr 1 (noDst_of (by kernel_rfl))
                      have q2 : tm.getD 2 undef = .slice none 0 0 := hfr 2 (noDst_of (by kernel_rfl))
                      have q3 : tm.getD 3 undef = .slice (some ⟨g2, off2, none⟩) m c3 := hfr 3 (noDst_of (by kernel_rfl))
                      have q4 : tm.getD 4 undef = .slice (some ⟨b, off, none⟩) n c := hfr 4 (noDst_of (by kernel_rfl))
                      have q5 : tm.getD 5 undef = .int .i64 k := hfr 5 (noDst_of (by kernel_rfl))
                      have q6 : tm.getD 6 undef = .string x := hfr 6 (noDst_of (by kernel_rfl))
                      have q8 : tm.getD 8 undef = .int .i64 i := hfr 8 (noDst_of (by kernel_rfl))
                      have q9 : tm.getD 9 undef = .slice (some ⟨w.heap.size, 0, none⟩) 0 0 := hfr 9 (noDst_of (by kernel_rfl))
                      have q10 : tm.getD 10 undef = .string s := hfr 10 (noDst_of (by kernel_rfl))
                      have q11 : tm.getD 11 undef = .slice (some ⟨b, off, none⟩) n c := hfr 11 (noDst_of (by kernel_rfl))
                      have q12 : tm.getD 12 undef = .int .i64 k := hfr 12 (noDst_of (by kernel_rfl))
                      have q13 : tm.getD 13 undef = .slice (some ⟨b, off, none⟩) n c := hfr 13 (noDst_of (by kernel_rfl))
                      have q14 : tm.getD 14 undef = .int .i64 n := hfr 14 (noDst_of (by kernel_rfl))
                      have q15 : tm.getD 15 undef = .bool true := hfr 15 (noDst_of (by kernel_rfl))
                      have q16 : tm.getD 16 undef = .bool true := hfr 16 (noDst_of (by kernel_rfl))
                      have q17 : tm.getD 17 undef = .string s := hfr 17 (noDst_of (by kernel_rfl))
                      have q18 : tm.getD 18 undef = .bool true := hfr 18 (noDst_of (by kernel_rfl))
                      have q19 : tm.getD 19 undef = .bool true := hfr 19 (noDst_of (by kernel_rfl))
                      have q20 : tm.getD 20 undef = u20 := hfr 20 (noDst_of (by kernel_rfl))
                      have q21 : tm.getD 21 undef = u21 := hfr 21 (noDst_of (by kernel_rfl))
                      have q22 : tm.getD 22 undef = .slice (some ⟨b, off, none⟩) n c := hfr 22 (noDst_of (by kernel_rfl))
                      have q23 : tm.getD 23 undef = .int .i64 k := hfr 23 (noDst_of (by kernel_rfl))
                      have q24 : tm.getD 24 undef = .pointer (some ⟨b, off + k, none⟩) := hfr 24 (noDst_of (by kernel_rfl))
                      have q25 : tm.getD 25 undef = .string z := hfr 25 (noDst_of (by kernel_rfl))
                      have q26 : tm.getD 26 undef = .string x := hfr 26 (noDst_of (by kernel_rfl))
                      have q27 : tm.getD 27 undef = .string x := hfr 27 (noDst_of (by kernel_rfl))
                      have q28 : tm.getD 28 undef = .bool false := hfr 28 (noDst_of (by kernel_rfl))
                      have q29 : tm.getD 29 undef = .bool false := hfr 29 (noDst_of (by kernel_rfl))
                      have q30 : tm.getD 30 undef = .string x := hfr 30 (noDst_of (by kernel_rfl))
                      have q31 : tm.getD 31 undef = .int .u8 35 := hfr 31 (noDst_of (by kernel_rfl))
                      have q32 : tm.getD 32 undef = .bool false := hfr 32 (noDst_of (by kernel_rfl))
                      have q33 : tm.getD 33 undef = .bool false := hfr 33 (noDst_of (by kernel_rfl))
                      have q34 : tm.getD 34 undef = .bool false := hfr 34 (noDst_of (by kernel_rfl))
                      have q35 : tm.getD 35 undef = .string x := hfr 35 (noDst_of (by kernel_rfl))
                      have q36 : tm.getD 36 undef = .string (x.extract 1 x.size) := hfr 36 (noDst_of (by kernel_rfl))
                      have q37 : tm.getD 37 undef = .bool true := hfr 37 (noDst_of (by kernel_rfl))
                      have q38 : tm.getD 38 undef = .bool false := hfr 38 (noDst_of (by kernel_rfl))
                      have q39 : tm.getD 39 undef = .bool false := hfr 39 (noDst_of (by kernel_rfl))
                      have q56 : tm.getD 56 undef = u56 := hfr 56 (noDst_of (by kernel_rfl))
                      have q57 : tm.getD 57 undef = u57 := hfr 57 (noDst_of (by kernel_rfl))
                      have q58 : tm.getD 58 undef = u58 := hfr 58 (noDst_of (by kernel_rfl))
                      have q59 : tm.getD 59 undef = u59 := hfr 59 (noDst_of (by kernel_rfl))
                      have q60 : tm.getD 60 undef = u60 := hfr 60 (noDst_of (by kernel_rfl))
                      have q61 : tm.getD 61 undef = u61 := hfr 61 (noDst_of (by kernel_rfl))
                      have q62 : tm.getD 62 undef = u62 := hfr 62 (noDst_of (by kernel_rfl))
                      have q63 : tm.getD 63 undef = undef := hfr 63 (noDst_of (by kernel_rfl))
                      have q7 : tm.getD 7 undef = .bool true := hJ.m 10 (by decide) (hall 10 (by decide))
                      have q := lit_of tm 64 hsz
                      simp only [List.range, List.range.loop, List.map, q0, q1, q2, q3, q4, q5, q6, q8, q9, q10, q11, q12, q13, q14, q15, q16, q17, q18, q19, q20, q21, q22, q23, q24, q25, q26, q27, q28, q29, q30, q31, q32, q33, q34, q35, q36, q37, q38, q39, q56, q57, q58, q59, q60, q61, q62, q63, q7] at q
                      have HQ := Lib.hid q
                      clear q hsz hfr hJ hall q0 q1 q2 q3 q4 q5 q6 q8 q9 q10 q11 q12 q13 q14 q15 q16 q17 q18 q19 q20 q21 q22 q23 q24 q25 q26 q27 q28 q29 q30 q31 q32 q33 q34 q35 q36 q37 q38 q39 q56 q57 q58 q59 q60 q61 q62 q63 q7
                      rw [HQ.out]
                      generalize tm.getD 40 undef = x40
                      generalize tm.getD 41 undef = x41
                      generalize tm.getD 42 undef = x42
                      generalize tm.getD 43 undef = x43
                      generalize tm.getD 44 undef = x44
                      generalize tm.getD 45 undef = x45
                      generalize tm.getD 46 undef = x46
                      generalize tm.getD 47 undef = x47
                      generalize tm.getD 48 undef = x48
                      generalize tm.getD 49 undef = x49
                      generalize tm.getD 50 undef = x50
                      generalize tm.getD 51 undef = x51
                      generalize tm.getD 52 undef = x52
                      generalize tm.getD 53 undef = x53
                      generalize tm.getD 54 undef = x54
                      generalize tm.getD 55 undef = x55
                      clear HQ
                      have hb2 := HBW.out
                      go_wp2
                      go_roundw
                      case rel => first | exact ⟨i + 1, by omega, by go_num, by rw [HO9.out], belB HB3.out HB3.out.size hb2⟩ | ((repeat apply Exists.intro); exact ⟨⟨i + 1, by omega, by go_num, by rw [HO9.out], belB HB3.out HB3.out.size hb2⟩, rfl⟩)
                      case measure => simp [intOf]; omega
                · obtain rfl : i = m := by omega
                  have HO2 := Lib.hid (own_below HO.out HB3.out); have HWR2 := Lib.hid (own_below HWR.out HB3.out); have HB2 := Lib.hid (belB HB.out HB.out.size HB3.out)
                  have hlw := Lib.hid HB3.out.size
                  clear HO HWR HB HB3
                  cases hok : fnJ acc (x.extract 1 x.size) i
                  · have HE : Hid (tgK (W.map ctB) (k + 1) = acc ++ [x.extract 1 x.size]) := Lib.hid (by rw [HK1.out, HF.out, hok]; rfl)
                    clear HF HK1
                    go_wp2_with (first
                      | (at_builtin
                         refine wpList_append1g _ rfl _ _ 42 rfl w.heap.size 9 i0 (.string ⟨#[]⟩) 1 16 Tryd.underlying42 HI.out HZ0.out HZ1.out HZ2.out rfl (by decide) [.string (x.extract 1 x.size)] rfl (by intro u hu; simp at hu; subst hu; rfl) _ i (svs acc) _ _ HO2.out rfl rfl _ rfl rfl (by simp only [maxLen]; omega) (by omega) HB2.out.size ?_
                         intro g' cap' w5 ho5 hg5 hor5 hlt5
                         have HO5 : Hid (w5.ownsRow w.heap.size 9 1 (.slice (some ⟨g', 0, none⟩) (i + 1) cap') (i + 1) (svs (acc ++ [x.extract 1 x.size]))) := Lib.hid (by rw [svs_app, svs_one]; exact ho5)
                         have HB5 : Hid (Below w.heap.size w w5) := Lib.hid (below_grown HB2.out hg5 HO2.out (Nat.le_refl _) HB2.out.size)
                         have HWR5 : Hid (w5.ownsRow w.heap.size 9 1 (.slice (some ⟨b, off, none⟩) n c) n (svs W)) := Lib.hid (HWR2.out.kept hg5 HAP.out)
                         have HAP5 : Hid (APd (.slice (some ⟨b, off, none⟩) n c) (.slice (some ⟨g', 0, none⟩) (i + 1) cap')) := Lib.hid (by
                           refine .inr fun e => ?_
                           have e2 : b = g' := by simpa [Value.ownBlock] using e
                           subst e2
                           rcases hor5 with h5 | h5
                           · rcases HAP.out with h6 | h6
                             · simp [Value.ownBlock] at h6
                             · exact h6 (e.trans h5.symm)
                           · have := (HWR2.out.lt b rfl).2; omega)
                         clear ho5 hg5 hor5))
                    go_wp2
                    go_roundw
                    case rel => exact ⟨k + 1, by omega, by go_num, by rw [HE.out, List.length_append, HM.out]; exact HO5.out, HWR5.out, HB5.out, HAP5.out, fun h => by cases h⟩
                    case measure => simp [intOf]; omega
                  · have HE : Hid (tgK (W.map ctB) (k + 1) = acc) := Lib.hid (by rw [HK1.out, HF.out, hok]; rfl)
                    clear HF HK1
                    go_wp2
                    go_roundw
                    case rel => exact ⟨k + 1, by omega, by go_num, by rw [HE.out, HM.out]; exact HO2.out, HWR2.out, HB2.out, HAP.out, fun h => by cases h⟩
                    case measure => simp [intOf]; omega
    · obtain rfl : k = n := by omega
      have HT : Hid (tvB s = true) := Lib.hid (by cases ht : tvB s with | true => rfl | false => have := HV0.out ht; omega)
      have HX : Hid (tgK (W.map ctB) k = R) := Lib.hid (by rw [HR1.out HT.out, ← tgK_end, List.length_map, HN.out])
      rw [HX.out] at HO
      go_wp2
      go_ret
      exact ⟨_, rfl, HO.out, HB.out⟩
end Go.Proofs.YtpbnbekkmifbpaaDoor
