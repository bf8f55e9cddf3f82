/-
  The contract of MentionsIn of the reference.
-/
import Derived.Test.YtpbnbekkmifbpaaDoorMnI
import Derived.Test.YtpbnbekkmifbpaaDoorRh3
import Derived.Test.YtpbnbekkmifbpaaDoorWords1
namespace Go.Proofs.YtpbnbekkmifbpaaDoor
open Go.ChangeShapes Go.WideShapes Go.ChangeAt Go.RowKit Go.Joins Go.Shelf
set_option linter.unusedVariables false

theorem neHa (x y : Ha) (w : World) : (binOp .neq 29 (.agg #[.string x.a, .string x.b]) (.agg #[.string y.a, .string y.b])).run Tryd.prog w = .ok (.bool (!haE x y)) w := by
  have hS : Tryd.prog.underlying 29 = some (.struct (Tryd.prog.fieldsOf 29)) := by kernel_rfl
  have hp : Tryd.prog.stoodInHeld 29 = false := by kernel_rfl
  rw [run_neq_struct, show (10000 : Nat) = 9999 + 1 from rfl, run_equalIn_agg w 9999 29 _ _ hS hp]
  simp only [Program.fieldsOf, Tryd.underlying29]
  go_simp
  unfold haE
  by_cases h1 : x.a.toList = y.a.toList <;> by_cases h2 : x.b.toList = y.b.toList <;> simp [h1, h2]
theorem own_diff {w : World} {b1 b2 s1 s2 n1 n2 : Nat} {e1 e2 : TypeId} {v1 v2 : Value} {x1 x2 : List Value} (h1 : w.ownsRow b1 e1 s1 v1 n1 x1) (h2 : w.ownsRow b2 e2 s2 v2 n2 x2) (hne : e1 ≠ e2) : v1.ownBlock = none ∨ v1.ownBlock ≠ v2.ownBlock := by
  rcases h1.2 with ⟨rfl, _⟩ | ⟨g1, c1, u1, rfl, _, hh1, _⟩
  · exact .inl rfl
  · refine .inr fun e => ?_
    rcases h2.2 with ⟨rfl, _⟩ | ⟨g2, c2, u2, rfl, _, hh2, _⟩
    · simp [Value.ownBlock] at e
    · have : g1 = g2 := by simpa [Value.ownBlock] using e
      subst this
      rw [hh1] at hh2
      injection hh2 with hh2
      injection hh2 with _ ht
      exact hne ht
/-- The handle r is good, and none of the first j. -/
def okJ (v : Bool) (acc : List Ha) (r : Ha) (j : Nat) : Bool := v && !inH (acc.take j) r
theorem okJ_0 (v : Bool) (acc : List Ha) (r : Ha) : okJ v acc r 0 = v := by simp [okJ, inH]
theorem okJ_end (v : Bool) (acc : List Ha) (r : Ha) : okJ v acc r acc.length = (v && !inH acc r) := by simp [okJ]
theorem okJ_succ {v : Bool} {acc : List Ha} {r y : Ha} {j : Nat} (h : acc[j]? = some y) : okJ v acc r (j + 1) = (okJ v acc r j && !haE y r) := by
  unfold okJ inH; rw [take_snoc_get acc j y h, List.any_append]
  simp only [List.any_cons, List.any_nil, Bool.or_false, Bool.not_or, haE_comm y r, Bool.and_assoc]
theorem mnF_ok (acc : List Ha) (z : ByteArray) : mnF acc z = if okJ (rhV z) acc (rhH z) acc.length = true then acc ++ [rhH z] else acc := by rw [okJ_end]; rfl

set_option maxRecDepth 100000 in
set_option maxHeartbeats 16000000 in
theorem smn_any (s : ByteArray) (w : World) (hs : s.size ≤ 1048576) :
    Calls Tryd.prog 12 #[.string s] w fun e w' => ∃ v, e = .returned v ∧ w'.ownsRow w.heap.size 29 2 v (mnB s).length (has (mnB s)) ∧ Below w.heap.size w w' := by
  obtain ⟨i0, hi, hz0, hz1, hz2⟩ := info_parts ha_info
  have HI := Lib.hid hi; have HZ0 := Lib.hid hz0; have HZ1 := Lib.hid hz1; have HZ2 := Lib.hid hz2
  clear hi hz0 hz1 hz2
  have HS : Hid (s.size ≤ maxLen) := Lib.hid (by simp only [maxLen]; omega)
  have HWO := Lib.hid (fun w => l1w_any s w hs)
  have hwl := (wsB_len s).2
  have hw1 := (wsB_len s).1
  have HWM : Hid (∀ z ∈ wsB s, z.size ≤ maxLen) := Lib.hid (fun z hz => by have := wsB_mem hz; simp only [maxLen]; omega)
  generalize hR : mnB s = R at *
  have HR1 : Hid (tvB s = true → R = ((wsB s).map ctB).foldl mnF []) := Lib.hid (fun h => by rw [← hR, mnB, wdB_yes h])
  have HR0 : Hid (tvB s = false → R = []) := Lib.hid (fun h => by rw [← hR, mnB, wdB_no h]; rfl)
  clear hR
  generalize hW : wsB s = W at *
  generalize hn : W.length = n at hwl hw1 HWO
  have HN := Lib.hid hn
  clear hn hW
  go_enter Tryd.func12, Tryd.ntmps12
  go_wp2_with fail
  refine (HWO.out _).mono ?_
  rintro e w1 ⟨v, rfl, ho1, hb1⟩
  obtain ⟨A, c, rfl, hnc, hcm, hrd⟩ := own_form ho1
  have HOO : Hid (w1.ownsRow w.heap.size 29 2 (.slice (some ⟨w.heap.size, 0, none⟩) 0 0) 0 (has [])) := Lib.hid (own_below (World.ownsRow_made w #[] 0 (Nat.le_refl _) (by simp) (by simp)) hb1)
  have HBB : Hid (Below w.heap.size w w1) := Lib.hid (belt (bel1 rfl) hb1)
  have HRD := Lib.hid hrd
  have hal : (w.alloc (.cells #[] 29)).heap.size = w.heap.size + 1 := by simp
  have HWR : Hid (w1.ownsRow w.heap.size 9 1 (.slice A n c) n (svs W)) := Lib.hid (own_less ho1 (by simp))
  clear hrd ho1 hb1 hnc hcm HWO hal HRD
  go_wp2_with fail
  go_loopw [3, 5] (fun v i wr => ∃ k : Nat, k ≤ n ∧ i = .int .i64 k ∧ wr.ownsRow w.heap.size 29 2 v (mnK (W.map ctB) k).length (has (mnK (W.map ctB) k)) ∧ wr.ownsRow w.heap.size 9 1 (.slice A n c) n (svs W) ∧ Below w.heap.size w wr ∧ (tvB s = false → k = 0)) (fun _ i _ => n - (intOf i).toNat)
  case atStart => exact ⟨0, Nat.zero_le _, rfl, by rw [mnK_0]; exact HOO.out, HWR.out, HBB.out, fun _ => rfl⟩
  case round =>
    obtain ⟨k, hk, rfl, ho, hwr, hb, hv0⟩ := hrel
    have HO := Lib.hid ho; have HB := Lib.hid hb; have HWR := Lib.hid hwr; have HV0 := Lib.hid hv0
    clear ho hb hwr HOO HBB hv0
    by_cases hlt : k < n
    · cases ht : tvB s
      · have HE : Hid (R = mnK (W.map ctB) k) := Lib.hid (by rw [HR0.out ht, HV0.out ht, mnK_0])
        go_wp2_with fail
        refine (stv_any _ _ HS.out).mono ?_
        rw [ht]
        rintro e w' ⟨rfl, rfl⟩
        go_wp2_with fail
        go_ret
        exact ⟨_, rfl, by rw [HE.out]; exact HO.out, HB.out⟩
      · have HT := Lib.hid ht; clear ht
        obtain ⟨b, off, z, eA, hbl, hz, hcell⟩ := (rd_own HWR.out).sv hlt
        subst eA
        have HSZ := Lib.hid (HWM.out z (List.mem_of_getElem? hz))
        have HSC : Hid ((ctB z).size ≤ maxLen) := Lib.hid (Nat.le_trans (ctB_size z) HSZ.out)
        have HK1 : Hid (mnK (W.map ctB) (k + 1) = mnF (mnK (W.map ctB) k) (ctB z)) := Lib.hid (mnK_succ (by rw [List.getElem?_map, hz]; rfl))
        have hkl := mnK_len (W.map ctB) k
        clear hz
        generalize hacc : mnK (W.map ctB) k = acc at *
        clear hacc
        have HRH := Lib.hid (fun w => srh_any (ctB z) w HSC.out)
        have HF := Lib.hid (mnF_ok acc (ctB z))
        go_wp2_with fail
        refine (stv_any _ _ HS.out).mono ?_
        rw [HT.out]
        rintro e w' ⟨rfl, rfl⟩
        go_wp2_with fail
        refine (cut_any _ _ HSZ.out).mono ?_
        rintro e w' ⟨rfl, rfl⟩
        go_wp2_with fail
        refine (HRH.out _).mono ?_
        rintro e w2 ⟨rfl, hb2⟩
        have HB2 := Lib.hid (belB HB.out HB.out.size hb2); have HO2 := Lib.hid (own_below HO.out hb2); have HWR2 := Lib.hid (own_below HWR.out hb2)
        clear hb2 hcell HRH HB HO HWR
        generalize rhV (ctB z) = V at *
        generalize rhH (ctB z) = r at *
        obtain ⟨ra, rb⟩ := r
        have HO3 : Hid ((w2.alloc (.cells #[.string ra, .string rb] 29)).ownsRow w.heap.size 29 2 u3 acc.length (has acc)) := Lib.hid (HO2.out.alloc _)
        have HWR3 : Hid ((w2.alloc (.cells #[.string ra, .string rb] 29)).ownsRow w.heap.size 9 1 (.slice (some ⟨b, off, none⟩) n c) n (svs W)) := Lib.hid (HWR2.out.alloc _)
        have HB3 : Hid (Below w.heap.size w (w2.alloc (.cells #[.string ra, .string rb] 29))) := Lib.hid (HB2.out.alloc HB2.out.size _)
        have HK3 : Hid (Bk (w2.alloc (.cells #[.string ra, .string rb] 29)) w2.heap.size 29 #[.string ra, .string rb]) := Lib.hid (Bk.new w2 _ _)
        have HGR := Lib.hid HB2.out.size
        obtain ⟨A3, c3, e3, hnc3, hcm3, hrd3⟩ := own_form HO3.out
        clear hrd3 HO2 HWR2 HB2
        subst e3
        generalize hm : acc.length = m at *
        have HM := Lib.hid hm; clear hm
        go_wp2_with fail
        generalize hgr : w2.heap.size = gr at *
        clear hgr
        generalize w2.alloc (.cells #[.string ra, .string rb] 29) = w3 at *
        go_loopw [7, 8] (fun ok j wr => ∃ i : Nat, i ≤ m ∧ j = .int .i64 i ∧ ok = .bool (okJ V acc ⟨ra, rb⟩ i) ∧ wr.ownsRow w.heap.size 29 2 (.slice A3 m c3) m (has acc) ∧ wr.ownsRow w.heap.size 9 1 (.slice (some ⟨b, off, none⟩) n c) n (svs W) ∧ Bk wr gr 29 #[.string ra, .string rb] ∧ Below w.heap.size w wr) (fun _ j _ => m - (intOf j).toNat)
        case atStart => exact ⟨0, Nat.zero_le _, rfl, by rw [okJ_0], HO3.out, HWR3.out, HK3.out, HB3.out⟩
        case round =>
          obtain ⟨i, hi, rfl, rfl, ho, hwr, hk3, hb⟩ := hrel
          have HO := Lib.hid ho; have HB := Lib.hid hb; have HWR := Lib.hid hwr; have HK := Lib.hid hk3
          clear ho hb hwr hk3 HO3 HWR3 HK3 HB3
          by_cases hlt2 : i < m
          · obtain ⟨g2, off2, y, eA, hbl2, hy, hc0, hc1⟩ := (rd_own HO.out).ha hlt2
            subst eA
            have HOS := Lib.hid (okJ_succ (v := V) (r := ⟨ra, rb⟩) hy)
            clear hy
            obtain ⟨wo, rfl⟩ : ∃ wo : World, wo = wr := ⟨_, rfl⟩
            have d0 := HK.out.cell 0 (v := .string ra) rfl
            have d1 := HK.out.cell 1 (v := .string rb) rfl
            have hkl := HK.out.lt
            cases hok : okJ V acc ⟨ra, rb⟩ i
            · rw [hok] at HOS
              have HO9 := Lib.hid (HOS.out.trans (Bool.false_and _))
              clear HOS
              go_upto_region 10 with (fail)
              refine wp_region_inv' (TabJ 10 (fun j => [37, 38, 39, 40, 41, 42, 43, 44, 45, 7].getD j 0) (fun j v => match j with
                | 0 => v = .bool false
                | 1 => v = .bool false
                | 2 => v = undef
                | 3 => v = undef
                | 4 => v = undef
                | 5 => v = undef
                | 6 => v = undef
                | 7 => v = undef
                | 8 => v = .bool false
                | 9 => v = .bool false
                | _ => True) 9 (.bool false) 17 18 0 #[] #[] wo) (by kernel_rfl) (regOkI_of (by kernel_rfl)) (TabJ.start (by intro h; rfl)) ?_ ?_
              · intro i o ff bx wb ho hf hrd hcl hsz hfr hJ K hK
                have hi := (Array.getElem?_eq_some_iff.1 ho).1
                simp only [List.size_toArray, List.length_cons, List.length_nil] at hi
                have hcases : i = 0 ∨ i = 1 ∨ i = 2 ∨ i = 3 ∨ i = 4 ∨ i = 5 ∨ i = 6 ∨ i = 7 ∨ i = 8 ∨ i = 9 := by omega
                have hB := hJ.below.size
                rcases hcases with rfl | rfl | rfl | rfl | rfl | rfl | rfl | rfl | rfl | rfl
                · cases (show some _ = some o from ho)
                  refine ite_yes (by rfl) ?_
                  have hjw : ff 9 = false := by
                    cases e : ff 9
                    · rfl
                    · exfalso
                      have e8 := hcl 9 _ ⟨8, .data⟩ rfl e (by simp) rfl
                      have e1 := hcl 8 _ ⟨1, .data⟩ rfl e8 (by simp) rfl
                      have e0 := hcl 1 _ ⟨0, .data⟩ rfl e1 (by simp) rfl
                      rw [show ff 0 = true from e0] at hf; cases hf
                  have h7 : bx.tmps.getD 7 undef = .bool false := hJ.u (by decide) hjw
                  have f7 := getD_opt h7
                  have HK := Lib.hid hK
                  have HJ := Lib.hid hJ
                  clear hK hJ hcl hrd hfr hsz ho
                  go_simp
                  exact HK.out _ _ (HJ.out.pure (by decide +kernel) 0 (by decide) (by decide) (by decide) (by first | rfl | rw [hwk]))
                · cases (show some _ = some o from ho)
                  refine ite_yes (by rfl) ?_
                  have h37 : bx.tmps.getD 37 undef = .bool false := hJ.m 0 (by decide) (hrd ⟨0, .data⟩ (by simp) rfl)
                  have f37 := getD_opt h37
                  have HK := Lib.hid hK
                  have HJ := Lib.hid hJ
                  clear hK hJ hcl hrd hfr hsz ho
                  go_simp
                  exact HK.out _ _ (HJ.out.pure (by decide +kernel) 1 (by decide) (by decide) (by decide) (by first | rfl | rw [hwk]))
                · cases (show some _ = some o from ho)
                  have hg : bx.tmps.getD 38 undef = .bool false := hJ.m 1 (by decide) (hrd ⟨1, .guard⟩ (by simp) rfl)
                  refine ite_no ((wanted_of rfl rfl rfl hg).trans rfl) ?_
                  exact hK undef _ (hJ.pure (by decide +kernel) 2 (by decide) (by decide) (by decide) rfl)
                · cases (show some _ = some o from ho)
                  have hg : bx.tmps.getD 38 undef = .bool false := hJ.m 1 (by decide) (hrd ⟨1, .guard⟩ (by simp) rfl)
                  refine ite_no ((wanted_of rfl rfl rfl hg).trans rfl) ?_
                  exact hK undef _ (hJ.pure (by decide +kernel) 3 (by decide) (by decide) (by decide) rfl)
                · cases (show some _ = some o from ho)
                  have hg : bx.tmps.getD 38 undef = .bool false := hJ.m 1 (by decide) (hrd ⟨1, .guard⟩ (by simp) rfl)
                  refine ite_no ((wanted_of rfl rfl rfl hg).trans rfl) ?_
                  exact hK undef _ (hJ.pure (by decide +kernel) 4 (by decide) (by decide) (by decide) rfl)
                · cases (show some _ = some o from ho)
                  have hg : bx.tmps.getD 38 undef = .bool false := hJ.m 1 (by decide) (hrd ⟨1, .guard⟩ (by simp) rfl)
                  refine ite_no ((wanted_of rfl rfl rfl hg).trans rfl) ?_
                  exact hK undef _ (hJ.pure (by decide +kernel) 5 (by decide) (by decide) (by decide) rfl)
                · cases (show some _ = some o from ho)
                  have hg : bx.tmps.getD 38 undef = .bool false := hJ.m 1 (by decide) (hrd ⟨1, .guard⟩ (by simp) rfl)
                  refine ite_no ((wanted_of rfl rfl rfl hg).trans rfl) ?_
                  exact hK undef _ (hJ.pure (by decide +kernel) 6 (by decide) (by decide) (by decide) rfl)
                · cases (show some _ = some o from ho)
                  have hg : bx.tmps.getD 38 undef = .bool false := hJ.m 1 (by decide) (hrd ⟨1, .guard⟩ (by simp) rfl)
                  refine ite_no ((wanted_of rfl rfl rfl hg).trans rfl) ?_
                  exact hK undef _ (hJ.pure (by decide +kernel) 7 (by decide) (by decide) (by decide) rfl)
                · cases (show some _ = some o from ho)
                  refine ite_yes (by rfl) ?_
                  have h38 : bx.tmps.getD 38 undef = .bool false := hJ.m 1 (by decide) (hrd ⟨1, .data⟩ (by simp) rfl)
                  have f38 := getD_opt h38
                  have h44 : bx.tmps.getD 44 undef = undef := hJ.m 7 (by decide) (hrd ⟨7, .data⟩ (by simp) rfl)
                  have HK := Lib.hid hK
                  have HJ := Lib.hid hJ
                  clear hK hJ hcl hrd hfr hsz ho
                  go_simp
                  exact HK.out _ _ (HJ.out.pure (by decide +kernel) 8 (by decide) (by decide) (by decide) (by first | rfl | rw [hwk]))
                · cases (show some _ = some o from ho)
                  refine ite_yes (by rfl) ?_
                  have h45 : bx.tmps.getD 45 undef = .bool false := hJ.m 8 (by decide) (hrd ⟨8, .data⟩ (by simp) rfl)
                  have f45 := getD_opt h45
                  have HK := Lib.hid hK
                  have HJ := Lib.hid hJ
                  clear hK hJ hcl hrd hfr hsz ho
                  go_simp
                  exact HK.out _ _ (HJ.out.pure (by decide +kernel) 9 (by decide) (by decide) (by decide) (by first | rfl | rw [hwk]))
              · intro ff bx wb hall hsz hdf hfr hJ
                have HBW := Lib.hid hJ.below
                obtain ⟨tm, df⟩ := bx
                obtain rfl : df = [] := hdf
                have q0 : tm.getD 0 undef = .string s := hfr 0 (noDst_of (by kernel_rfl))
                have q1 : tm.getD 1 undef = undef := hfr 1 (noDst_of (by kernel_rfl))
                have q2 : tm.getD 2 undef = .slice none 0 0 := hfr 2 (noDst_of (by kernel_rfl))
                have q3 : tm.getD 3 undef = .slice (some ⟨g2, off2, none⟩) m c3 := hfr 3 (noDst_of (by kernel_rfl))
                have q4 : tm.getD 4 undef = .slice (some ⟨b, off, none⟩) n c := hfr 4 (noDst_of (by kernel_rfl))
                have q5 : tm.getD 5 undef = .int .i64 k := hfr 5 (noDst_of (by kernel_rfl))
                have q6 : tm.getD 6 undef = .pointer (some ⟨gr, 0, none⟩) := hfr 6 (noDst_of (by kernel_rfl))
                have q8 : tm.getD 8 undef = .int .i64 i := hfr 8 (noDst_of (by kernel_rfl))
                have q9 : tm.getD 9 undef = .slice (some ⟨w.heap.size, 0, none⟩) 0 0 := hfr 9 (noDst_of (by kernel_rfl))
                have q10 : tm.getD 10 undef = .string s := hfr 10 (noDst_of (by kernel_rfl))
                have q11 : tm.getD 11 undef = .slice (some ⟨b, off, none⟩) n c := hfr 11 (noDst_of (by kernel_rfl))
                have q12 : tm.getD 12 undef = .int .i64 k := hfr 12 (noDst_of (by kernel_rfl))
                have q13 : tm.getD 13 undef = .slice (some ⟨b, off, none⟩) n c := hfr 13 (noDst_of (by kernel_rfl))
                have q14 : tm.getD 14 undef = .int .i64 n := hfr 14 (noDst_of (by kernel_rfl))
                have q15 : tm.getD 15 undef = .bool true := hfr 15 (noDst_of (by kernel_rfl))
                have q16 : tm.getD 16 undef = .bool true := hfr 16 (noDst_of (by kernel_rfl))
                have q17 : tm.getD 17 undef = .string s := hfr 17 (noDst_of (by kernel_rfl))
                have q18 : tm.getD 18 undef = .bool true := hfr 18 (noDst_of (by kernel_rfl))
                have q19 : tm.getD 19 undef = .bool true := hfr 19 (noDst_of (by kernel_rfl))
                have q20 : tm.getD 20 undef = u20 := hfr 20 (noDst_of (by kernel_rfl))
                have q21 : tm.getD 21 undef = u21 := hfr 21 (noDst_of (by kernel_rfl))
                have q22 : tm.getD 22 undef = .tuple #[.agg #[.string ra, .string rb], .bool V] := hfr 22 (noDst_of (by kernel_rfl))
                have q23 : tm.getD 23 undef = .slice (some ⟨b, off, none⟩) n c := hfr 23 (noDst_of (by kernel_rfl))
                have q24 : tm.getD 24 undef = .int .i64 k := hfr 24 (noDst_of (by kernel_rfl))
                have q25 : tm.getD 25 undef = .pointer (some ⟨b, off + k, none⟩) := hfr 25 (noDst_of (by kernel_rfl))
                have q26 : tm.getD 26 undef = .string z := hfr 26 (noDst_of (by kernel_rfl))
                have q27 : tm.getD 27 undef = .string (ctB z) := hfr 27 (noDst_of (by kernel_rfl))
                have q28 : tm.getD 28 undef = .tuple #[.agg #[.string ra, .string rb], .bool V] := hfr 28 (noDst_of (by kernel_rfl))
                have q29 : tm.getD 29 undef = .agg #[.string ra, .string rb] := hfr 29 (noDst_of (by kernel_rfl))
                have q30 : tm.getD 30 undef = .bool V := hfr 30 (noDst_of (by kernel_rfl))
                have q46 : tm.getD 46 undef = u46 := hfr 46 (noDst_of (by kernel_rfl))
                have q47 : tm.getD 47 undef = u47 := hfr 47 (noDst_of (by kernel_rfl))
                have q48 : tm.getD 48 undef = u48 := hfr 48 (noDst_of (by kernel_rfl))
                have q49 : tm.getD 49 undef = u49 := hfr 49 (noDst_of (by kernel_rfl))
                have q50 : tm.getD 50 undef = u50 := hfr 50 (noDst_of (by kernel_rfl))
                have q51 : tm.getD 51 undef = undef := hfr 51 (noDst_of (by kernel_rfl))
                have q7 : tm.getD 7 undef = .bool false := hJ.m 9 (by decide) (hall 9 (by decide))
                have q := lit_of tm 52 hsz
                simp only [List.range, List.range.loop, List.map, q0, q1, q2, q3, q4, q5, q6, q8, q9, q10, q11, q12, q13, q14, q15, q16, q17, q18, q19, q20, q21, q22, q23, q24, q25, q26, q27, q28, q29, q30, q46, q47, q48, q49, q50, q51, q7] at q
                have HQ := Lib.hid q
                clear q hsz hfr hJ hall q0 q1 q2 q3 q4 q5 q6 q8 q9 q10 q11 q12 q13 q14 q15 q16 q17 q18 q19 q20 q21 q22 q23 q24 q25 q26 q27 q28 q29 q30 q46 q47 q48 q49 q50 q51 q7
                rw [HQ.out]
                generalize tm.getD 31 undef = x31
                generalize tm.getD 32 undef = x32
                generalize tm.getD 33 undef = x33
                generalize tm.getD 34 undef = x34
                generalize tm.getD 35 undef = x35
                generalize tm.getD 36 undef = x36
                generalize tm.getD 37 undef = x37
                generalize tm.getD 38 undef = x38
                generalize tm.getD 39 undef = x39
                generalize tm.getD 40 undef = x40
                generalize tm.getD 41 undef = x41
                generalize tm.getD 42 undef = x42
                generalize tm.getD 43 undef = x43
                generalize tm.getD 44 undef = x44
                generalize tm.getD 45 undef = x45
                clear HQ
                have hb2 := HBW.out
                go_wp2
                go_roundw
                case rel => first | exact ⟨i + 1, by omega, by go_num, by rw [HO9.out], own_below HO.out hb2, own_below HWR.out hb2, HK.out.keep hb2, belB HB.out HB.out.size hb2⟩ | ((repeat apply Exists.intro); exact ⟨⟨i + 1, by omega, by go_num, by rw [HO9.out], own_below HO.out hb2, own_below HWR.out hb2, HK.out.keep hb2, belB HB.out HB.out.size hb2⟩, rfl⟩)
                case measure => simp [intOf]; omega
            · rw [hok] at HOS
              have HO9 := Lib.hid (HOS.out.trans (Bool.true_and _))
              clear HOS
              go_upto_region 10 with (fail)
              refine wp_region_inv' (TabJ 10 (fun j => [37, 38, 39, 40, 41, 42, 43, 44, 45, 7].getD j 0) (fun j v => match j with
                | 0 => v = .bool true
                | 1 => v = .bool true
                | 2 => v = .slice (some ⟨g2, off2, none⟩) m c3
                | 3 => v = .int .i64 i
                | 4 => v = .pointer (some ⟨g2, off2 + i * 2, none⟩)
                | 5 => v = .agg #[.string y.a, .string y.b]
                | 6 => v = .agg #[.string ra, .string rb]
                | 7 => v = .bool (!haE y ⟨ra, rb⟩)
                | 8 => v = .bool (!haE y ⟨ra, rb⟩)
                | 9 => v = .bool (!haE y ⟨ra, rb⟩)
                | _ => True) 9 (.bool true) 17 18 0 #[] #[] wo) (by kernel_rfl) (regOkI_of (by kernel_rfl)) (TabJ.start (by intro h; rfl)) ?_ ?_
              · intro i o ff bx wb ho hf hrd hcl hsz hfr hJ K hK
                have hi := (Array.getElem?_eq_some_iff.1 ho).1
                simp only [List.size_toArray, List.length_cons, List.length_nil] at hi
                have hcases : i = 0 ∨ i = 1 ∨ i = 2 ∨ i = 3 ∨ i = 4 ∨ i = 5 ∨ i = 6 ∨ i = 7 ∨ i = 8 ∨ i = 9 := by omega
                have hB := hJ.below.size
                rcases hcases with rfl | rfl | rfl | rfl | rfl | rfl | rfl | rfl | rfl | rfl
                · cases (show some _ = some o from ho)
                  refine ite_yes (by rfl) ?_
                  have hjw : ff 9 = false := by
                    cases e : ff 9
                    · rfl
                    · exfalso
                      have e8 := hcl 9 _ ⟨8, .data⟩ rfl e (by simp) rfl
                      have e1 := hcl 8 _ ⟨1, .data⟩ rfl e8 (by simp) rfl
                      have e0 := hcl 1 _ ⟨0, .data⟩ rfl e1 (by simp) rfl
                      rw [show ff 0 = true from e0] at hf; cases hf
                  have h7 : bx.tmps.getD 7 undef = .bool true := hJ.u (by decide) hjw
                  have f7 := getD_opt h7
                  have HK := Lib.hid hK
                  have HJ := Lib.hid hJ
                  clear hK hJ hcl hrd hfr hsz ho
                  go_simp
                  exact HK.out _ _ (HJ.out.pure (by decide +kernel) 0 (by decide) (by decide) (by decide) (by first | rfl | rw [hwk]))
                · cases (show some _ = some o from ho)
                  refine ite_yes (by rfl) ?_
                  have h37 : bx.tmps.getD 37 undef = .bool true := hJ.m 0 (by decide) (hrd ⟨0, .data⟩ (by simp) rfl)
                  have f37 := getD_opt h37
                  have HK := Lib.hid hK
                  have HJ := Lib.hid hJ
                  clear hK hJ hcl hrd hfr hsz ho
                  go_simp
                  exact HK.out _ _ (HJ.out.pure (by decide +kernel) 1 (by decide) (by decide) (by decide) (by first | rfl | rw [hwk]))
                · cases (show some _ = some o from ho)
                  have hg : bx.tmps.getD 38 undef = .bool true := hJ.m 1 (by decide) (hrd ⟨1, .guard⟩ (by simp) rfl)
                  refine ite_yes ((wanted_of rfl rfl rfl hg).trans rfl) ?_
                  have h3 : bx.tmps.getD 3 undef = .slice (some ⟨g2, off2, none⟩) m c3 := hfr 3 (noDst_of (by kernel_rfl))
                  have f3 := getD_opt h3
                  have HK := Lib.hid hK
                  have HJ := Lib.hid hJ
                  clear hK hJ hcl hrd hfr hsz ho
                  go_simp
                  exact HK.out _ _ (HJ.out.pure (by decide +kernel) 2 (by decide) (by decide) (by decide) (by first | rfl | rw [hwk]))
                · cases (show some _ = some o from ho)
                  have hg : bx.tmps.getD 38 undef = .bool true := hJ.m 1 (by decide) (hrd ⟨1, .guard⟩ (by simp) rfl)
                  refine ite_yes ((wanted_of rfl rfl rfl hg).trans rfl) ?_
                  have h8 : bx.tmps.getD 8 undef = .int .i64 i := hfr 8 (noDst_of (by kernel_rfl))
                  have f8 := getD_opt h8
                  have HK := Lib.hid hK
                  have HJ := Lib.hid hJ
                  clear hK hJ hcl hrd hfr hsz ho
                  go_simp
                  exact HK.out _ _ (HJ.out.pure (by decide +kernel) 3 (by decide) (by decide) (by decide) (by first | rfl | rw [hwk]))
                · cases (show some _ = some o from ho)
                  have hg : bx.tmps.getD 38 undef = .bool true := hJ.m 1 (by decide) (hrd ⟨1, .guard⟩ (by simp) rfl)
                  refine ite_yes ((wanted_of rfl rfl rfl hg).trans rfl) ?_
                  have h39 : bx.tmps.getD 39 undef = .slice (some ⟨g2, off2, none⟩) m c3 := hJ.m 2 (by decide) (hrd ⟨2, .data⟩ (by simp) rfl)
                  have f39 := getD_opt h39
                  have h40 : bx.tmps.getD 40 undef = .int .i64 i := hJ.m 3 (by decide) (hrd ⟨3, .data⟩ (by simp) rfl)
                  have f40 := getD_opt h40
                  have HK := Lib.hid hK
                  have HJ := Lib.hid hJ
                  clear hK hJ hcl hrd hfr hsz ho
                  go_simp
                  try rw [if_pos (by omega)]
                  exact HK.out _ _ (HJ.out.pure (by decide +kernel) 4 (by decide) (by decide) (by decide) (by first | rfl | rw [hwk]))
                · cases (show some _ = some o from ho)
                  have hg : bx.tmps.getD 38 undef = .bool true := hJ.m 1 (by decide) (hrd ⟨1, .guard⟩ (by simp) rfl)
                  refine ite_yes ((wanted_of rfl rfl rfl hg).trans rfl) ?_
                  have h41 : bx.tmps.getD 41 undef = .pointer (some ⟨g2, off2 + i * 2, none⟩) := hJ.m 4 (by decide) (hrd ⟨4, .data⟩ (by simp) rfl)
                  have f41 := getD_opt h41
                  have c0 := (hJ.below.cell (p := ⟨g2, off2 + i * 2, none⟩) hbl2).trans hc0
                  have c1 := (hJ.below.cell (p := ⟨g2, off2 + i * 2 + 1, none⟩) hbl2).trans hc1
                  have d0' := (hJ.below.cell (p := ⟨gr, 0, none⟩) hkl).trans d0
                  have d1' := (hJ.below.cell (p := ⟨gr, 1, none⟩) hkl).trans d1
                  have HK := Lib.hid hK
                  have HJ := Lib.hid hJ
                  clear hK hJ hcl hrd hfr hsz ho
                  go_simp
                  exact HK.out _ _ (HJ.out.pure (by decide +kernel) 5 (by decide) (by decide) (by decide) (by first | rfl | rw [hwk]))
                · cases (show some _ = some o from ho)
                  have hg : bx.tmps.getD 38 undef = .bool true := hJ.m 1 (by decide) (hrd ⟨1, .guard⟩ (by simp) rfl)
                  refine ite_yes ((wanted_of rfl rfl rfl hg).trans rfl) ?_
                  have h6 : bx.tmps.getD 6 undef = .pointer (some ⟨gr, 0, none⟩) := hfr 6 (noDst_of (by kernel_rfl))
                  have f6 := getD_opt h6
                  have c0 := (hJ.below.cell (p := ⟨g2, off2 + i * 2, none⟩) hbl2).trans hc0
                  have c1 := (hJ.below.cell (p := ⟨g2, off2 + i * 2 + 1, none⟩) hbl2).trans hc1
                  have d0' := (hJ.below.cell (p := ⟨gr, 0, none⟩) hkl).trans d0
                  have d1' := (hJ.below.cell (p := ⟨gr, 1, none⟩) hkl).trans d1
                  have HK := Lib.hid hK
                  have HJ := Lib.hid hJ
                  clear hK hJ hcl hrd hfr hsz ho
                  go_simp
                  exact HK.out _ _ (HJ.out.pure (by decide +kernel) 6 (by decide) (by decide) (by decide) (by first | rfl | rw [hwk]))
                · cases (show some _ = some o from ho)
                  have hg : bx.tmps.getD 38 undef = .bool true := hJ.m 1 (by decide) (hrd ⟨1, .guard⟩ (by simp) rfl)
                  refine ite_yes ((wanted_of rfl rfl rfl hg).trans rfl) ?_
                  have h42 : bx.tmps.getD 42 undef = .agg #[.string y.a, .string y.b] := hJ.m 5 (by decide) (hrd ⟨5, .data⟩ (by simp) rfl)
                  have f42 := getD_opt h42
                  have h43 : bx.tmps.getD 43 undef = .agg #[.string ra, .string rb] := hJ.m 6 (by decide) (hrd ⟨6, .data⟩ (by simp) rfl)
                  have f43 := getD_opt h43
                  have HK := Lib.hid hK
                  have HJ := Lib.hid hJ
                  clear hK hJ hcl hrd hfr hsz ho
                  by_cases h1 : y.a.toList = ra.toList
                  · by_cases h2 : y.b.toList = rb.toList
                    · have hE : haE y ⟨ra, rb⟩ = true := by simp [haE, h1, h2]
                      go_simp
                      try rw [if_pos h1, if_pos h2]
                      exact HK.out _ _ (HJ.out.pure (by decide +kernel) 7 (by decide) (by decide) (by decide) (by rw [hE]; rfl))
                    · have hE : haE y ⟨ra, rb⟩ = false := by simp [haE, h2]
                      go_simp
                      try rw [if_pos h1, if_neg h2]
                      exact HK.out _ _ (HJ.out.pure (by decide +kernel) 7 (by decide) (by decide) (by decide) (by rw [hE]; rfl))
                  · have hE : haE y ⟨ra, rb⟩ = false := by simp [haE, h1]
                    go_simp
                    try rw [if_neg h1]
                    exact HK.out _ _ (HJ.out.pure (by decide +kernel) 7 (by decide) (by decide) (by decide) (by rw [hE]; rfl))
                · cases (show some _ = some o from ho)
                  refine ite_yes (by rfl) ?_
                  have h38 : bx.tmps.getD 38 undef = .bool true := hJ.m 1 (by decide) (hrd ⟨1, .data⟩ (by simp) rfl)
                  have f38 := getD_opt h38
                  have h44 : bx.tmps.getD 44 undef = .bool (!haE y ⟨ra, rb⟩) := hJ.m 7 (by decide) (hrd ⟨7, .data⟩ (by simp) rfl)
                  have f44 := getD_opt h44
                  have HK := Lib.hid hK
                  have HJ := Lib.hid hJ
                  clear hK hJ hcl hrd hfr hsz ho
                  go_simp
                  exact HK.out _ _ (HJ.out.pure (by decide +kernel) 8 (by decide) (by decide) (by decide) (by first | rfl | rw [hwk]))
                · cases (show some _ = some o from ho)
                  refine ite_yes (by rfl) ?_
                  have h45 : bx.tmps.getD 45 undef = .bool (!haE y ⟨ra, rb⟩) := hJ.m 8 (by decide) (hrd ⟨8, .data⟩ (by simp) rfl)
                  have f45 := getD_opt h45
                  have HK := Lib.hid hK
                  have HJ := Lib.hid hJ
                  clear hK hJ hcl hrd hfr hsz ho
                  go_simp
                  exact HK.out _ _ (HJ.out.pure (by decide +kernel) 9 (by decide) (by decide) (by decide) (by first | rfl | rw [hwk]))
              · intro ff bx wb hall hsz hdf hfr hJ
                have HBW := Lib.hid hJ.below
                obtain ⟨tm, df⟩ := bx
                obtain rfl : df = [] := hdf
                have q0 : tm.getD 0 undef = .string s := hfr 0 (noDst_of (by kernel_rfl))
                have q1 : tm.getD 1 undef = undef := hfr 1 (noDst_of (by kernel_rfl))
                have q2 : tm.getD 2 undef = .slice none 0 0 := hfr 2 (noDst_of (by kernel_rfl))
                have q3 : tm.getD 3 undef = .slice (some ⟨g2, off2, none⟩) m c3 := hfr 3 (noDst_of (by kernel_rfl))
                have q4 : tm.getD 4 undef = .slice (some ⟨b, off, none⟩) n c := hfr 4 (noDst_of (by kernel_rfl))
                have q5 : tm.getD 5 undef = .int .i64 k := hfr 5 (noDst_of (by kernel_rfl))
                have q6 : tm.getD 6 undef = .pointer (some ⟨gr, 0, none⟩) := hfr 6 (noDst_of (by kernel_rfl))
                have q8 : tm.getD 8 undef = .int .i64 i := hfr 8 (noDst_of (by kernel_rfl))
                have q9 : tm.getD 9 undef = .slice (some ⟨w.heap.size, 0, none⟩) 0 0 := hfr 9 (noDst_of (by kernel_rfl))
                have q10 : tm.getD 10 undef = .string s := hfr 10 (noDst_of (by kernel_rfl))
                have q11 : tm.getD 11 undef = .slice (some ⟨b, off, none⟩) n c := hfr 11 (noDst_of (by kernel_rfl))
                have q12 : tm.getD 12 undef = .int .i64 k := hfr 12 (noDst_of (by kernel_rfl))
                have q13 : tm.getD 13 undef = .slice (some ⟨b, off, none⟩) n c := hfr 13 (noDst_of (by kernel_rfl))
                have q14 : tm.getD 14 undef = .int .i64 n := hfr 14 (noDst_of (by kernel_rfl))
                have q15 : tm.getD 15 undef = .bool true := hfr 15 (noDst_of (by kernel_rfl))
                have q16 : tm.getD 16 undef = .bool true := hfr 16 (noDst_of (by kernel_rfl))
                have q17 : tm.getD 17 undef = .string s := hfr 17 (noDst_of (by kernel_rfl))
                have q18 : tm.getD 18 undef = .bool true := hfr 18 (noDst_of (by kernel_rfl))
                have q19 : tm.getD 19 undef = .bool true := hfr 19 (noDst_of (by kernel_rfl))
                have q20 : tm.getD 20 undef = u20 := hfr 20 (noDst_of (by kernel_rfl))
                have q21 : tm.getD 21 undef = u21 := hfr 21 (noDst_of (by kernel_rfl))
                have q22 : tm.getD 22 undef = .tuple #[.agg #[.string ra, .string rb], .bool V] := hfr 22 (noDst_of (by kernel_rfl))
                have q23 : tm.getD 23 undef = .slice (some ⟨b, off, none⟩) n c := hfr 23 (noDst_of (by kernel_rfl))
                have q24 : tm.getD 24 undef = .int .i64 k := hfr 24 (noDst_of (by kernel_rfl))
                have q25 : tm.getD 25 undef = .pointer (some ⟨b, off + k, none⟩) := hfr 25 (noDst_of (by kernel_rfl))
                have q26 : tm.getD 26 undef = .string z := hfr 26 (noDst_of (by kernel_rfl))
                have q27 : tm.getD 27 undef = .string (ctB z) := hfr 27 (noDst_of (by kernel_rfl))
                have q28 : tm.getD 28 undef = .tuple #[.agg #[.string ra, .string rb], .bool V] := hfr 28 (noDst_of (by kernel_rfl))
                have q29 : tm.getD 29 undef = .agg #[.string ra, .string rb] := hfr 29 (noDst_of (by kernel_rfl))
                have q30 : tm.getD 30 undef = .bool V := hfr 30 (noDst_of (by kernel_rfl))
                have q46 : tm.getD 46 undef = u46 := hfr 46 (noDst_of (by kernel_rfl))
                have q47 : tm.getD 47 undef = u47 := hfr 47 (noDst_of (by kernel_rfl))
                have q48 : tm.getD 48 undef = u48 := hfr 48 (noDst_of (by kernel_rfl))
                have q49 : tm.getD 49 undef = u49 := hfr 49 (noDst_of (by kernel_rfl))
                have q50 : tm.getD 50 undef = u50 := hfr 50 (noDst_of (by kernel_rfl))
                have q51 : tm.getD 51 undef = undef := hfr 51 (noDst_of (by kernel_rfl))
                have q7 : tm.getD 7 undef = .bool (!haE y ⟨ra, rb⟩) := hJ.m 9 (by decide) (hall 9 (by decide))
                have q := lit_of tm 52 hsz
                simp only [List.range, List.range.loop, List.map, q0, q1, q2, q3, q4, q5, q6, q8, q9, q10, q11, q12, q13, q14, q15, q16, q17, q18, q19, q20, q21, q22, q23, q24, q25, q26, q27, q28, q29, q30, q46, q47, q48, q49, q50, q51, q7] at q
                have HQ := Lib.hid q
                clear q hsz hfr hJ hall q0 q1 q2 q3 q4 q5 q6 q8 q9 q10 q11 q12 q13 q14 q15 q16 q17 q18 q19 q20 q21 q22 q23 q24 q25 q26 q27 q28 q29 q30 q46 q47 q48 q49 q50 q51 q7
                rw [HQ.out]
                generalize tm.getD 31 undef = x31
                generalize tm.getD 32 undef = x32
                generalize tm.getD 33 undef = x33
                generalize tm.getD 34 undef = x34
                generalize tm.getD 35 undef = x35
                generalize tm.getD 36 undef = x36
                generalize tm.getD 37 undef = x37
                generalize tm.getD 38 undef = x38
                generalize tm.getD 39 undef = x39
                generalize tm.getD 40 undef = x40
                generalize tm.getD 41 undef = x41
                generalize tm.getD 42 undef = x42
                generalize tm.getD 43 undef = x43
                generalize tm.getD 44 undef = x44
                generalize tm.getD 45 undef = x45
                clear HQ
                have hb2 := HBW.out
                go_wp2
                go_roundw
                case rel => first | exact ⟨i + 1, by omega, by go_num, by rw [HO9.out], own_below HO.out hb2, own_below HWR.out hb2, HK.out.keep hb2, belB HB.out HB.out.size hb2⟩ | ((repeat apply Exists.intro); exact ⟨⟨i + 1, by omega, by go_num, by rw [HO9.out], own_below HO.out hb2, own_below HWR.out hb2, HK.out.keep hb2, belB HB.out HB.out.size hb2⟩, rfl⟩)
                case measure => simp [intOf]; omega
          · obtain rfl : i = m := by omega
            have HTK : Hid (tvB s = false → k + 1 = 0) := Lib.hid (fun h => absurd (HT.out.symm.trans h) (by decide))
            cases hok : okJ V acc ⟨ra, rb⟩ i
            · have HE : Hid (mnK (W.map ctB) (k + 1) = acc) := Lib.hid (by rw [HK1.out, HF.out, hok]; rfl)
              clear HF HK1
              go_wp2
              go_roundw
              case rel => exact ⟨k + 1, by omega, by go_num, by rw [HE.out, HM.out]; exact HO.out, HWR.out, HB.out, fun h => by cases h⟩
              case measure => simp [intOf]; omega
            · have HE : Hid (mnK (W.map ctB) (k + 1) = acc ++ [⟨ra, rb⟩]) := Lib.hid (by rw [HK1.out, HF.out, hok]; rfl)
              have HDF := Lib.hid (own_diff HWR.out HO.out (by decide))
              clear HF HK1
              have d0 := HK.out.cell 0 (v := .string ra) rfl
              have d1 := HK.out.cell 1 (v := .string rb) rfl
              have hkl := HK.out.lt
              go_wp2_with (first
                | (at_builtin
                   refine wpList_append1 _ rfl _ _ 24 rfl w.heap.size 29 i0 (.agg #[.string ⟨#[]⟩, .string ⟨#[]⟩]) 2 32 Tryd.underlying24 HI.out HZ0.out HZ1.out HZ2.out rfl (by decide) [.string ra, .string rb] rfl (by intro u hu; simp at hu; rcases hu with rfl | rfl <;> rfl) _ i (has acc) _ _ HO.out rfl rfl _ rfl rfl (by simp only [maxLen]; omega) (by omega) HB.out.size ?_
                   intro v' w5 ho5 hg5
                   have HO5 : Hid (w5.ownsRow w.heap.size 29 2 v' (i + 1) (has (acc ++ [(⟨ra, rb⟩ : Ha)]))) := Lib.hid (by rw [has_app, has_one]; exact ho5)
                   have HB5 : Hid (Below w.heap.size w w5) := Lib.hid (below_grown HB.out hg5 HO.out (Nat.le_refl _) HB.out.size)
                   have HWR5 : Hid (w5.ownsRow w.heap.size 9 1 (.slice (some ⟨b, off, none⟩) n c) n (svs W)) := Lib.hid (HWR.out.kept hg5 HDF.out)
                   clear ho5 hg5))
              go_wp2
              go_roundw
              case rel => exact ⟨k + 1, by omega, by go_num, by rw [HE.out, List.length_append, HM.out]; exact HO5.out, HWR5.out, HB5.out, fun h => by cases h⟩
              case measure => simp [intOf]; omega
    · obtain rfl : k = n := by omega
      have HT : Hid (tvB s = true) := Lib.hid (by cases ht : tvB s with | true => rfl | false => have := HV0.out ht; omega)
      have HX : Hid (mnK (W.map ctB) k = R) := Lib.hid (by rw [HR1.out HT.out, ← mnK_end, List.length_map, HN.out])
      rw [HX.out] at HO
      go_wp2
      go_ret
      exact ⟨_, rfl, HO.out, HB.out⟩
end Go.Proofs.YtpbnbekkmifbpaaDoor
