/-
  The contract of ReadHandle of the reference.
-/
import Derived.Test.YtpbnbekkmifbpaaDoorRh2
namespace Go.Proofs.YtpbnbekkmifbpaaDoor
open Go.ChangeShapes Go.WideShapes Go.ChangeAt Go.RowKit Go.Joins
set_option linter.unusedVariables false

/-- No '@' behind the first place and ahead of k. -/
def nAt (s : ByteArray) (k : Nat) : Prop := ∀ j, j + 1 < k → (s.data.toList.drop 1)[j]? ≠ some 64
theorem nAt_1 (s : ByteArray) : nAt s 1 := fun j h => by omega
theorem dr_get {s : ByteArray} {k : Nat} (h : k + 1 < s.size) : (s.data.toList.drop 1)[k]? = some (s[k + 1]'h) := by
  have hl : k + 1 < s.data.toList.length := by rw [size_list]; exact h
  rw [List.getElem?_drop, show 1 + k = k + 1 by omega, List.getElem?_eq_getElem hl]
  rfl
theorem nAt_succ {s : ByteArray} {k : Nat} (hk : 1 ≤ k) (h : nAt s k) (hlt : k < s.size) (hc : ((s[k]'hlt).toNat : Int) ≠ 64) : nAt s (k + 1) := fun j hj => by
  by_cases e : j + 1 = k
  · subst e
    rw [dr_get hlt]
    intro e2; injection e2 with e2
    rw [e2] at hc; exact hc rfl
  · exact h j (by omega)
theorem at_found {s : ByteArray} {k : Nat} (hk : 1 ≤ k) (h : nAt s k) (hlt : k < s.size) (hc : ((s[k]'hlt).toNat : Int) = 64) : atI s = ((k - 1 : Nat) : Int) := by
  have hg : (s.data.toList.drop 1)[k - 1]? = some 64 := by
    have h2 : k - 1 + 1 < s.size := by omega
    have hsk : s[k - 1 + 1]'h2 = s[k]'hlt := by congr 1; omega
    rw [dr_get h2, hsk, show s[k]'hlt = 64 from UInt8.toNat_inj.1 (by show (s[k]'hlt).toNat = 64; omega)]
  have hge := Lib.indexByte_ge (s.data.toList.drop 1) 64
  by_cases e : atI s = -1
  · exact absurd hg (Lib.indexByte_none e _)
  · obtain ⟨o, ho⟩ : ∃ o : Nat, atI s = o := ⟨(atI s).toNat, by unfold atI at e ⊢; omega⟩
    obtain ⟨h1, h2⟩ := Lib.indexByte_some ho
    rw [ho]
    rcases Nat.lt_trichotomy o (k - 1) with h3 | h3 | h3
    · exact absurd h1 (h o (by omega))
    · rw [h3]
    · exact absurd hg (h2 _ h3)
theorem at_none {s : ByteArray} {k : Nat} (h : nAt s k) (hk : s.size ≤ k) : atI s = -1 := by
  have hge := Lib.indexByte_ge (s.data.toList.drop 1) 64
  by_cases e : atI s = -1
  · exact e
  · obtain ⟨o, ho⟩ : ∃ o : Nat, atI s = o := ⟨(atI s).toNat, by unfold atI at e ⊢; omega⟩
    have hr := at_room ho
    exact absurd (Lib.indexByte_some ho).1 (h o (by omega))
theorem rhV_hno {s : ByteArray} {i : Nat} (h : atI s = i) (hv : hdV (haI s i) = false) : rhV s = false := by rw [rhV, haOf_i h, hv, Bool.and_false]
theorem haI_eq {s : ByteArray} {k : Nat} (hk : 1 ≤ k) : haI s (k - 1) = ⟨s.extract 1 k, s.extract (k + 1) s.size⟩ := by
  rw [haI, show 1 + (k - 1) = k by omega]
theorem ht_same {s : ByteArray} {i : Nat} (h : atI s = i) (hv : hdV (haI s i) = true) : ((htB (haI s i)).toList == s.toList) = Lib.hasPrefix s.data.toList [64] := by
  have hr := at_room h
  have hg := (Lib.indexByte_some h).1
  cases hl : s.data.toList with
  | nil => have := size_list s; rw [hl] at this; simp at this; omega
  | cons c l =>
    have hl1 : s.data.toList.drop 1 = l := by rw [hl]; rfl
    rw [hl1] at hg
    have hil : i < l.length := get_lt hg
    have hd : l = l.take i ++ 64 :: l.drop (i + 1) := by
      conv => lhs; rw [← List.take_append_drop i l, List.drop_eq_getElem_cons hil, (List.getElem?_eq_some_iff.1 hg).2]
    have h1 : (s.extract 1 (1 + i)).data.toList = l.take i := by rw [ext_list, List.drop_take, hl1, show 1 + i - 1 = i by omega]
    have h2 : (s.extract (1 + i + 1) s.size).data.toList = l.drop (i + 1) := by
      rw [ext_list, List.take_of_length_le (by rw [size_list]; exact Nat.le_refl _), hl, show 1 + i + 1 = (i + 1) + 1 by omega, List.drop_succ_cons]
    have e : (htB (haI s i)).data.toList = 64 :: l := by
      rw [htB_yes hv]
      simp only [ByteArray.data_append, Array.toList_append, haI, h1, h2]
      conv => rhs; rw [hd]
      simp
    rw [Lib.toList_data, Lib.toList_data, e, hl]
    simp only [Lib.hasPrefix, List.isPrefixOf, Bool.and_true]
    rw [Bool.eq_iff_iff]
    simp

set_option maxRecDepth 100000 in
set_option maxHeartbeats 8000000 in
theorem srh_any (s : ByteArray) (w : World) (hs : s.size ≤ maxLen) :
    Calls Tryd.prog 39 #[.string s] w fun e w' => e = .returned (.tuple #[hav (rhH s), .bool (rhV s)]) ∧ Below w.heap.size w w' := by
  have hs' := hs
  unfold maxLen at hs'
  go_enter Tryd.func39, Tryd.ntmps39
  go_wp2_with fail
  have hkR : Bk (w.alloc (.cells #[.string ⟨#[]⟩, .string ⟨#[]⟩] 29)) w.heap.size 29 #[.string ⟨#[]⟩, .string ⟨#[]⟩] := Bk.new w _ _
  have HBR : Hid (Below w.heap.size w (w.alloc (.cells #[.string ⟨#[]⟩, .string ⟨#[]⟩] 29))) := Lib.hid (bel1 rfl)
  have hsR : (w.alloc (.cells #[.string ⟨#[]⟩, .string ⟨#[]⟩] 29)).heap.size = w.heap.size + 1 := by simp
  generalize w.alloc (.cells #[.string ⟨#[]⟩, .string ⟨#[]⟩] 29) = W at *
  have HKR := Lib.hid hkR; clear hkR
  go_loop [4] (fun i => ∃ k : Nat, 1 ≤ k ∧ k ≤ s.size + 1 ∧ i = .int .i64 k ∧ nAt s k) (fun i => s.size + 1 - (intOf i).toNat)
  case atStart => exact ⟨1, by omega, by omega, rfl, nAt_1 s⟩
  case round =>
    obtain ⟨k, hk1, hk, rfl, hn⟩ := hrel
    by_cases hlt : k < s.size
    · by_cases hc : ((s[k]'hlt).toNat : Int) = 64
      · have HI := Lib.hid (at_found hk1 hn hlt hc)
        have HE := Lib.hid (haI_eq (s := s) hk1)
        have hza : (s.extract 1 k).size ≤ maxLen := by rw [ByteArray.size_extract]; unfold maxLen; omega
        have hzb : (s.extract (k + 1) s.size).size ≤ maxLen := by rw [ByteArray.size_extract]; unfold maxLen; omega
        have HZA := Lib.hid hza; have HZB := Lib.hid hzb
        clear hn hza hzb
        have hwk : IntKind.i64.wrap ((k : Int) + 1) = (k : Int) + 1 := by rw [IntKind.wrap_i64]; omega
        go_upto_region 6 with (fail)
        refine wp_region_inv' (TabJ 10 (fun j => [23, 24, 25, 26, 27, 28, 29, 30, 5, 1009].getD j 0) (fun j v => match j with
          | 0 => v = .string s
          | 1 => v = .int .i64 k
          | 2 => v = .string (s.extract 1 k)
          | 3 => v = .string s
          | 4 => v = .int .i64 k
          | 5 => v = .int .i64 ((k : Int) + 1)
          | 6 => v = .string (s.extract (k + 1) s.size)
          | 7 => v = .agg #[.string (s.extract 1 k), .string (s.extract (k + 1) s.size)]
          | _ => True) 17 (undef) 8 9 29 #[.string ⟨#[]⟩, .string ⟨#[]⟩] #[.string (s.extract 1 k), .string (s.extract (k + 1) s.size)] W) (by kernel_rfl) (regOkI_of (by kernel_rfl)) (TabJ.start (by intro h; exact absurd h (by decide))) ?_ ?_
        · intro i o ff bx wb ho hf hrd hcl hsz hfr hJ K hK
          have hi := (Array.getElem?_eq_some_iff.1 ho).1
          simp only [List.size_toArray, List.length_cons, List.length_nil] at hi
          have hcases : i = 0 ∨ i = 1 ∨ i = 2 ∨ i = 3 ∨ i = 4 ∨ i = 5 ∨ i = 6 ∨ i = 7 ∨ i = 8 ∨ i = 9 := by omega
          have hB := hJ.below.size
          rcases hcases with rfl | rfl | rfl | rfl | rfl | rfl | rfl | rfl | rfl | rfl
          · cases (show some _ = some o from ho)
            refine ite_yes (by rfl) ?_
            have h0 : bx.tmps.getD 0 undef = .string s := hfr 0 (noDst_of (by kernel_rfl))
            have f0 := getD_opt h0
            have HK := Lib.hid hK
            have HJ := Lib.hid hJ
            clear hK hJ hcl hrd hfr hsz ho
            go_simp
            exact HK.out _ _ (HJ.out.pure (by decide +kernel) 0 (by decide) (by decide) (by decide) (by first | rfl | rw [hwk]))
          · cases (show some _ = some o from ho)
            refine ite_yes (by rfl) ?_
            have h4 : bx.tmps.getD 4 undef = .int .i64 k := hfr 4 (noDst_of (by kernel_rfl))
            have f4 := getD_opt h4
            have HK := Lib.hid hK
            have HJ := Lib.hid hJ
            clear hK hJ hcl hrd hfr hsz ho
            go_simp
            exact HK.out _ _ (HJ.out.pure (by decide +kernel) 1 (by decide) (by decide) (by decide) (by first | rfl | rw [hwk]))
          · cases (show some _ = some o from ho)
            refine ite_yes (by rfl) ?_
            have h23 : bx.tmps.getD 23 undef = .string s := hJ.m 0 (by decide) (hrd ⟨0, .data⟩ (by simp) rfl)
            have f23 := getD_opt h23
            have h24 : bx.tmps.getD 24 undef = .int .i64 k := hJ.m 1 (by decide) (hrd ⟨1, .data⟩ (by simp) rfl)
            have f24 := getD_opt h24
            have HK := Lib.hid hK
            have HJ := Lib.hid hJ
            clear hK hJ hcl hrd hfr hsz ho
            go_simp
            first | rw [if_pos (by omega), if_pos (by omega)] | rw [if_pos (by omega)] | skip
            exact HK.out _ _ (HJ.out.pure (by decide +kernel) 2 (by decide) (by decide) (by decide) (by first | rfl | rw [hwk]))
          · cases (show some _ = some o from ho)
            refine ite_yes (by rfl) ?_
            have h0 : bx.tmps.getD 0 undef = .string s := hfr 0 (noDst_of (by kernel_rfl))
            have f0 := getD_opt h0
            have HK := Lib.hid hK
            have HJ := Lib.hid hJ
            clear hK hJ hcl hrd hfr hsz ho
            go_simp
            exact HK.out _ _ (HJ.out.pure (by decide +kernel) 3 (by decide) (by decide) (by decide) (by first | rfl | rw [hwk]))
          · cases (show some _ = some o from ho)
            refine ite_yes (by rfl) ?_
            have h4 : bx.tmps.getD 4 undef = .int .i64 k := hfr 4 (noDst_of (by kernel_rfl))
            have f4 := getD_opt h4
            have HK := Lib.hid hK
            have HJ := Lib.hid hJ
            clear hK hJ hcl hrd hfr hsz ho
            go_simp
            exact HK.out _ _ (HJ.out.pure (by decide +kernel) 4 (by decide) (by decide) (by decide) (by first | rfl | rw [hwk]))
          · cases (show some _ = some o from ho)
            refine ite_yes (by rfl) ?_
            have h27 : bx.tmps.getD 27 undef = .int .i64 k := hJ.m 4 (by decide) (hrd ⟨4, .data⟩ (by simp) rfl)
            have f27 := getD_opt h27
            have HK := Lib.hid hK
            have HJ := Lib.hid hJ
            clear hK hJ hcl hrd hfr hsz ho
            go_simp
            exact HK.out _ _ (HJ.out.pure (by decide +kernel) 5 (by decide) (by decide) (by decide) (by first | rfl | rw [hwk]))
          · cases (show some _ = some o from ho)
            refine ite_yes (by rfl) ?_
            have h26 : bx.tmps.getD 26 undef = .string s := hJ.m 3 (by decide) (hrd ⟨3, .data⟩ (by simp) rfl)
            have f26 := getD_opt h26
            have h28 : bx.tmps.getD 28 undef = .int .i64 ((k : Int) + 1) := hJ.m 5 (by decide) (hrd ⟨5, .data⟩ (by simp) rfl)
            have f28 := getD_opt h28
            have HK := Lib.hid hK
            have HJ := Lib.hid hJ
            clear hK hJ hcl hrd hfr hsz ho
            go_simp
            first | rw [if_pos (by omega), if_pos (by omega)] | rw [if_pos (by omega)] | skip
            exact HK.out _ _ (HJ.out.pure (by decide +kernel) 6 (by decide) (by decide) (by decide) (by first | rfl | rw [hwk]))
          · cases (show some _ = some o from ho)
            refine ite_yes (by rfl) ?_
            have h25 : bx.tmps.getD 25 undef = .string (s.extract 1 k) := hJ.m 2 (by decide) (hrd ⟨2, .data⟩ (by simp) rfl)
            have f25 := getD_opt h25
            have h29 : bx.tmps.getD 29 undef = .string (s.extract (k + 1) s.size) := hJ.m 6 (by decide) (hrd ⟨6, .data⟩ (by simp) rfl)
            have f29 := getD_opt h29
            have HK := Lib.hid hK
            have HJ := Lib.hid hJ
            clear hK hJ hcl hrd hfr hsz ho
            go_simp
            exact HK.out _ _ (HJ.out.pure (by decide +kernel) 7 (by decide) (by decide) (by decide) (by first | rfl | rw [hwk]))
          · cases (show some _ = some o from ho)
            refine ite_yes (by rfl) ?_
            have hjs : ff 9 = false := by
              cases e : ff 9
              · rfl
              · exfalso
                have e1 := hcl 9 _ ⟨8, .data⟩ rfl e (by simp) rfl
                rw [show ff 8 = true from e1] at hf; cases hf
            have HK := Lib.hid hK
            have HJ := Lib.hid hJ
            clear hK hJ hcl hrd hfr hsz ho
            go_simp
            exact HK.out _ _ (HJ.out.alloc (by decide +kernel) (by decide) hjs (by decide) (by decide) (fun _ => trivial))
          · cases (show some _ = some o from ho)
            refine ite_yes (by rfl) ?_
            have hfa : ff 8 = true := hrd ⟨8, .data⟩ (by simp) rfl
            obtain ⟨g, e1, e2, e3⟩ := hJ.blk (by decide) hfa
            rw [hf, if_neg (by simp)] at e3
            have h5 : bx.tmps.getD 5 undef = .pointer (some ⟨g, 0, none⟩) := e1
            have f5 := getD_opt h5
            have h30 : bx.tmps.getD 30 undef = .agg #[.string (s.extract 1 k), .string (s.extract (k + 1) s.size)] := hJ.m 7 (by decide) (hrd ⟨7, .data⟩ (by simp) rfl)
            have f30 := getD_opt h30
            have y0 := e3.free 0
            have y1 := e3.free 1
            have yl := e3.lt
            have z0 := e3.cell 0 (v := .string ⟨#[]⟩) rfl
            have z1 := e3.cell 1 (v := .string ⟨#[]⟩) rfl
            have HK := Lib.hid hK
            have HJ := Lib.hid hJ
            have E1 := Lib.hid e1
            have E3 := Lib.hid e3
            clear hK hJ hcl hrd hfr hsz ho e1 e3 h5
            go_simp
            exact HK.out undef _ (HJ.out.store (by decide) hfa (by decide) (by decide) (fun _ => trivial) E1.out e2 ((E3.out.set_ 0 (.string (s.extract 1 k))).set_ 1 (.string (s.extract (k + 1) s.size))) (((Below.refl g wb).setCell (Nat.le_refl _) _).setCell (Nat.le_refl _) _))
        · intro ff bx wb hall hsz hdf hfr hJ
          have HBW := Lib.hid hJ.below
          obtain ⟨tm, df⟩ := bx
          obtain rfl : df = [] := hdf
          have q0 : tm.getD 0 undef = .string s := hfr 0 (noDst_of (by kernel_rfl))
          have q1 : tm.getD 1 undef = undef := hfr 1 (noDst_of (by kernel_rfl))
          have q2 : tm.getD 2 undef = .pointer (some ⟨w.heap.size, 0, none⟩) := hfr 2 (noDst_of (by kernel_rfl))
          have q3 : tm.getD 3 undef = .bool false := hfr 3 (noDst_of (by kernel_rfl))
          have q4 : tm.getD 4 undef = .int .i64 k := hfr 4 (noDst_of (by kernel_rfl))
          obtain ⟨ga, q5, hga, hka⟩ := hJ.blk (by decide) (hall 8 (by decide))
          rw [hall 9 (by decide), if_pos rfl] at hka
          have q5 : tm.getD 5 undef = .pointer (some ⟨ga, 0, none⟩) := q5
          have HKA := Lib.hid hka; have HGA := Lib.hid hga
          clear hka hga
          have q := lit_of tm 42 hsz
          simp only [List.range, List.range.loop, List.map, q0, q1, q2, q3, q4, q5] at q
          have HQ := Lib.hid q
          clear q hsz hfr hJ hall q0 q1 q2 q3 q4 q5
          rw [HQ.out]
          generalize tm.getD 6 undef = x6
          generalize tm.getD 7 undef = x7
          generalize tm.getD 8 undef = x8
          generalize tm.getD 9 undef = x9
          generalize tm.getD 10 undef = x10
          generalize tm.getD 11 undef = x11
          generalize tm.getD 12 undef = x12
          generalize tm.getD 13 undef = x13
          generalize tm.getD 14 undef = x14
          generalize tm.getD 15 undef = x15
          generalize tm.getD 16 undef = x16
          generalize tm.getD 17 undef = x17
          generalize tm.getD 18 undef = x18
          generalize tm.getD 19 undef = x19
          generalize tm.getD 20 undef = x20
          generalize tm.getD 21 undef = x21
          generalize tm.getD 22 undef = x22
          generalize tm.getD 23 undef = x23
          generalize tm.getD 24 undef = x24
          generalize tm.getD 25 undef = x25
          generalize tm.getD 26 undef = x26
          generalize tm.getD 27 undef = x27
          generalize tm.getD 28 undef = x28
          generalize tm.getD 29 undef = x29
          generalize tm.getD 30 undef = x30
          generalize tm.getD 31 undef = x31
          generalize tm.getD 32 undef = x32
          generalize tm.getD 33 undef = x33
          generalize tm.getD 34 undef = x34
          generalize tm.getD 35 undef = x35
          generalize tm.getD 36 undef = x36
          generalize tm.getD 37 undef = x37
          generalize tm.getD 38 undef = x38
          generalize tm.getD 39 undef = x39
          generalize tm.getD 40 undef = x40
          generalize tm.getD 41 undef = x41
          clear HQ
          have hkR : Bk wb w.heap.size 29 #[.string ⟨#[]⟩, .string ⟨#[]⟩] := HKR.out.keep HBW.out
          have HBL := Lib.hid (belt HBR.out (HBW.out.mono HBR.out.size |> fun h => HBW.out))
          have hkA := HKA.out
          have hga := HGA.out
          have hla := hkA.lt
          have hlR := hkR.lt
          have a0 := hkA.cell 0 (v := .string (s.extract 1 k)) rfl
          have a1 := hkA.cell 1 (v := .string (s.extract (k + 1) s.size)) rfl
          have hfr0 := hkR.free 0
          have hfr1 := hkR.free 1
          have g2 := hkR.cell 0 (v := .string ⟨#[]⟩) rfl
          have g3 := hkR.cell 1 (v := .string ⟨#[]⟩) rfl
          cases hv : hdV (haI s (k - 1))
          · have HV := Lib.hid (rhV_hno HI.out hv); have HH := Lib.hid (rhH_no HV.out)
            have HD : Hid (hdV ⟨s.extract 1 k, s.extract (k + 1) s.size⟩ = false) := Lib.hid (by rw [← HE.out]; exact hv)
            clear hv
            have G0 : ∀ u v o, (((wb.setCell ⟨w.heap.size, 0, none⟩ u).setCell ⟨w.heap.size, 1, none⟩ v).alloc o).cell? ⟨w.heap.size, 0, none⟩ = some u := fun u v o => (((hkR.set_ 0 u).set_ 1 v).alloc o).cell 0 rfl
            have G1 : ∀ u v o, (((wb.setCell ⟨w.heap.size, 0, none⟩ u).setCell ⟨w.heap.size, 1, none⟩ v).alloc o).cell? ⟨w.heap.size, 1, none⟩ = some v := fun u v o => (((hkR.set_ 0 u).set_ 1 v).alloc o).cell 1 rfl
            clear hkR hkA
            go_wp2_with fail
            refine (hd_spec _ _ _ HZA.out HZB.out).mono ?_
            rw [HD.out]
            rintro e w3 ⟨rfl, o, rfl⟩
            go_wp2_with fail
            refine bodyPost_ret (by simp [results, Tryd.results39, go_sem, G0, G1]; try rfl) rfl ?_
            refine ⟨by rw [HV.out, HH.out], ?_⟩
            go_grown
            exact HBL.out
          · have HS := Lib.hid (ht_same HI.out hv)
            have HD : Hid (hdV ⟨s.extract 1 k, s.extract (k + 1) s.size⟩ = true) := Lib.hid (by rw [← HE.out]; exact hv)
            have HHS := Lib.hid (htB_size (haI s (k - 1)))
            cases hp : Lib.hasPrefix s.data.toList [64]
            all_goals
              rw [hp] at HS
              (first
                | (have HV := Lib.hid (rhV_nop hp); have HH := Lib.hid (rhH_no HV.out))
                | (have HV := Lib.hid ((rhV_i hp HI.out).trans hv); have HH := Lib.hid (rhH_yes hp HI.out hv)))
              rw [HE.out] at HS HHS
              try rw [HE.out] at HH
              clear hp
              go_wp2_with fail
              refine (hd_spec _ _ _ HZA.out HZB.out).mono ?_
              rw [HD.out]
              rintro e w3 ⟨rfl, o, rfl⟩
              go_wp2_with fail
              refine (ht_spec _ _ _ HZA.out HZB.out).mono ?_
              rintro e w4 ⟨rfl, hb4⟩
              have hkR4 := (hkR.alloc o).keep hb4
              have hkA4 := (hkA.alloc o).keep hb4
              have HBL4 := Lib.hid (belt (HBL.out.alloc HBL.out.size o) hb4)
              clear hb4
              have a0 := hkA4.cell 0 (v := .string (s.extract 1 k)) rfl
              have a1 := hkA4.cell 1 (v := .string (s.extract (k + 1) s.size)) rfl
              have hlR4 := hkR4.lt
              have hfr0 := hkR4.free 0
              have hfr1 := hkR4.free 1
              have g2 := hkR4.cell 0 (v := .string ⟨#[]⟩) rfl
              have g3 := hkR4.cell 1 (v := .string ⟨#[]⟩) rfl
              have G0 : ∀ u v, ((w4.setCell ⟨w.heap.size, 0, none⟩ u).setCell ⟨w.heap.size, 1, none⟩ v).cell? ⟨w.heap.size, 0, none⟩ = some u := fun u v => ((hkR4.set_ 0 u).set_ 1 v).cell 0 rfl
              have G1 : ∀ u v, ((w4.setCell ⟨w.heap.size, 0, none⟩ u).setCell ⟨w.heap.size, 1, none⟩ v).cell? ⟨w.heap.size, 1, none⟩ = some v := fun u v => ((hkR4.set_ 0 u).set_ 1 v).cell 1 rfl
              clear hkR4 hkA4
              have hq := HS.out
              generalize htB ⟨s.extract 1 k, s.extract (k + 1) s.size⟩ = T at *
              go_wp2_with fail
              refine bodyPost_ret (by simp [results, Tryd.results39, go_sem, G0, G1]; try rfl) rfl ?_
              refine ⟨by rw [HV.out, HH.out], ?_⟩
              go_grown
              exact HBL4.out
      · have HN := Lib.hid (nAt_succ hk1 hn hlt hc)
        clear hn
        have hc2 : (((s[k]'hlt).toNat : Int) == 64) = false := by simpa using hc
        go_wp2
        go_round
        case rel => exact ⟨k + 1, by omega, by omega, by go_num, HN.out⟩
        case measure => simp [intOf]; omega
    · have HV := Lib.hid (rhV_noi (at_none hn (by omega))); have HH := Lib.hid (rhH_no HV.out)
      clear hn
      have hkR := HKR.out
      have hlR := hkR.lt
      have hfr0 := hkR.free 0
      have hfr1 := hkR.free 1
      have g2 := hkR.cell 0 (v := .string ⟨#[]⟩) rfl
      have g3 := hkR.cell 1 (v := .string ⟨#[]⟩) rfl
      have G0 : ∀ u v, ((W.setCell ⟨w.heap.size, 0, none⟩ u).setCell ⟨w.heap.size, 1, none⟩ v).cell? ⟨w.heap.size, 0, none⟩ = some u := fun u v => ((hkR.set_ 0 u).set_ 1 v).cell 0 rfl
      have G1 : ∀ u v, ((W.setCell ⟨w.heap.size, 0, none⟩ u).setCell ⟨w.heap.size, 1, none⟩ v).cell? ⟨w.heap.size, 1, none⟩ = some v := fun u v => ((hkR.set_ 0 u).set_ 1 v).cell 1 rfl
      clear hkR
      go_wp2_with fail
      refine bodyPost_ret (by simp [results, Tryd.results39, go_sem, G0, G1]; try rfl) rfl ?_
      refine ⟨by rw [HV.out, HH.out], (HBR.out.setCell (Nat.le_refl _) _).setCell (Nat.le_refl _) _⟩
end Go.Proofs.YtpbnbekkmifbpaaDoor
