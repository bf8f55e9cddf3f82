/-
  The contract of HearsFrom of the reference.
-/
import Derived.Test.YtajfglcoigklnaaHears
namespace Go.Proofs.Ytajfglcoigklnaa
open Go.ChangeShapes Go.WideShapes Go.ChangeAt Go.RowKit Go.Joins
set_option linter.unusedVariables false

set_option maxRecDepth 100000 in
set_option maxHeartbeats 16000000 in
theorem shf_any (A : Option Addr) (n c : Nat) (l : List Bl) (a : Ac) (w : World) (h : Rd w 3 A n (bls l)) (hnc : n ≤ c) (hc : c ≤ maxLen) (hs : ∀ z ∈ l, z.a.size ≤ maxLen) (h1 : a.who.a.size ≤ maxLen) (h2 : a.who.b.size ≤ maxLen) (h3 : a.what.size ≤ maxLen) :
    Calls Try.prog 25 #[.slice A n c, acv a] w fun e w' => e = .returned (.bool (hfB l a)) ∧ Below w.heap.size w w' := by
  have hll := rd_bllen h
  have H := Lib.hid h; have HLL := Lib.hid hll; have HS := Lib.hid hs; have HNC := Lib.hid hnc; have HNL := Lib.hid (Nat.le_trans hnc hc); have HC := Lib.hid hc; have H1 := Lib.hid h1; have H2 := Lib.hid h2; have H3 := Lib.hid h3; clear h hll hs h1 h2 h3
  unfold maxLen at hc
  generalize hr : hfB l a = r
  have HR := Lib.hid hr; clear hr
  obtain ⟨ak, an, ⟨ax, ay⟩, at_⟩ := a
  simp only at H1 H2 H3
  cases hv : bvB l
  · have HE : Hid (r = false) := Lib.hid (by rw [← HR.out]; exact hf_bad1 hv)
    go_enter Try.func25, Try.ntmps25
    go_wp2_with fail
    refine (sbv_any _ _ _ _ _ (H.out.alloc _) HNL.out HS.out).mono ?_
    rw [hv]
    rintro e w1 ⟨rfl, hb1⟩
    have HB1 := Lib.hid (bela hb1); clear hb1
    go_wp2_with fail
    go_ret
    exact ⟨ret_bool HE.out.symm, HB1.out⟩
  · have HV := Lib.hid hv; clear hv
    cases hac : acV ⟨ak, an, ⟨ax, ay⟩, at_⟩
    · have HE : Hid (r = false) := Lib.hid (by rw [← HR.out]; exact hf_bad2 hac)
      go_enter Try.func25, Try.ntmps25
      go_wp2_with fail
      refine (sbv_any _ _ _ _ _ (H.out.alloc _) HNL.out HS.out).mono ?_
      rw [HV.out]
      rintro e w1 ⟨rfl, hb1⟩
      have HK1 : Hid (Bk w1 w.heap.size 45 #[.int .i64 ak, .int .i64 an, .string ax, .string ay, .string at_]) := Lib.hid ((Bk.new w _ _).keep hb1)
      have HB1 := Lib.hid (bela hb1); clear hb1
      have k0 := HK1.out.cell 0 (v := .int .i64 ak) rfl
      have k1 := HK1.out.cell 1 (v := .int .i64 an) rfl
      have k2 := HK1.out.cell 2 (v := .string ax) rfl
      have k3 := HK1.out.cell 3 (v := .string ay) rfl
      have k4 := HK1.out.cell 4 (v := .string at_) rfl
      have hkl := HK1.out.lt
      go_wp2_with fail
      refine (av_spec ⟨ak, an, ⟨ax, ay⟩, at_⟩ _ H1.out H2.out H3.out).mono ?_
      rw [hac]
      rintro e w2 ⟨rfl, hb2⟩
      have HB2 := Lib.hid (belB HB1.out HB1.out.size hb2); clear hb2 k0 k1 k2 k3 k4 hkl
      go_wp2_with fail
      go_ret
      exact ⟨ret_bool HE.out.symm, HB2.out⟩
    · have HAC := Lib.hid hac; clear hac
      go_enter Try.func25, Try.ntmps25
      go_wp2_with fail
      refine (sbv_any _ _ _ _ _ (H.out.alloc _) HNL.out HS.out).mono ?_
      rw [HV.out]
      rintro e w1 ⟨rfl, hb1⟩
      have HK1 : Hid (Bk w1 w.heap.size 45 #[.int .i64 ak, .int .i64 an, .string ax, .string ay, .string at_]) := Lib.hid ((Bk.new w _ _).keep hb1)
      have HB1 := Lib.hid (bela hb1); clear hb1
      have k0 := HK1.out.cell 0 (v := .int .i64 ak) rfl
      have k1 := HK1.out.cell 1 (v := .int .i64 an) rfl
      have k2 := HK1.out.cell 2 (v := .string ax) rfl
      have k3 := HK1.out.cell 3 (v := .string ay) rfl
      have k4 := HK1.out.cell 4 (v := .string at_) rfl
      have hkl := HK1.out.lt
      go_wp2_with fail
      refine (av_spec ⟨ak, an, ⟨ax, ay⟩, at_⟩ _ H1.out H2.out H3.out).mono ?_
      rw [HAC.out]
      rintro e w2 ⟨rfl, hb2⟩
      have HB2 := Lib.hid (belB HB1.out HB1.out.size hb2); have HK2 := Lib.hid (HK1.out.keep hb2); clear hb2 k0 k1 k2 k3 k4 hkl
      go_wp2_with fail
      go_loopw [5] (fun i wr => ∃ k : Nat, k ≤ n ∧ i = .int .i64 k ∧ HTo l ⟨ak, an, ⟨ax, ay⟩, at_⟩ k ∧ Bk wr w.heap.size 45 #[.int .i64 ak, .int .i64 an, .string ax, .string ay, .string at_] ∧ Below w.heap.size w wr) (fun i _ => n - (intOf i).toNat)
      case atStart => exact ⟨0, Nat.zero_le _, rfl, HTo_0 _ _, HK2.out, HB2.out⟩
      case round =>
        obtain ⟨k, hk, rfl, ht, hkb, hb⟩ := hrel
        have HT := Lib.hid ht; have HB := Lib.hid hb
        clear HK1 HB1 HK2 HB2
        by_cases hlt : k < n
        · obtain ⟨b, off, z, rfl, hbl, hz, hc0, hc1, hc2⟩ := (H.out.below hb).bl hlt
          have HSZ := Lib.hid (HS.out z (List.mem_of_getElem? hz))
          have HZ := Lib.hid hz
          have k0 := hkb.cell 0 (v := .int .i64 ak) rfl
          have k3 := hkb.cell 3 (v := .string ay) rfl
          have hkl := hkb.lt
          have HKB := Lib.hid hkb
          clear ht hz hb hkb
          obtain ⟨wo, rfl⟩ : ∃ wo : World, wo = wr := ⟨_, rfl⟩
          have hws := HB.out.size
          go_upto_region 6 with (fail)
          cases hh : bhB z.a z.b ay
          · have HF : Hid (hfS ⟨ak, an, ⟨ax, ay⟩, at_⟩ z = false) := Lib.hid (hfS_a hh)
            refine wp_region_typedG (wo.heap.size) (wo.heap.size) (fun t v _ => match t with
              | 20 => v = .slice (some ⟨b, off, none⟩) n c
              | 21 => v = .int .i64 k
              | 22 => v = .pointer (some ⟨b, off + k * 3, none⟩)
              | 23 => v = .agg #[.string z.a, .bool z.b, .bool z.c]
              | 24 => v = .pointer (some ⟨w.heap.size, 2, none⟩)
              | 25 => v = .pointer (some ⟨w.heap.size, 3, none⟩)
              | 26 => v = .string ay
              | 27 => v = .bool false
              | 28 => v = .bool false
              | 29 => v = undef
              | 30 => v = undef
              | 31 => v = undef
              | 32 => v = undef
              | 33 => v = undef
              | 34 => v = undef
              | 35 => v = undef
              | 36 => v = undef
              | 37 => v = undef
              | 38 => v = undef
              | 39 => v = undef
              | 40 => v = .bool false
              | _ => True) (fun _ _ => True) (by kernel_rfl) (regOkG_of (by kernel_rfl) (by kernel_rfl)) (fun _ _ _ _ _ h => h) trivial ?_ ?_
            · intro i o cx bx wb ho hc hJ hN hsz hfr hdep hgd K hK
              have hi := (Array.getElem?_eq_some_iff.1 ho).1
              simp only [List.size_toArray, List.length_cons, List.length_nil] at hi hc
              have hcases : i = 0 ∨ i = 1 ∨ i = 2 ∨ i = 3 ∨ i = 4 ∨ i = 5 ∨ i = 6 ∨ i = 7 ∨ i = 8 ∨ i = 9 ∨ i = 10 ∨ i = 11 ∨ i = 12 ∨ i = 13 ∨ i = 14 ∨ i = 15 ∨ i = 16 ∨ i = 17 ∨ i = 18 ∨ i = 19 ∨ i = 20 := by omega
              rcases hcases with rfl | rfl | rfl | rfl | rfl | rfl | rfl | rfl | rfl | rfl | rfl | rfl | rfl | rfl | rfl | rfl | rfl | rfl | rfl | rfl | rfl
              · cases (show some _ = some o from ho)
                refine ite_yes (by rfl) ?_
                have h0 : bx.tmps.getD 0 undef = .slice (some ⟨b, off, none⟩) n c := hfr 0 (noDst_of (by kernel_rfl))
                have f0 := getD_opt h0
                have HK := Lib.hid hK
                have HN := Lib.hid hN
                clear hK hdep hgd hfr hsz ho hN
                go_simp
                exact HK.out _ _ (fun d hd => by cases hd; exact rfl) (Nx.refl _ _ _) trivial
              · cases (show some _ = some o from ho)
                refine ite_yes (by rfl) ?_
                have h5 : bx.tmps.getD 5 undef = .int .i64 k := hfr 5 (noDst_of (by kernel_rfl))
                have f5 := getD_opt h5
                have HK := Lib.hid hK
                have HN := Lib.hid hN
                clear hK hdep hgd hfr hsz ho hN
                go_simp
                exact HK.out _ _ (fun d hd => by cases hd; exact rfl) (Nx.refl _ _ _) trivial
              · cases (show some _ = some o from ho)
                refine ite_yes (by rfl) ?_
                have h20 : bx.tmps.getD 20 undef = .slice (some ⟨b, off, none⟩) n c := hdep 20 (reads_of (by kernel_rfl)) ⟨0, _, rfl, rfl⟩
                have f20 := getD_opt h20
                have h21 : bx.tmps.getD 21 undef = .int .i64 k := hdep 21 (reads_of (by kernel_rfl)) ⟨1, _, rfl, rfl⟩
                have f21 := getD_opt h21
                have HK := Lib.hid hK
                have HN := Lib.hid hN
                clear hK hdep hgd hfr hsz ho hN
                go_simp
                try rw [if_pos (by omega)]
                exact HK.out _ _ (fun d hd => by cases hd; exact rfl) (Nx.refl _ _ _) trivial
              · cases (show some _ = some o from ho)
                refine ite_yes (by rfl) ?_
                have h22 : bx.tmps.getD 22 undef = .pointer (some ⟨b, off + k * 3, none⟩) := hdep 22 (reads_of (by kernel_rfl)) ⟨2, _, rfl, rfl⟩
                have f22 := getD_opt h22
                have c0 := hN.cell (b := b) (o := off + k * 3) (v := .string z.a) hc0 (by omega) (by omega)
                have c1 := hN.cell (b := b) (o := off + k * 3 + 1) (v := .bool z.b) hc1 (by omega) (by omega)
                have c2 := hN.cell (b := b) (o := off + k * 3 + 2) (v := .bool z.c) hc2 (by omega) (by omega)
                have d0 := hN.cell (b := w.heap.size) (o := 0) (v := .int .i64 ak) k0 (by omega) (by omega)
                have d3 := hN.cell (b := w.heap.size) (o := 3) (v := .string ay) k3 (by omega) (by omega)
                have HK := Lib.hid hK
                have HN := Lib.hid hN
                clear hK hdep hgd hfr hsz ho hN
                go_simp
                exact HK.out _ _ (fun d hd => by cases hd; exact rfl) (Nx.refl _ _ _) trivial
              · cases (show some _ = some o from ho)
                refine ite_yes (by rfl) ?_
                have h3 : bx.tmps.getD 3 undef = .pointer (some ⟨w.heap.size, 0, none⟩) := hfr 3 (noDst_of (by kernel_rfl))
                have f3 := getD_opt h3
                have HK := Lib.hid hK
                have HN := Lib.hid hN
                clear hK hdep hgd hfr hsz ho hN
                go_simp
                exact HK.out _ _ (fun d hd => by cases hd; exact rfl) (Nx.refl _ _ _) trivial
              · cases (show some _ = some o from ho)
                refine ite_yes (by rfl) ?_
                have h24 : bx.tmps.getD 24 undef = .pointer (some ⟨w.heap.size, 2, none⟩) := hdep 24 (reads_of (by kernel_rfl)) ⟨4, _, rfl, rfl⟩
                have f24 := getD_opt h24
                have HK := Lib.hid hK
                have HN := Lib.hid hN
                clear hK hdep hgd hfr hsz ho hN
                go_simp
                exact HK.out _ _ (fun d hd => by cases hd; exact rfl) (Nx.refl _ _ _) trivial
              · cases (show some _ = some o from ho)
                refine ite_yes (by rfl) ?_
                have h25 : bx.tmps.getD 25 undef = .pointer (some ⟨w.heap.size, 3, none⟩) := hdep 25 (reads_of (by kernel_rfl)) ⟨5, _, rfl, rfl⟩
                have f25 := getD_opt h25
                have c0 := hN.cell (b := b) (o := off + k * 3) (v := .string z.a) hc0 (by omega) (by omega)
                have c1 := hN.cell (b := b) (o := off + k * 3 + 1) (v := .bool z.b) hc1 (by omega) (by omega)
                have c2 := hN.cell (b := b) (o := off + k * 3 + 2) (v := .bool z.c) hc2 (by omega) (by omega)
                have d0 := hN.cell (b := w.heap.size) (o := 0) (v := .int .i64 ak) k0 (by omega) (by omega)
                have d3 := hN.cell (b := w.heap.size) (o := 3) (v := .string ay) k3 (by omega) (by omega)
                have HK := Lib.hid hK
                have HN := Lib.hid hN
                clear hK hdep hgd hfr hsz ho hN
                go_simp
                exact HK.out _ _ (fun d hd => by cases hd; exact rfl) (Nx.refl _ _ _) trivial
              · cases (show some _ = some o from ho)
                refine ite_yes (by rfl) ?_
                have h23 : bx.tmps.getD 23 undef = .agg #[.string z.a, .bool z.b, .bool z.c] := hdep 23 (reads_of (by kernel_rfl)) ⟨3, _, rfl, rfl⟩
                have f23 := getD_opt h23
                have h26 : bx.tmps.getD 26 undef = .string ay := hdep 26 (reads_of (by kernel_rfl)) ⟨6, _, rfl, rfl⟩
                have f26 := getD_opt h26
                have HK := Lib.hid hK
                have HN := Lib.hid hN
                clear hK hdep hgd hfr hsz ho hN
                go_simp
                refine (sbh_any _ _ _ _ _ H2.out HSZ.out).mono ?_
                rw [hh]
                rintro e w' ⟨rfl, o1, n1, rfl⟩
                exact HK.out _ _ (fun d hd => by cases hd; exact rfl) (nx_below (bdN (bel1 rfl) n1)) trivial
              · cases (show some _ = some o from ho)
                refine ite_yes (by rfl) ?_
                have h27 : bx.tmps.getD 27 undef = .bool false := hdep 27 (reads_of (by kernel_rfl)) ⟨7, _, rfl, rfl⟩
                have f27 := getD_opt h27
                have HK := Lib.hid hK
                have HN := Lib.hid hN
                clear hK hdep hgd hfr hsz ho hN
                go_simp
                exact HK.out _ _ (fun d hd => by cases hd; exact rfl) (Nx.refl _ _ _) trivial
              · cases (show some _ = some o from ho)
                have hg : bx.tmps.getD 28 undef = .bool false := hgd 8 true _ 28 rfl rfl rfl
                refine ite_no ((wanted_of rfl rfl rfl hg).trans rfl) ?_
                exact hK undef _ (fun d hd => by cases hd; exact rfl) (Nx.refl _ _ _) trivial
              · cases (show some _ = some o from ho)
                have hg : bx.tmps.getD 28 undef = .bool false := hgd 8 true _ 28 rfl rfl rfl
                refine ite_no ((wanted_of rfl rfl rfl hg).trans rfl) ?_
                exact hK undef _ (fun d hd => by cases hd; exact rfl) (Nx.refl _ _ _) trivial
              · cases (show some _ = some o from ho)
                have hg : bx.tmps.getD 28 undef = .bool false := hgd 8 true _ 28 rfl rfl rfl
                refine ite_no ((wanted_of rfl rfl rfl hg).trans rfl) ?_
                exact hK undef _ (fun d hd => by cases hd; exact rfl) (Nx.refl _ _ _) trivial
              · cases (show some _ = some o from ho)
                have hg : bx.tmps.getD 28 undef = .bool false := hgd 8 true _ 28 rfl rfl rfl
                refine ite_no ((wanted_of rfl rfl rfl hg).trans rfl) ?_
                exact hK undef _ (fun d hd => by cases hd; exact rfl) (Nx.refl _ _ _) trivial
              · cases (show some _ = some o from ho)
                have hg : bx.tmps.getD 28 undef = .bool false := hgd 8 true _ 28 rfl rfl rfl
                refine ite_no ((wanted_of rfl rfl rfl hg).trans rfl) ?_
                exact hK undef _ (fun d hd => by cases hd; exact rfl) (Nx.refl _ _ _) trivial
              · cases (show some _ = some o from ho)
                have hg : bx.tmps.getD 28 undef = .bool false := hgd 8 true _ 28 rfl rfl rfl
                refine ite_no ((wanted_of rfl rfl rfl hg).trans rfl) ?_
                exact hK undef _ (fun d hd => by cases hd; exact rfl) (Nx.refl _ _ _) trivial
              · cases (show some _ = some o from ho)
                have hg : bx.tmps.getD 28 undef = .bool false := hgd 8 true _ 28 rfl rfl rfl
                refine ite_no ((wanted_of rfl rfl rfl hg).trans rfl) ?_
                exact hK undef _ (fun d hd => by cases hd; exact rfl) (Nx.refl _ _ _) trivial
              · cases (show some _ = some o from ho)
                have hg : bx.tmps.getD 35 undef = undef := hgd 15 false _ 35 rfl rfl rfl
                refine ite_no (wanted_undef rfl rfl rfl hg) ?_
                exact hK undef _ (fun d hd => by cases hd; exact rfl) (Nx.refl _ _ _) trivial
              · cases (show some _ = some o from ho)
                have hg : bx.tmps.getD 35 undef = undef := hgd 15 false _ 35 rfl rfl rfl
                refine ite_no (wanted_undef rfl rfl rfl hg) ?_
                exact hK undef _ (fun d hd => by cases hd; exact rfl) (Nx.refl _ _ _) trivial
              · cases (show some _ = some o from ho)
                have hg : bx.tmps.getD 35 undef = undef := hgd 15 false _ 35 rfl rfl rfl
                refine ite_no (wanted_undef rfl rfl rfl hg) ?_
                exact hK undef _ (fun d hd => by cases hd; exact rfl) (Nx.refl _ _ _) trivial
              · cases (show some _ = some o from ho)
                have hg : bx.tmps.getD 28 undef = .bool false := hgd 8 true _ 28 rfl rfl rfl
                refine ite_no ((wanted_of rfl rfl rfl hg).trans rfl) ?_
                exact hK undef _ (fun d hd => by cases hd; exact rfl) (Nx.refl _ _ _) trivial
              · cases (show some _ = some o from ho)
                refine ite_yes (by rfl) ?_
                have h28 : bx.tmps.getD 28 undef = .bool false := hdep 28 (reads_of (by kernel_rfl)) ⟨8, _, rfl, rfl⟩
                have f28 := getD_opt h28
                have h39 : bx.tmps.getD 39 undef = undef := hdep 39 (reads_of (by kernel_rfl)) ⟨19, _, rfl, rfl⟩
                have HK := Lib.hid hK
                have HN := Lib.hid hN
                clear hK hdep hgd hfr hsz ho hN
                go_simp
                exact HK.out _ _ (fun d hd => by cases hd; exact rfl) (Nx.refl _ _ _) trivial
            · intro bx wb hsz hdf hfr hty hN hJ
              obtain ⟨tm, df⟩ := bx
              obtain rfl : df = [] := hdf
              have q0 : tm.getD 0 undef = .slice (some ⟨b, off, none⟩) n c := hfr 0 (noDst_of (by kernel_rfl))
              have q1 : tm.getD 1 undef = acv ⟨ak, an, ⟨ax, ay⟩, at_⟩ := hfr 1 (noDst_of (by kernel_rfl))
              have q2 : tm.getD 2 undef = undef := hfr 2 (noDst_of (by kernel_rfl))
              have q3 : tm.getD 3 undef = .pointer (some ⟨w.heap.size, 0, none⟩) := hfr 3 (noDst_of (by kernel_rfl))
              have q5 : tm.getD 5 undef = .int .i64 k := hfr 5 (noDst_of (by kernel_rfl))
              have q6 : tm.getD 6 undef = .slice (some ⟨b, off, none⟩) n c := hfr 6 (noDst_of (by kernel_rfl))
              have q7 : tm.getD 7 undef = .bool true := hfr 7 (noDst_of (by kernel_rfl))
              have q8 : tm.getD 8 undef = .bool false := hfr 8 (noDst_of (by kernel_rfl))
              have q9 : tm.getD 9 undef = .bool false := hfr 9 (noDst_of (by kernel_rfl))
              have q10 : tm.getD 10 undef = acv ⟨ak, an, ⟨ax, ay⟩, at_⟩ := hfr 10 (noDst_of (by kernel_rfl))
              have q11 : tm.getD 11 undef = .bool true := hfr 11 (noDst_of (by kernel_rfl))
              have q12 : tm.getD 12 undef = .bool false := hfr 12 (noDst_of (by kernel_rfl))
              have q13 : tm.getD 13 undef = .bool false := hfr 13 (noDst_of (by kernel_rfl))
              have q40 : tm.getD 40 undef = .bool false := hty 20 _ 40 rfl rfl
              have HNX := Lib.hid hN
              have q := lit_of tm 41 hsz
              simp only [List.range, List.range.loop, List.map, q0, q1, q2, q3, q5, q6, q7, q8, q9, q10, q11, q12, q13, q40] at q
              have HQ := Lib.hid q
              clear q hsz hfr hty hN hJ q0 q1 q2 q3 q5 q6 q7 q8 q9 q10 q11 q12 q13 q40
              rw [HQ.out]
              generalize tm.getD 4 undef = x4
              generalize tm.getD 14 undef = x14
              generalize tm.getD 15 undef = x15
              generalize tm.getD 16 undef = x16
              generalize tm.getD 17 undef = x17
              generalize tm.getD 18 undef = x18
              generalize tm.getD 19 undef = x19
              generalize tm.getD 20 undef = x20
              generalize tm.getD 21 undef = x21
              generalize tm.getD 22 undef = x22
              generalize tm.getD 23 undef = x23
              generalize tm.getD 24 undef = x24
              generalize tm.getD 25 undef = x25
              generalize tm.getD 26 undef = x26
              generalize tm.getD 27 undef = x27
              generalize tm.getD 28 undef = x28
              generalize tm.getD 29 undef = x29
              generalize tm.getD 30 undef = x30
              generalize tm.getD 31 undef = x31
              generalize tm.getD 32 undef = x32
              generalize tm.getD 33 undef = x33
              generalize tm.getD 34 undef = x34
              generalize tm.getD 35 undef = x35
              generalize tm.getD 36 undef = x36
              generalize tm.getD 37 undef = x37
              generalize tm.getD 38 undef = x38
              generalize tm.getD 39 undef = x39
              clear HQ
              have HKB2 := Lib.hid (show Bk _ _ _ _ from (HNX.out.block w.heap.size hkl (by omega) (by omega)).trans HKB.out)
              have hB2 := below_of_nx HB.out (by omega) (by omega) HNX.out
              have HB2 := Lib.hid hB2
              clear hB2 HNX
              go_wp2_with fail
              go_roundw
              case rel => first | exact ⟨k + 1, by omega, by go_num, HTo_succ HT.out HZ.out HF.out, HKB2.out, HB2.out⟩ | ((repeat apply Exists.intro); exact ⟨⟨k + 1, by omega, by go_num, HTo_succ HT.out HZ.out HF.out, HKB2.out, HB2.out⟩, rfl⟩)
              case measure => simp [intOf]; omega
          · cases hzc : z.c
            · have HF : Hid (r = false) := Lib.hid (by rw [← HR.out]; exact hf_hit HZ.out (hfS_b hh hzc))
              rw [hzc] at hc2
              refine wp_region_typedG (wo.heap.size) (wo.heap.size) (fun t v _ => match t with
                | 20 => v = .slice (some ⟨b, off, none⟩) n c
                | 21 => v = .int .i64 k
                | 22 => v = .pointer (some ⟨b, off + k * 3, none⟩)
                | 23 => v = .agg #[.string z.a, .bool z.b, .bool false]
                | 24 => v = .pointer (some ⟨w.heap.size, 2, none⟩)
                | 25 => v = .pointer (some ⟨w.heap.size, 3, none⟩)
                | 26 => v = .string ay
                | 27 => v = .bool true
                | 28 => v = .bool true
                | 29 => v = .slice (some ⟨b, off, none⟩) n c
                | 30 => v = .int .i64 k
                | 31 => v = .pointer (some ⟨b, off + k * 3, none⟩)
                | 32 => v = .pointer (some ⟨b, off + k * 3 + 2, none⟩)
                | 33 => v = .bool false
                | 34 => v = .bool true
                | 35 => v = .bool true
                | 36 => v = undef
                | 37 => v = undef
                | 38 => v = undef
                | 39 => v = .bool true
                | 40 => v = .bool true
                | _ => True) (fun _ _ => True) (by kernel_rfl) (regOkG_of (by kernel_rfl) (by kernel_rfl)) (fun _ _ _ _ _ h => h) trivial ?_ ?_
              · intro i o cx bx wb ho hc hJ hN hsz hfr hdep hgd K hK
                have hi := (Array.getElem?_eq_some_iff.1 ho).1
                simp only [List.size_toArray, List.length_cons, List.length_nil] at hi hc
                have hcases : i = 0 ∨ i = 1 ∨ i = 2 ∨ i = 3 ∨ i = 4 ∨ i = 5 ∨ i = 6 ∨ i = 7 ∨ i = 8 ∨ i = 9 ∨ i = 10 ∨ i = 11 ∨ i = 12 ∨ i = 13 ∨ i = 14 ∨ i = 15 ∨ i = 16 ∨ i = 17 ∨ i = 18 ∨ i = 19 ∨ i = 20 := by omega
                rcases hcases with rfl | rfl | rfl | rfl | rfl | rfl | rfl | rfl | rfl | rfl | rfl | rfl | rfl | rfl | rfl | rfl | rfl | rfl | rfl | rfl | rfl
                · cases (show some _ = some o from ho)
                  refine ite_yes (by rfl) ?_
                  have h0 : bx.tmps.getD 0 undef = .slice (some ⟨b, off, none⟩) n c := hfr 0 (noDst_of (by kernel_rfl))
                  have f0 := getD_opt h0
                  have HK := Lib.hid hK
                  have HN := Lib.hid hN
                  clear hK hdep hgd hfr hsz ho hN
                  go_simp
                  exact HK.out _ _ (fun d hd => by cases hd; exact rfl) (Nx.refl _ _ _) trivial
                · cases (show some _ = some o from ho)
                  refine ite_yes (by rfl) ?_
                  have h5 : bx.tmps.getD 5 undef = .int .i64 k := hfr 5 (noDst_of (by kernel_rfl))
                  have f5 := getD_opt h5
                  have HK := Lib.hid hK
                  have HN := Lib.hid hN
                  clear hK hdep hgd hfr hsz ho hN
                  go_simp
                  exact HK.out _ _ (fun d hd => by cases hd; exact rfl) (Nx.refl _ _ _) trivial
                · cases (show some _ = some o from ho)
                  refine ite_yes (by rfl) ?_
                  have h20 : bx.tmps.getD 20 undef = .slice (some ⟨b, off, none⟩) n c := hdep 20 (reads_of (by kernel_rfl)) ⟨0, _, rfl, rfl⟩
                  have f20 := getD_opt h20
                  have h21 : bx.tmps.getD 21 undef = .int .i64 k := hdep 21 (reads_of (by kernel_rfl)) ⟨1, _, rfl, rfl⟩
                  have f21 := getD_opt h21
                  have HK := Lib.hid hK
                  have HN := Lib.hid hN
                  clear hK hdep hgd hfr hsz ho hN
                  go_simp
                  try rw [if_pos (by omega)]
                  exact HK.out _ _ (fun d hd => by cases hd; exact rfl) (Nx.refl _ _ _) trivial
                · cases (show some _ = some o from ho)
                  refine ite_yes (by rfl) ?_
                  have h22 : bx.tmps.getD 22 undef = .pointer (some ⟨b, off + k * 3, none⟩) := hdep 22 (reads_of (by kernel_rfl)) ⟨2, _, rfl, rfl⟩
                  have f22 := getD_opt h22
                  have c0 := hN.cell (b := b) (o := off + k * 3) (v := .string z.a) hc0 (by omega) (by omega)
                  have c1 := hN.cell (b := b) (o := off + k * 3 + 1) (v := .bool z.b) hc1 (by omega) (by omega)
                  have c2 := hN.cell (b := b) (o := off + k * 3 + 2) (v := .bool false) hc2 (by omega) (by omega)
                  have d0 := hN.cell (b := w.heap.size) (o := 0) (v := .int .i64 ak) k0 (by omega) (by omega)
                  have d3 := hN.cell (b := w.heap.size) (o := 3) (v := .string ay) k3 (by omega) (by omega)
                  have HK := Lib.hid hK
                  have HN := Lib.hid hN
                  clear hK hdep hgd hfr hsz ho hN
                  go_simp
                  exact HK.out _ _ (fun d hd => by cases hd; exact rfl) (Nx.refl _ _ _) trivial
                · cases (show some _ = some o from ho)
                  refine ite_yes (by rfl) ?_
                  have h3 : bx.tmps.getD 3 undef = .pointer (some ⟨w.heap.size, 0, none⟩) := hfr 3 (noDst_of (by kernel_rfl))
                  have f3 := getD_opt h3
                  have HK := Lib.hid hK
                  have HN := Lib.hid hN
                  clear hK hdep hgd hfr hsz ho hN
                  go_simp
                  exact HK.out _ _ (fun d hd => by cases hd; exact rfl) (Nx.refl _ _ _) trivial
                · cases (show some _ = some o from ho)
                  refine ite_yes (by rfl) ?_
                  have h24 : bx.tmps.getD 24 undef = .pointer (some ⟨w.heap.size, 2, none⟩) := hdep 24 (reads_of (by kernel_rfl)) ⟨4, _, rfl, rfl⟩
                  have f24 := getD_opt h24
                  have HK := Lib.hid hK
                  have HN := Lib.hid hN
                  clear hK hdep hgd hfr hsz ho hN
                  go_simp
                  exact HK.out _ _ (fun d hd => by cases hd; exact rfl) (Nx.refl _ _ _) trivial
                · cases (show some _ = some o from ho)
                  refine ite_yes (by rfl) ?_
                  have h25 : bx.tmps.getD 25 undef = .pointer (some ⟨w.heap.size, 3, none⟩) := hdep 25 (reads_of (by kernel_rfl)) ⟨5, _, rfl, rfl⟩
                  have f25 := getD_opt h25
                  have c0 := hN.cell (b := b) (o := off + k * 3) (v := .string z.a) hc0 (by omega) (by omega)
                  have c1 := hN.cell (b := b) (o := off + k * 3 + 1) (v := .bool z.b) hc1 (by omega) (by omega)
                  have c2 := hN.cell (b := b) (o := off + k * 3 + 2) (v := .bool false) hc2 (by omega) (by omega)
                  have d0 := hN.cell (b := w.heap.size) (o := 0) (v := .int .i64 ak) k0 (by omega) (by omega)
                  have d3 := hN.cell (b := w.heap.size) (o := 3) (v := .string ay) k3 (by omega) (by omega)
                  have HK := Lib.hid hK
                  have HN := Lib.hid hN
                  clear hK hdep hgd hfr hsz ho hN
                  go_simp
                  exact HK.out _ _ (fun d hd => by cases hd; exact rfl) (Nx.refl _ _ _) trivial
                · cases (show some _ = some o from ho)
                  refine ite_yes (by rfl) ?_
                  have h23 : bx.tmps.getD 23 undef = .agg #[.string z.a, .bool z.b, .bool false] := hdep 23 (reads_of (by kernel_rfl)) ⟨3, _, rfl, rfl⟩
                  have f23 := getD_opt h23
                  have h26 : bx.tmps.getD 26 undef = .string ay := hdep 26 (reads_of (by kernel_rfl)) ⟨6, _, rfl, rfl⟩
                  have f26 := getD_opt h26
                  have HK := Lib.hid hK
                  have HN := Lib.hid hN
                  clear hK hdep hgd hfr hsz ho hN
                  go_simp
                  refine (sbh_any _ _ _ _ _ H2.out HSZ.out).mono ?_
                  rw [hh]
                  rintro e w' ⟨rfl, o1, n1, rfl⟩
                  exact HK.out _ _ (fun d hd => by cases hd; exact rfl) (nx_below (bdN (bel1 rfl) n1)) trivial
                · cases (show some _ = some o from ho)
                  refine ite_yes (by rfl) ?_
                  have h27 : bx.tmps.getD 27 undef = .bool true := hdep 27 (reads_of (by kernel_rfl)) ⟨7, _, rfl, rfl⟩
                  have f27 := getD_opt h27
                  have HK := Lib.hid hK
                  have HN := Lib.hid hN
                  clear hK hdep hgd hfr hsz ho hN
                  go_simp
                  exact HK.out _ _ (fun d hd => by cases hd; exact rfl) (Nx.refl _ _ _) trivial
                · cases (show some _ = some o from ho)
                  have hg : bx.tmps.getD 28 undef = .bool true := hgd 8 true _ 28 rfl rfl rfl
                  refine ite_yes ((wanted_of rfl rfl rfl hg).trans rfl) ?_
                  have h0 : bx.tmps.getD 0 undef = .slice (some ⟨b, off, none⟩) n c := hfr 0 (noDst_of (by kernel_rfl))
                  have f0 := getD_opt h0
                  have HK := Lib.hid hK
                  have HN := Lib.hid hN
                  clear hK hdep hgd hfr hsz ho hN
                  go_simp
                  exact HK.out _ _ (fun d hd => by cases hd; exact rfl) (Nx.refl _ _ _) trivial
                · cases (show some _ = some o from ho)
                  have hg : bx.tmps.getD 28 undef = .bool true := hgd 8 true _ 28 rfl rfl rfl
                  refine ite_yes ((wanted_of rfl rfl rfl hg).trans rfl) ?_
                  have h5 : bx.tmps.getD 5 undef = .int .i64 k := hfr 5 (noDst_of (by kernel_rfl))
                  have f5 := getD_opt h5
                  have HK := Lib.hid hK
                  have HN := Lib.hid hN
                  clear hK hdep hgd hfr hsz ho hN
                  go_simp
                  exact HK.out _ _ (fun d hd => by cases hd; exact rfl) (Nx.refl _ _ _) trivial
                · cases (show some _ = some o from ho)
                  have hg : bx.tmps.getD 28 undef = .bool true := hgd 8 true _ 28 rfl rfl rfl
                  refine ite_yes ((wanted_of rfl rfl rfl hg).trans rfl) ?_
                  have h29 : bx.tmps.getD 29 undef = .slice (some ⟨b, off, none⟩) n c := hdep 29 (reads_of (by kernel_rfl)) ⟨9, _, rfl, rfl⟩
                  have f29 := getD_opt h29
                  have h30 : bx.tmps.getD 30 undef = .int .i64 k := hdep 30 (reads_of (by kernel_rfl)) ⟨10, _, rfl, rfl⟩
                  have f30 := getD_opt h30
                  have HK := Lib.hid hK
                  have HN := Lib.hid hN
                  clear hK hdep hgd hfr hsz ho hN
                  go_simp
                  try rw [if_pos (by omega)]
                  exact HK.out _ _ (fun d hd => by cases hd; exact rfl) (Nx.refl _ _ _) trivial
                · cases (show some _ = some o from ho)
                  have hg : bx.tmps.getD 28 undef = .bool true := hgd 8 true _ 28 rfl rfl rfl
                  refine ite_yes ((wanted_of rfl rfl rfl hg).trans rfl) ?_
                  have h31 : bx.tmps.getD 31 undef = .pointer (some ⟨b, off + k * 3, none⟩) := hdep 31 (reads_of (by kernel_rfl)) ⟨11, _, rfl, rfl⟩
                  have f31 := getD_opt h31
                  have HK := Lib.hid hK
                  have HN := Lib.hid hN
                  clear hK hdep hgd hfr hsz ho hN
                  go_simp
                  exact HK.out _ _ (fun d hd => by cases hd; exact rfl) (Nx.refl _ _ _) trivial
                · cases (show some _ = some o from ho)
                  have hg : bx.tmps.getD 28 undef = .bool true := hgd 8 true _ 28 rfl rfl rfl
                  refine ite_yes ((wanted_of rfl rfl rfl hg).trans rfl) ?_
                  have h32 : bx.tmps.getD 32 undef = .pointer (some ⟨b, off + k * 3 + 2, none⟩) := hdep 32 (reads_of (by kernel_rfl)) ⟨12, _, rfl, rfl⟩
                  have f32 := getD_opt h32
                  have c0 := hN.cell (b := b) (o := off + k * 3) (v := .string z.a) hc0 (by omega) (by omega)
                  have c1 := hN.cell (b := b) (o := off + k * 3 + 1) (v := .bool z.b) hc1 (by omega) (by omega)
                  have c2 := hN.cell (b := b) (o := off + k * 3 + 2) (v := .bool false) hc2 (by omega) (by omega)
                  have d0 := hN.cell (b := w.heap.size) (o := 0) (v := .int .i64 ak) k0 (by omega) (by omega)
                  have d3 := hN.cell (b := w.heap.size) (o := 3) (v := .string ay) k3 (by omega) (by omega)
                  have HK := Lib.hid hK
                  have HN := Lib.hid hN
                  clear hK hdep hgd hfr hsz ho hN
                  go_simp
                  exact HK.out _ _ (fun d hd => by cases hd; exact rfl) (Nx.refl _ _ _) trivial
                · cases (show some _ = some o from ho)
                  have hg : bx.tmps.getD 28 undef = .bool true := hgd 8 true _ 28 rfl rfl rfl
                  refine ite_yes ((wanted_of rfl rfl rfl hg).trans rfl) ?_
                  have h33 : bx.tmps.getD 33 undef = .bool false := hdep 33 (reads_of (by kernel_rfl)) ⟨13, _, rfl, rfl⟩
                  have f33 := getD_opt h33
                  have HK := Lib.hid hK
                  have HN := Lib.hid hN
                  clear hK hdep hgd hfr hsz ho hN
                  go_simp
                  exact HK.out _ _ (fun d hd => by cases hd; exact rfl) (Nx.refl _ _ _) trivial
                · cases (show some _ = some o from ho)
                  have hg : bx.tmps.getD 28 undef = .bool true := hgd 8 true _ 28 rfl rfl rfl
                  refine ite_yes ((wanted_of rfl rfl rfl hg).trans rfl) ?_
                  have h34 : bx.tmps.getD 34 undef = .bool true := hdep 34 (reads_of (by kernel_rfl)) ⟨14, _, rfl, rfl⟩
                  have f34 := getD_opt h34
                  have HK := Lib.hid hK
                  have HN := Lib.hid hN
                  clear hK hdep hgd hfr hsz ho hN
                  go_simp
                  exact HK.out _ _ (fun d hd => by cases hd; exact rfl) (Nx.refl _ _ _) trivial
                · cases (show some _ = some o from ho)
                  have hg : bx.tmps.getD 35 undef = .bool true := hgd 15 false _ 35 rfl rfl rfl
                  refine ite_no ((wanted_of rfl rfl rfl hg).trans rfl) ?_
                  exact hK undef _ (fun d hd => by cases hd; exact rfl) (Nx.refl _ _ _) trivial
                · cases (show some _ = some o from ho)
                  have hg : bx.tmps.getD 35 undef = .bool true := hgd 15 false _ 35 rfl rfl rfl
                  refine ite_no ((wanted_of rfl rfl rfl hg).trans rfl) ?_
                  exact hK undef _ (fun d hd => by cases hd; exact rfl) (Nx.refl _ _ _) trivial
                · cases (show some _ = some o from ho)
                  have hg : bx.tmps.getD 35 undef = .bool true := hgd 15 false _ 35 rfl rfl rfl
                  refine ite_no ((wanted_of rfl rfl rfl hg).trans rfl) ?_
                  exact hK undef _ (fun d hd => by cases hd; exact rfl) (Nx.refl _ _ _) trivial
                · cases (show some _ = some o from ho)
                  have hg : bx.tmps.getD 28 undef = .bool true := hgd 8 true _ 28 rfl rfl rfl
                  refine ite_yes ((wanted_of rfl rfl rfl hg).trans rfl) ?_
                  have h35 : bx.tmps.getD 35 undef = .bool true := hdep 35 (reads_of (by kernel_rfl)) ⟨15, _, rfl, rfl⟩
                  have f35 := getD_opt h35
                  have h38 : bx.tmps.getD 38 undef = undef := hdep 38 (reads_of (by kernel_rfl)) ⟨18, _, rfl, rfl⟩
                  have HK := Lib.hid hK
                  have HN := Lib.hid hN
                  clear hK hdep hgd hfr hsz ho hN
                  go_simp
                  exact HK.out _ _ (fun d hd => by cases hd; exact rfl) (Nx.refl _ _ _) trivial
                · cases (show some _ = some o from ho)
                  refine ite_yes (by rfl) ?_
                  have h28 : bx.tmps.getD 28 undef = .bool true := hdep 28 (reads_of (by kernel_rfl)) ⟨8, _, rfl, rfl⟩
                  have f28 := getD_opt h28
                  have h39 : bx.tmps.getD 39 undef = .bool true := hdep 39 (reads_of (by kernel_rfl)) ⟨19, _, rfl, rfl⟩
                  have f39 := getD_opt h39
                  have HK := Lib.hid hK
                  have HN := Lib.hid hN
                  clear hK hdep hgd hfr hsz ho hN
                  go_simp
                  exact HK.out _ _ (fun d hd => by cases hd; exact rfl) (Nx.refl _ _ _) trivial
              · intro bx wb hsz hdf hfr hty hN hJ
                obtain ⟨tm, df⟩ := bx
                obtain rfl : df = [] := hdf
                have q0 : tm.getD 0 undef = .slice (some ⟨b, off, none⟩) n c := hfr 0 (noDst_of (by kernel_rfl))
                have q1 : tm.getD 1 undef = acv ⟨ak, an, ⟨ax, ay⟩, at_⟩ := hfr 1 (noDst_of (by kernel_rfl))
                have q2 : tm.getD 2 undef = undef := hfr 2 (noDst_of (by kernel_rfl))
                have q3 : tm.getD 3 undef = .pointer (some ⟨w.heap.size, 0, none⟩) := hfr 3 (noDst_of (by kernel_rfl))
                have q5 : tm.getD 5 undef = .int .i64 k := hfr 5 (noDst_of (by kernel_rfl))
                have q6 : tm.getD 6 undef = .slice (some ⟨b, off, none⟩) n c := hfr 6 (noDst_of (by kernel_rfl))
                have q7 : tm.getD 7 undef = .bool true := hfr 7 (noDst_of (by kernel_rfl))
                have q8 : tm.getD 8 undef = .bool false := hfr 8 (noDst_of (by kernel_rfl))
                have q9 : tm.getD 9 undef = .bool false := hfr 9 (noDst_of (by kernel_rfl))
                have q10 : tm.getD 10 undef = acv ⟨ak, an, ⟨ax, ay⟩, at_⟩ := hfr 10 (noDst_of (by kernel_rfl))
                have q11 : tm.getD 11 undef = .bool true := hfr 11 (noDst_of (by kernel_rfl))
                have q12 : tm.getD 12 undef = .bool false := hfr 12 (noDst_of (by kernel_rfl))
                have q13 : tm.getD 13 undef = .bool false := hfr 13 (noDst_of (by kernel_rfl))
                have q40 : tm.getD 40 undef = .bool true := hty 20 _ 40 rfl rfl
                have HNX := Lib.hid hN
                have q := lit_of tm 41 hsz
                simp only [List.range, List.range.loop, List.map, q0, q1, q2, q3, q5, q6, q7, q8, q9, q10, q11, q12, q13, q40] at q
                have HQ := Lib.hid q
                clear q hsz hfr hty hN hJ q0 q1 q2 q3 q5 q6 q7 q8 q9 q10 q11 q12 q13 q40
                rw [HQ.out]
                generalize tm.getD 4 undef = x4
                generalize tm.getD 14 undef = x14
                generalize tm.getD 15 undef = x15
                generalize tm.getD 16 undef = x16
                generalize tm.getD 17 undef = x17
                generalize tm.getD 18 undef = x18
                generalize tm.getD 19 undef = x19
                generalize tm.getD 20 undef = x20
                generalize tm.getD 21 undef = x21
                generalize tm.getD 22 undef = x22
                generalize tm.getD 23 undef = x23
                generalize tm.getD 24 undef = x24
                generalize tm.getD 25 undef = x25
                generalize tm.getD 26 undef = x26
                generalize tm.getD 27 undef = x27
                generalize tm.getD 28 undef = x28
                generalize tm.getD 29 undef = x29
                generalize tm.getD 30 undef = x30
                generalize tm.getD 31 undef = x31
                generalize tm.getD 32 undef = x32
                generalize tm.getD 33 undef = x33
                generalize tm.getD 34 undef = x34
                generalize tm.getD 35 undef = x35
                generalize tm.getD 36 undef = x36
                generalize tm.getD 37 undef = x37
                generalize tm.getD 38 undef = x38
                generalize tm.getD 39 undef = x39
                clear HQ
                have HKB2 := Lib.hid (show Bk _ _ _ _ from (HNX.out.block w.heap.size hkl (by omega) (by omega)).trans HKB.out)
                have hB2 := below_of_nx HB.out (by omega) (by omega) HNX.out
                have HB2 := Lib.hid hB2
                clear hB2 HNX
                go_wp2_with fail
                go_ret
                exact ⟨ret_bool HF.out.symm, HB2.out⟩
            · rw [hzc] at hc2
              cases h3 : (ak == 3)
              · have HF : Hid (hfS ⟨ak, an, ⟨ax, ay⟩, at_⟩ z = false) := Lib.hid (hfS_c hh hzc h3)
                refine wp_region_typedG (wo.heap.size) (wo.heap.size) (fun t v _ => match t with
                  | 20 => v = .slice (some ⟨b, off, none⟩) n c
                  | 21 => v = .int .i64 k
                  | 22 => v = .pointer (some ⟨b, off + k * 3, none⟩)
                  | 23 => v = .agg #[.string z.a, .bool z.b, .bool true]
                  | 24 => v = .pointer (some ⟨w.heap.size, 2, none⟩)
                  | 25 => v = .pointer (some ⟨w.heap.size, 3, none⟩)
                  | 26 => v = .string ay
                  | 27 => v = .bool true
                  | 28 => v = .bool true
                  | 29 => v = .slice (some ⟨b, off, none⟩) n c
                  | 30 => v = .int .i64 k
                  | 31 => v = .pointer (some ⟨b, off + k * 3, none⟩)
                  | 32 => v = .pointer (some ⟨b, off + k * 3 + 2, none⟩)
                  | 33 => v = .bool true
                  | 34 => v = .bool false
                  | 35 => v = .bool false
                  | 36 => v = .pointer (some ⟨w.heap.size, 0, none⟩)
                  | 37 => v = .int .i64 ak
                  | 38 => v = .bool false
                  | 39 => v = .bool false
                  | 40 => v = .bool false
                  | _ => True) (fun _ _ => True) (by kernel_rfl) (regOkG_of (by kernel_rfl) (by kernel_rfl)) (fun _ _ _ _ _ h => h) trivial ?_ ?_
                · intro i o cx bx wb ho hc hJ hN hsz hfr hdep hgd K hK
                  have hi := (Array.getElem?_eq_some_iff.1 ho).1
                  simp only [List.size_toArray, List.length_cons, List.length_nil] at hi hc
                  have hcases : i = 0 ∨ i = 1 ∨ i = 2 ∨ i = 3 ∨ i = 4 ∨ i = 5 ∨ i = 6 ∨ i = 7 ∨ i = 8 ∨ i = 9 ∨ i = 10 ∨ i = 11 ∨ i = 12 ∨ i = 13 ∨ i = 14 ∨ i = 15 ∨ i = 16 ∨ i = 17 ∨ i = 18 ∨ i = 19 ∨ i = 20 := by omega
                  rcases hcases with rfl | rfl | rfl | rfl | rfl | rfl | rfl | rfl | rfl | rfl | rfl | rfl | rfl | rfl | rfl | rfl | rfl | rfl | rfl | rfl | rfl
                  · cases (show some _ = some o from ho)
                    refine ite_yes (by rfl) ?_
                    have h0 : bx.tmps.getD 0 undef = .slice (some ⟨b, off, none⟩) n c := hfr 0 (noDst_of (by kernel_rfl))
                    have f0 := getD_opt h0
                    have HK := Lib.hid hK
                    have HN := Lib.hid hN
                    clear hK hdep hgd hfr hsz ho hN
                    go_simp
                    exact HK.out _ _ (fun d hd => by cases hd; exact rfl) (Nx.refl _ _ _) trivial
                  · cases (show some _ = some o from ho)
                    refine ite_yes (by rfl) ?_
                    have h5 : bx.tmps.getD 5 undef = .int .i64 k := hfr 5 (noDst_of (by kernel_rfl))
                    have f5 := getD_opt h5
                    have HK := Lib.hid hK
                    have HN := Lib.hid hN
                    clear hK hdep hgd hfr hsz ho hN
                    go_simp
                    exact HK.out _ _ (fun d hd => by cases hd; exact rfl) (Nx.refl _ _ _) trivial
                  · cases (show some _ = some o from ho)
                    refine ite_yes (by rfl) ?_
                    have h20 : bx.tmps.getD 20 undef = .slice (some ⟨b, off, none⟩) n c := hdep 20 (reads_of (by kernel_rfl)) ⟨0, _, rfl, rfl⟩
                    have f20 := getD_opt h20
                    have h21 : bx.tmps.getD 21 undef = .int .i64 k := hdep 21 (reads_of (by kernel_rfl)) ⟨1, _, rfl, rfl⟩
                    have f21 := getD_opt h21
                    have HK := Lib.hid hK
                    have HN := Lib.hid hN
                    clear hK hdep hgd hfr hsz ho hN
                    go_simp
                    try rw [if_pos (by omega)]
                    exact HK.out _ _ (fun d hd => by cases hd; exact rfl) (Nx.refl _ _ _) trivial
                  · cases (show some _ = some o from ho)
                    refine ite_yes (by rfl) ?_
                    have h22 : bx.tmps.getD 22 undef = .pointer (some ⟨b, off + k * 3, none⟩) := hdep 22 (reads_of (by kernel_rfl)) ⟨2, _, rfl, rfl⟩
                    have f22 := getD_opt h22
                    have c0 := hN.cell (b := b) (o := off + k * 3) (v := .string z.a) hc0 (by omega) (by omega)
                    have c1 := hN.cell (b := b) (o := off + k * 3 + 1) (v := .bool z.b) hc1 (by omega) (by omega)
                    have c2 := hN.cell (b := b) (o := off + k * 3 + 2) (v := .bool true) hc2 (by omega) (by omega)
                    have d0 := hN.cell (b := w.heap.size) (o := 0) (v := .int .i64 ak) k0 (by omega) (by omega)
                    have d3 := hN.cell (b := w.heap.size) (o := 3) (v := .string ay) k3 (by omega) (by omega)
                    have HK := Lib.hid hK
                    have HN := Lib.hid hN
                    clear hK hdep hgd hfr hsz ho hN
                    go_simp
                    exact HK.out _ _ (fun d hd => by cases hd; exact rfl) (Nx.refl _ _ _) trivial
                  · cases (show some _ = some o from ho)
                    refine ite_yes (by rfl) ?_
                    have h3 : bx.tmps.getD 3 undef = .pointer (some ⟨w.heap.size, 0, none⟩) := hfr 3 (noDst_of (by kernel_rfl))
                    have f3 := getD_opt h3
                    have HK := Lib.hid hK
                    have HN := Lib.hid hN
                    clear hK hdep hgd hfr hsz ho hN
                    go_simp
                    exact HK.out _ _ (fun d hd => by cases hd; exact rfl) (Nx.refl _ _ _) trivial
                  · cases (show some _ = some o from ho)
                    refine ite_yes (by rfl) ?_
                    have h24 : bx.tmps.getD 24 undef = .pointer (some ⟨w.heap.size, 2, none⟩) := hdep 24 (reads_of (by kernel_rfl)) ⟨4, _, rfl, rfl⟩
                    have f24 := getD_opt h24
                    have HK := Lib.hid hK
                    have HN := Lib.hid hN
                    clear hK hdep hgd hfr hsz ho hN
                    go_simp
                    exact HK.out _ _ (fun d hd => by cases hd; exact rfl) (Nx.refl _ _ _) trivial
                  · cases (show some _ = some o from ho)
                    refine ite_yes (by rfl) ?_
                    have h25 : bx.tmps.getD 25 undef = .pointer (some ⟨w.heap.size, 3, none⟩) := hdep 25 (reads_of (by kernel_rfl)) ⟨5, _, rfl, rfl⟩
                    have f25 := getD_opt h25
                    have c0 := hN.cell (b := b) (o := off + k * 3) (v := .string z.a) hc0 (by omega) (by omega)
                    have c1 := hN.cell (b := b) (o := off + k * 3 + 1) (v := .bool z.b) hc1 (by omega) (by omega)
                    have c2 := hN.cell (b := b) (o := off + k * 3 + 2) (v := .bool true) hc2 (by omega) (by omega)
                    have d0 := hN.cell (b := w.heap.size) (o := 0) (v := .int .i64 ak) k0 (by omega) (by omega)
                    have d3 := hN.cell (b := w.heap.size) (o := 3) (v := .string ay) k3 (by omega) (by omega)
                    have HK := Lib.hid hK
                    have HN := Lib.hid hN
                    clear hK hdep hgd hfr hsz ho hN
                    go_simp
                    exact HK.out _ _ (fun d hd => by cases hd; exact rfl) (Nx.refl _ _ _) trivial
                  · cases (show some _ = some o from ho)
                    refine ite_yes (by rfl) ?_
                    have h23 : bx.tmps.getD 23 undef = .agg #[.string z.a, .bool z.b, .bool true] := hdep 23 (reads_of (by kernel_rfl)) ⟨3, _, rfl, rfl⟩
                    have f23 := getD_opt h23
                    have h26 : bx.tmps.getD 26 undef = .string ay := hdep 26 (reads_of (by kernel_rfl)) ⟨6, _, rfl, rfl⟩
                    have f26 := getD_opt h26
                    have HK := Lib.hid hK
                    have HN := Lib.hid hN
                    clear hK hdep hgd hfr hsz ho hN
                    go_simp
                    refine (sbh_any _ _ _ _ _ H2.out HSZ.out).mono ?_
                    rw [hh]
                    rintro e w' ⟨rfl, o1, n1, rfl⟩
                    exact HK.out _ _ (fun d hd => by cases hd; exact rfl) (nx_below (bdN (bel1 rfl) n1)) trivial
                  · cases (show some _ = some o from ho)
                    refine ite_yes (by rfl) ?_
                    have h27 : bx.tmps.getD 27 undef = .bool true := hdep 27 (reads_of (by kernel_rfl)) ⟨7, _, rfl, rfl⟩
                    have f27 := getD_opt h27
                    have HK := Lib.hid hK
                    have HN := Lib.hid hN
                    clear hK hdep hgd hfr hsz ho hN
                    go_simp
                    exact HK.out _ _ (fun d hd => by cases hd; exact rfl) (Nx.refl _ _ _) trivial
                  · cases (show some _ = some o from ho)
                    have hg : bx.tmps.getD 28 undef = .bool true := hgd 8 true _ 28 rfl rfl rfl
                    refine ite_yes ((wanted_of rfl rfl rfl hg).trans rfl) ?_
                    have h0 : bx.tmps.getD 0 undef = .slice (some ⟨b, off, none⟩) n c := hfr 0 (noDst_of (by kernel_rfl))
                    have f0 := getD_opt h0
                    have HK := Lib.hid hK
                    have HN := Lib.hid hN
                    clear hK hdep hgd hfr hsz ho hN
                    go_simp
                    exact HK.out _ _ (fun d hd => by cases hd; exact rfl) (Nx.refl _ _ _) trivial
                  · cases (show some _ = some o from ho)
                    have hg : bx.tmps.getD 28 undef = .bool true := hgd 8 true _ 28 rfl rfl rfl
                    refine ite_yes ((wanted_of rfl rfl rfl hg).trans rfl) ?_
                    have h5 : bx.tmps.getD 5 undef = .int .i64 k := hfr 5 (noDst_of (by kernel_rfl))
                    have f5 := getD_opt h5
                    have HK := Lib.hid hK
                    have HN := Lib.hid hN
                    clear hK hdep hgd hfr hsz ho hN
                    go_simp
                    exact HK.out _ _ (fun d hd => by cases hd; exact rfl) (Nx.refl _ _ _) trivial
                  · cases (show some _ = some o from ho)
                    have hg : bx.tmps.getD 28 undef = .bool true := hgd 8 true _ 28 rfl rfl rfl
                    refine ite_yes ((wanted_of rfl rfl rfl hg).trans rfl) ?_
                    have h29 : bx.tmps.getD 29 undef = .slice (some ⟨b, off, none⟩) n c := hdep 29 (reads_of (by kernel_rfl)) ⟨9, _, rfl, rfl⟩
                    have f29 := getD_opt h29
                    have h30 : bx.tmps.getD 30 undef = .int .i64 k := hdep 30 (reads_of (by kernel_rfl)) ⟨10, _, rfl, rfl⟩
                    have f30 := getD_opt h30
                    have HK := Lib.hid hK
                    have HN := Lib.hid hN
                    clear hK hdep hgd hfr hsz ho hN
                    go_simp
                    try rw [if_pos (by omega)]
                    exact HK.out _ _ (fun d hd => by cases hd; exact rfl) (Nx.refl _ _ _) trivial
                  · cases (show some _ = some o from ho)
                    have hg : bx.tmps.getD 28 undef = .bool true := hgd 8 true _ 28 rfl rfl rfl
                    refine ite_yes ((wanted_of rfl rfl rfl hg).trans rfl) ?_
                    have h31 : bx.tmps.getD 31 undef = .pointer (some ⟨b, off + k * 3, none⟩) := hdep 31 (reads_of (by kernel_rfl)) ⟨11, _, rfl, rfl⟩
                    have f31 := getD_opt h31
                    have HK := Lib.hid hK
                    have HN := Lib.hid hN
                    clear hK hdep hgd hfr hsz ho hN
                    go_simp
                    exact HK.out _ _ (fun d hd => by cases hd; exact rfl) (Nx.refl _ _ _) trivial
                  · cases (show some _ = some o from ho)
                    have hg : bx.tmps.getD 28 undef = .bool true := hgd 8 true _ 28 rfl rfl rfl
                    refine ite_yes ((wanted_of rfl rfl rfl hg).trans rfl) ?_
                    have h32 : bx.tmps.getD 32 undef = .pointer (some ⟨b, off + k * 3 + 2, none⟩) := hdep 32 (reads_of (by kernel_rfl)) ⟨12, _, rfl, rfl⟩
                    have f32 := getD_opt h32
                    have c0 := hN.cell (b := b) (o := off + k * 3) (v := .string z.a) hc0 (by omega) (by omega)
                    have c1 := hN.cell (b := b) (o := off + k * 3 + 1) (v := .bool z.b) hc1 (by omega) (by omega)
                    have c2 := hN.cell (b := b) (o := off + k * 3 + 2) (v := .bool true) hc2 (by omega) (by omega)
                    have d0 := hN.cell (b := w.heap.size) (o := 0) (v := .int .i64 ak) k0 (by omega) (by omega)
                    have d3 := hN.cell (b := w.heap.size) (o := 3) (v := .string ay) k3 (by omega) (by omega)
                    have HK := Lib.hid hK
                    have HN := Lib.hid hN
                    clear hK hdep hgd hfr hsz ho hN
                    go_simp
                    exact HK.out _ _ (fun d hd => by cases hd; exact rfl) (Nx.refl _ _ _) trivial
                  · cases (show some _ = some o from ho)
                    have hg : bx.tmps.getD 28 undef = .bool true := hgd 8 true _ 28 rfl rfl rfl
                    refine ite_yes ((wanted_of rfl rfl rfl hg).trans rfl) ?_
                    have h33 : bx.tmps.getD 33 undef = .bool true := hdep 33 (reads_of (by kernel_rfl)) ⟨13, _, rfl, rfl⟩
                    have f33 := getD_opt h33
                    have HK := Lib.hid hK
                    have HN := Lib.hid hN
                    clear hK hdep hgd hfr hsz ho hN
                    go_simp
                    exact HK.out _ _ (fun d hd => by cases hd; exact rfl) (Nx.refl _ _ _) trivial
                  · cases (show some _ = some o from ho)
                    have hg : bx.tmps.getD 28 undef = .bool true := hgd 8 true _ 28 rfl rfl rfl
                    refine ite_yes ((wanted_of rfl rfl rfl hg).trans rfl) ?_
                    have h34 : bx.tmps.getD 34 undef = .bool false := hdep 34 (reads_of (by kernel_rfl)) ⟨14, _, rfl, rfl⟩
                    have f34 := getD_opt h34
                    have HK := Lib.hid hK
                    have HN := Lib.hid hN
                    clear hK hdep hgd hfr hsz ho hN
                    go_simp
                    exact HK.out _ _ (fun d hd => by cases hd; exact rfl) (Nx.refl _ _ _) trivial
                  · cases (show some _ = some o from ho)
                    have hg : bx.tmps.getD 35 undef = .bool false := hgd 15 false _ 35 rfl rfl rfl
                    refine ite_yes ((wanted_of rfl rfl rfl hg).trans rfl) ?_
                    have h3 : bx.tmps.getD 3 undef = .pointer (some ⟨w.heap.size, 0, none⟩) := hfr 3 (noDst_of (by kernel_rfl))
                    have f3 := getD_opt h3
                    have HK := Lib.hid hK
                    have HN := Lib.hid hN
                    clear hK hdep hgd hfr hsz ho hN
                    go_simp
                    exact HK.out _ _ (fun d hd => by cases hd; exact rfl) (Nx.refl _ _ _) trivial
                  · cases (show some _ = some o from ho)
                    have hg : bx.tmps.getD 35 undef = .bool false := hgd 15 false _ 35 rfl rfl rfl
                    refine ite_yes ((wanted_of rfl rfl rfl hg).trans rfl) ?_
                    have h36 : bx.tmps.getD 36 undef = .pointer (some ⟨w.heap.size, 0, none⟩) := hdep 36 (reads_of (by kernel_rfl)) ⟨16, _, rfl, rfl⟩
                    have f36 := getD_opt h36
                    have c0 := hN.cell (b := b) (o := off + k * 3) (v := .string z.a) hc0 (by omega) (by omega)
                    have c1 := hN.cell (b := b) (o := off + k * 3 + 1) (v := .bool z.b) hc1 (by omega) (by omega)
                    have c2 := hN.cell (b := b) (o := off + k * 3 + 2) (v := .bool true) hc2 (by omega) (by omega)
                    have d0 := hN.cell (b := w.heap.size) (o := 0) (v := .int .i64 ak) k0 (by omega) (by omega)
                    have d3 := hN.cell (b := w.heap.size) (o := 3) (v := .string ay) k3 (by omega) (by omega)
                    have HK := Lib.hid hK
                    have HN := Lib.hid hN
                    clear hK hdep hgd hfr hsz ho hN
                    go_simp
                    exact HK.out _ _ (fun d hd => by cases hd; exact rfl) (Nx.refl _ _ _) trivial
                  · cases (show some _ = some o from ho)
                    have hg : bx.tmps.getD 35 undef = .bool false := hgd 15 false _ 35 rfl rfl rfl
                    refine ite_yes ((wanted_of rfl rfl rfl hg).trans rfl) ?_
                    have h37 : bx.tmps.getD 37 undef = .int .i64 ak := hdep 37 (reads_of (by kernel_rfl)) ⟨17, _, rfl, rfl⟩
                    have f37 := getD_opt h37
                    have HK := Lib.hid hK
                    have HN := Lib.hid hN
                    clear hK hdep hgd hfr hsz ho hN
                    go_simp
                    exact HK.out _ _ (fun d hd => by cases hd; exact rfl) (Nx.refl _ _ _) trivial
                  · cases (show some _ = some o from ho)
                    have hg : bx.tmps.getD 28 undef = .bool true := hgd 8 true _ 28 rfl rfl rfl
                    refine ite_yes ((wanted_of rfl rfl rfl hg).trans rfl) ?_
                    have h35 : bx.tmps.getD 35 undef = .bool false := hdep 35 (reads_of (by kernel_rfl)) ⟨15, _, rfl, rfl⟩
                    have f35 := getD_opt h35
                    have h38 : bx.tmps.getD 38 undef = .bool false := hdep 38 (reads_of (by kernel_rfl)) ⟨18, _, rfl, rfl⟩
                    have f38 := getD_opt h38
                    have HK := Lib.hid hK
                    have HN := Lib.hid hN
                    clear hK hdep hgd hfr hsz ho hN
                    go_simp
                    exact HK.out _ _ (fun d hd => by cases hd; exact rfl) (Nx.refl _ _ _) trivial
                  · cases (show some _ = some o from ho)
                    refine ite_yes (by rfl) ?_
                    have h28 : bx.tmps.getD 28 undef = .bool true := hdep 28 (reads_of (by kernel_rfl)) ⟨8, _, rfl, rfl⟩
                    have f28 := getD_opt h28
                    have h39 : bx.tmps.getD 39 undef = .bool false := hdep 39 (reads_of (by kernel_rfl)) ⟨19, _, rfl, rfl⟩
                    have f39 := getD_opt h39
                    have HK := Lib.hid hK
                    have HN := Lib.hid hN
                    clear hK hdep hgd hfr hsz ho hN
                    go_simp
                    exact HK.out _ _ (fun d hd => by cases hd; exact rfl) (Nx.refl _ _ _) trivial
                · intro bx wb hsz hdf hfr hty hN hJ
                  obtain ⟨tm, df⟩ := bx
                  obtain rfl : df = [] := hdf
                  have q0 : tm.getD 0 undef = .slice (some ⟨b, off, none⟩) n c := hfr 0 (noDst_of (by kernel_rfl))
                  have q1 : tm.getD 1 undef = acv ⟨ak, an, ⟨ax, ay⟩, at_⟩ := hfr 1 (noDst_of (by kernel_rfl))
                  have q2 : tm.getD 2 undef = undef := hfr 2 (noDst_of (by kernel_rfl))
                  have q3 : tm.getD 3 undef = .pointer (some ⟨w.heap.size, 0, none⟩) := hfr 3 (noDst_of (by kernel_rfl))
                  have q5 : tm.getD 5 undef = .int .i64 k := hfr 5 (noDst_of (by kernel_rfl))
                  have q6 : tm.getD 6 undef = .slice (some ⟨b, off, none⟩) n c := hfr 6 (noDst_of (by kernel_rfl))
                  have q7 : tm.getD 7 undef = .bool true := hfr 7 (noDst_of (by kernel_rfl))
                  have q8 : tm.getD 8 undef = .bool false := hfr 8 (noDst_of (by kernel_rfl))
                  have q9 : tm.getD 9 undef = .bool false := hfr 9 (noDst_of (by kernel_rfl))
                  have q10 : tm.getD 10 undef = acv ⟨ak, an, ⟨ax, ay⟩, at_⟩ := hfr 10 (noDst_of (by kernel_rfl))
                  have q11 : tm.getD 11 undef = .bool true := hfr 11 (noDst_of (by kernel_rfl))
                  have q12 : tm.getD 12 undef = .bool false := hfr 12 (noDst_of (by kernel_rfl))
                  have q13 : tm.getD 13 undef = .bool false := hfr 13 (noDst_of (by kernel_rfl))
                  have q40 : tm.getD 40 undef = .bool false := hty 20 _ 40 rfl rfl
                  have HNX := Lib.hid hN
                  have q := lit_of tm 41 hsz
                  simp only [List.range, List.range.loop, List.map, q0, q1, q2, q3, q5, q6, q7, q8, q9, q10, q11, q12, q13, q40] at q
                  have HQ := Lib.hid q
                  clear q hsz hfr hty hN hJ q0 q1 q2 q3 q5 q6 q7 q8 q9 q10 q11 q12 q13 q40
                  rw [HQ.out]
                  generalize tm.getD 4 undef = x4
                  generalize tm.getD 14 undef = x14
                  generalize tm.getD 15 undef = x15
                  generalize tm.getD 16 undef = x16
                  generalize tm.getD 17 undef = x17
                  generalize tm.getD 18 undef = x18
                  generalize tm.getD 19 undef = x19
                  generalize tm.getD 20 undef = x20
                  generalize tm.getD 21 undef = x21
                  generalize tm.getD 22 undef = x22
                  generalize tm.getD 23 undef = x23
                  generalize tm.getD 24 undef = x24
                  generalize tm.getD 25 undef = x25
                  generalize tm.getD 26 undef = x26
                  generalize tm.getD 27 undef = x27
                  generalize tm.getD 28 undef = x28
                  generalize tm.getD 29 undef = x29
                  generalize tm.getD 30 undef = x30
                  generalize tm.getD 31 undef = x31
                  generalize tm.getD 32 undef = x32
                  generalize tm.getD 33 undef = x33
                  generalize tm.getD 34 undef = x34
                  generalize tm.getD 35 undef = x35
                  generalize tm.getD 36 undef = x36
                  generalize tm.getD 37 undef = x37
                  generalize tm.getD 38 undef = x38
                  generalize tm.getD 39 undef = x39
                  clear HQ
                  have HKB2 := Lib.hid (show Bk _ _ _ _ from (HNX.out.block w.heap.size hkl (by omega) (by omega)).trans HKB.out)
                  have hB2 := below_of_nx HB.out (by omega) (by omega) HNX.out
                  have HB2 := Lib.hid hB2
                  clear hB2 HNX
                  go_wp2_with fail
                  go_roundw
                  case rel => first | exact ⟨k + 1, by omega, by go_num, HTo_succ HT.out HZ.out HF.out, HKB2.out, HB2.out⟩ | ((repeat apply Exists.intro); exact ⟨⟨k + 1, by omega, by go_num, HTo_succ HT.out HZ.out HF.out, HKB2.out, HB2.out⟩, rfl⟩)
                  case measure => simp [intOf]; omega
              · have HF : Hid (r = false) := Lib.hid (by rw [← HR.out]; exact hf_hit HZ.out (hfS_c hh hzc h3))
                refine wp_region_typedG (wo.heap.size) (wo.heap.size) (fun t v _ => match t with
                  | 20 => v = .slice (some ⟨b, off, none⟩) n c
                  | 21 => v = .int .i64 k
                  | 22 => v = .pointer (some ⟨b, off + k * 3, none⟩)
                  | 23 => v = .agg #[.string z.a, .bool z.b, .bool true]
                  | 24 => v = .pointer (some ⟨w.heap.size, 2, none⟩)
                  | 25 => v = .pointer (some ⟨w.heap.size, 3, none⟩)
                  | 26 => v = .string ay
                  | 27 => v = .bool true
                  | 28 => v = .bool true
                  | 29 => v = .slice (some ⟨b, off, none⟩) n c
                  | 30 => v = .int .i64 k
                  | 31 => v = .pointer (some ⟨b, off + k * 3, none⟩)
                  | 32 => v = .pointer (some ⟨b, off + k * 3 + 2, none⟩)
                  | 33 => v = .bool true
                  | 34 => v = .bool false
                  | 35 => v = .bool false
                  | 36 => v = .pointer (some ⟨w.heap.size, 0, none⟩)
                  | 37 => v = .int .i64 ak
                  | 38 => v = .bool true
                  | 39 => v = .bool true
                  | 40 => v = .bool true
                  | _ => True) (fun _ _ => True) (by kernel_rfl) (regOkG_of (by kernel_rfl) (by kernel_rfl)) (fun _ _ _ _ _ h => h) trivial ?_ ?_
                · intro i o cx bx wb ho hc hJ hN hsz hfr hdep hgd K hK
                  have hi := (Array.getElem?_eq_some_iff.1 ho).1
                  simp only [List.size_toArray, List.length_cons, List.length_nil] at hi hc
                  have hcases : i = 0 ∨ i = 1 ∨ i = 2 ∨ i = 3 ∨ i = 4 ∨ i = 5 ∨ i = 6 ∨ i = 7 ∨ i = 8 ∨ i = 9 ∨ i = 10 ∨ i = 11 ∨ i = 12 ∨ i = 13 ∨ i = 14 ∨ i = 15 ∨ i = 16 ∨ i = 17 ∨ i = 18 ∨ i = 19 ∨ i = 20 := by omega
                  rcases hcases with rfl | rfl | rfl | rfl | rfl | rfl | rfl | rfl | rfl | rfl | rfl | rfl | rfl | rfl | rfl | rfl | rfl | rfl | rfl | rfl | rfl
                  · cases (show some _ = some o from ho)
                    refine ite_yes (by rfl) ?_
                    have h0 : bx.tmps.getD 0 undef = .slice (some ⟨b, off, none⟩) n c := hfr 0 (noDst_of (by kernel_rfl))
                    have f0 := getD_opt h0
                    have HK := Lib.hid hK
                    have HN := Lib.hid hN
                    clear hK hdep hgd hfr hsz ho hN
                    go_simp
                    exact HK.out _ _ (fun d hd => by cases hd; exact rfl) (Nx.refl _ _ _) trivial
                  · cases (show some _ = some o from ho)
                    refine ite_yes (by rfl) ?_
                    have h5 : bx.tmps.getD 5 undef = .int .i64 k := hfr 5 (noDst_of (by kernel_rfl))
                    have f5 := getD_opt h5
                    have HK := Lib.hid hK
                    have HN := Lib.hid hN
                    clear hK hdep hgd hfr hsz ho hN
                    go_simp
                    exact HK.out _ _ (fun d hd => by cases hd; exact rfl) (Nx.refl _ _ _) trivial
                  · cases (show some _ = some o from ho)
                    refine ite_yes (by rfl) ?_
                    have h20 : bx.tmps.getD 20 undef = .slice (some ⟨b, off, none⟩) n c := hdep 20 (reads_of (by kernel_rfl)) ⟨0, _, rfl, rfl⟩
                    have f20 := getD_opt h20
                    have h21 : bx.tmps.getD 21 undef = .int .i64 k := hdep 21 (reads_of (by kernel_rfl)) ⟨1, _, rfl, rfl⟩
                    have f21 := getD_opt h21
                    have HK := Lib.hid hK
                    have HN := Lib.hid hN
                    clear hK hdep hgd hfr hsz ho hN
                    go_simp
                    try rw [if_pos (by omega)]
                    exact HK.out _ _ (fun d hd => by cases hd; exact rfl) (Nx.refl _ _ _) trivial
                  · cases (show some _ = some o from ho)
                    refine ite_yes (by rfl) ?_
                    have h22 : bx.tmps.getD 22 undef = .pointer (some ⟨b, off + k * 3, none⟩) := hdep 22 (reads_of (by kernel_rfl)) ⟨2, _, rfl, rfl⟩
                    have f22 := getD_opt h22
                    have c0 := hN.cell (b := b) (o := off + k * 3) (v := .string z.a) hc0 (by omega) (by omega)
                    have c1 := hN.cell (b := b) (o := off + k * 3 + 1) (v := .bool z.b) hc1 (by omega) (by omega)
                    have c2 := hN.cell (b := b) (o := off + k * 3 + 2) (v := .bool true) hc2 (by omega) (by omega)
                    have d0 := hN.cell (b := w.heap.size) (o := 0) (v := .int .i64 ak) k0 (by omega) (by omega)
                    have d3 := hN.cell (b := w.heap.size) (o := 3) (v := .string ay) k3 (by omega) (by omega)
                    have HK := Lib.hid hK
                    have HN := Lib.hid hN
                    clear hK hdep hgd hfr hsz ho hN
                    go_simp
                    exact HK.out _ _ (fun d hd => by cases hd; exact rfl) (Nx.refl _ _ _) trivial
                  · cases (show some _ = some o from ho)
                    refine ite_yes (by rfl) ?_
                    have h3 : bx.tmps.getD 3 undef = .pointer (some ⟨w.heap.size, 0, none⟩) := hfr 3 (noDst_of (by kernel_rfl))
                    have f3 := getD_opt h3
                    have HK := Lib.hid hK
                    have HN := Lib.hid hN
                    clear hK hdep hgd hfr hsz ho hN
                    go_simp
                    exact HK.out _ _ (fun d hd => by cases hd; exact rfl) (Nx.refl _ _ _) trivial
                  · cases (show some _ = some o from ho)
                    refine ite_yes (by rfl) ?_
                    have h24 : bx.tmps.getD 24 undef = .pointer (some ⟨w.heap.size, 2, none⟩) := hdep 24 (reads_of (by kernel_rfl)) ⟨4, _, rfl, rfl⟩
                    have f24 := getD_opt h24
                    have HK := Lib.hid hK
                    have HN := Lib.hid hN
                    clear hK hdep hgd hfr hsz ho hN
                    go_simp
                    exact HK.out _ _ (fun d hd => by cases hd; exact rfl) (Nx.refl _ _ _) trivial
                  · cases (show some _ = some o from ho)
                    refine ite_yes (by rfl) ?_
                    have h25 : bx.tmps.getD 25 undef = .pointer (some ⟨w.heap.size, 3, none⟩) := hdep 25 (reads_of (by kernel_rfl)) ⟨5, _, rfl, rfl⟩
                    have f25 := getD_opt h25
                    have c0 := hN.cell (b := b) (o := off + k * 3) (v := .string z.a) hc0 (by omega) (by omega)
                    have c1 := hN.cell (b := b) (o := off + k * 3 + 1) (v := .bool z.b) hc1 (by omega) (by omega)
                    have c2 := hN.cell (b := b) (o := off + k * 3 + 2) (v := .bool true) hc2 (by omega) (by omega)
                    have d0 := hN.cell (b := w.heap.size) (o := 0) (v := .int .i64 ak) k0 (by omega) (by omega)
                    have d3 := hN.cell (b := w.heap.size) (o := 3) (v := .string ay) k3 (by omega) (by omega)
                    have HK := Lib.hid hK
                    have HN := Lib.hid hN
                    clear hK hdep hgd hfr hsz ho hN
                    go_simp
                    exact HK.out _ _ (fun d hd => by cases hd; exact rfl) (Nx.refl _ _ _) trivial
                  · cases (show some _ = some o from ho)
                    refine ite_yes (by rfl) ?_
                    have h23 : bx.tmps.getD 23 undef = .agg #[.string z.a, .bool z.b, .bool true] := hdep 23 (reads_of (by kernel_rfl)) ⟨3, _, rfl, rfl⟩
                    have f23 := getD_opt h23
                    have h26 : bx.tmps.getD 26 undef = .string ay := hdep 26 (reads_of (by kernel_rfl)) ⟨6, _, rfl, rfl⟩
                    have f26 := getD_opt h26
                    have HK := Lib.hid hK
                    have HN := Lib.hid hN
                    clear hK hdep hgd hfr hsz ho hN
                    go_simp
                    refine (sbh_any _ _ _ _ _ H2.out HSZ.out).mono ?_
                    rw [hh]
                    rintro e w' ⟨rfl, o1, n1, rfl⟩
                    exact HK.out _ _ (fun d hd => by cases hd; exact rfl) (nx_below (bdN (bel1 rfl) n1)) trivial
                  · cases (show some _ = some o from ho)
                    refine ite_yes (by rfl) ?_
                    have h27 : bx.tmps.getD 27 undef = .bool true := hdep 27 (reads_of (by kernel_rfl)) ⟨7, _, rfl, rfl⟩
                    have f27 := getD_opt h27
                    have HK := Lib.hid hK
                    have HN := Lib.hid hN
                    clear hK hdep hgd hfr hsz ho hN
                    go_simp
                    exact HK.out _ _ (fun d hd => by cases hd; exact rfl) (Nx.refl _ _ _) trivial
                  · cases (show some _ = some o from ho)
                    have hg : bx.tmps.getD 28 undef = .bool true := hgd 8 true _ 28 rfl rfl rfl
                    refine ite_yes ((wanted_of rfl rfl rfl hg).trans rfl) ?_
                    have h0 : bx.tmps.getD 0 undef = .slice (some ⟨b, off, none⟩) n c := hfr 0 (noDst_of (by kernel_rfl))
                    have f0 := getD_opt h0
                    have HK := Lib.hid hK
                    have HN := Lib.hid hN
                    clear hK hdep hgd hfr hsz ho hN
                    go_simp
                    exact HK.out _ _ (fun d hd => by cases hd; exact rfl) (Nx.refl _ _ _) trivial
                  · cases (show some _ = some o from ho)
                    have hg : bx.tmps.getD 28 undef = .bool true := hgd 8 true _ 28 rfl rfl rfl
                    refine ite_yes ((wanted_of rfl rfl rfl hg).trans rfl) ?_
                    have h5 : bx.tmps.getD 5 undef = .int .i64 k := hfr 5 (noDst_of (by kernel_rfl))
                    have f5 := getD_opt h5
                    have HK := Lib.hid hK
                    have HN := Lib.hid hN
                    clear hK hdep hgd hfr hsz ho hN
                    go_simp
                    exact HK.out _ _ (fun d hd => by cases hd; exact rfl) (Nx.refl _ _ _) trivial
                  · cases (show some _ = some o from ho)
                    have hg : bx.tmps.getD 28 undef = .bool true := hgd 8 true _ 28 rfl rfl rfl
                    refine ite_yes ((wanted_of rfl rfl rfl hg).trans rfl) ?_
                    have h29 : bx.tmps.getD 29 undef = .slice (some ⟨b, off, none⟩) n c := hdep 29 (reads_of (by kernel_rfl)) ⟨9, _, rfl, rfl⟩
                    have f29 := getD_opt h29
                    have h30 : bx.tmps.getD 30 undef = .int .i64 k := hdep 30 (reads_of (by kernel_rfl)) ⟨10, _, rfl, rfl⟩
                    have f30 := getD_opt h30
                    have HK := Lib.hid hK
                    have HN := Lib.hid hN
                    clear hK hdep hgd hfr hsz ho hN
                    go_simp
                    try rw [if_pos (by omega)]
                    exact HK.out _ _ (fun d hd => by cases hd; exact rfl) (Nx.refl _ _ _) trivial
                  · cases (show some _ = some o from ho)
                    have hg : bx.tmps.getD 28 undef = .bool true := hgd 8 true _ 28 rfl rfl rfl
                    refine ite_yes ((wanted_of rfl rfl rfl hg).trans rfl) ?_
                    have h31 : bx.tmps.getD 31 undef = .pointer (some ⟨b, off + k * 3, none⟩) := hdep 31 (reads_of (by kernel_rfl)) ⟨11, _, rfl, rfl⟩
                    have f31 := getD_opt h31
                    have HK := Lib.hid hK
                    have HN := Lib.hid hN
                    clear hK hdep hgd hfr hsz ho hN
                    go_simp
                    exact HK.out _ _ (fun d hd => by cases hd; exact rfl) (Nx.refl _ _ _) trivial
                  · cases (show some _ = some o from ho)
                    have hg : bx.tmps.getD 28 undef = .bool true := hgd 8 true _ 28 rfl rfl rfl
                    refine ite_yes ((wanted_of rfl rfl rfl hg).trans rfl) ?_
                    have h32 : bx.tmps.getD 32 undef = .pointer (some ⟨b, off + k * 3 + 2, none⟩) := hdep 32 (reads_of (by kernel_rfl)) ⟨12, _, rfl, rfl⟩
                    have f32 := getD_opt h32
                    have c0 := hN.cell (b := b) (o := off + k * 3) (v := .string z.a) hc0 (by omega) (by omega)
                    have c1 := hN.cell (b := b) (o := off + k * 3 + 1) (v := .bool z.b) hc1 (by omega) (by omega)
                    have c2 := hN.cell (b := b) (o := off + k * 3 + 2) (v := .bool true) hc2 (by omega) (by omega)
                    have d0 := hN.cell (b := w.heap.size) (o := 0) (v := .int .i64 ak) k0 (by omega) (by omega)
                    have d3 := hN.cell (b := w.heap.size) (o := 3) (v := .string ay) k3 (by omega) (by omega)
                    have HK := Lib.hid hK
                    have HN := Lib.hid hN
                    clear hK hdep hgd hfr hsz ho hN
                    go_simp
                    exact HK.out _ _ (fun d hd => by cases hd; exact rfl) (Nx.refl _ _ _) trivial
                  · cases (show some _ = some o from ho)
                    have hg : bx.tmps.getD 28 undef = .bool true := hgd 8 true _ 28 rfl rfl rfl
                    refine ite_yes ((wanted_of rfl rfl rfl hg).trans rfl) ?_
                    have h33 : bx.tmps.getD 33 undef = .bool true := hdep 33 (reads_of (by kernel_rfl)) ⟨13, _, rfl, rfl⟩
                    have f33 := getD_opt h33
                    have HK := Lib.hid hK
                    have HN := Lib.hid hN
                    clear hK hdep hgd hfr hsz ho hN
                    go_simp
                    exact HK.out _ _ (fun d hd => by cases hd; exact rfl) (Nx.refl _ _ _) trivial
                  · cases (show some _ = some o from ho)
                    have hg : bx.tmps.getD 28 undef = .bool true := hgd 8 true _ 28 rfl rfl rfl
                    refine ite_yes ((wanted_of rfl rfl rfl hg).trans rfl) ?_
                    have h34 : bx.tmps.getD 34 undef = .bool false := hdep 34 (reads_of (by kernel_rfl)) ⟨14, _, rfl, rfl⟩
                    have f34 := getD_opt h34
                    have HK := Lib.hid hK
                    have HN := Lib.hid hN
                    clear hK hdep hgd hfr hsz ho hN
                    go_simp
                    exact HK.out _ _ (fun d hd => by cases hd; exact rfl) (Nx.refl _ _ _) trivial
                  · cases (show some _ = some o from ho)
                    have hg : bx.tmps.getD 35 undef = .bool false := hgd 15 false _ 35 rfl rfl rfl
                    refine ite_yes ((wanted_of rfl rfl rfl hg).trans rfl) ?_
                    have h3 : bx.tmps.getD 3 undef = .pointer (some ⟨w.heap.size, 0, none⟩) := hfr 3 (noDst_of (by kernel_rfl))
                    have f3 := getD_opt h3
                    have HK := Lib.hid hK
                    have HN := Lib.hid hN
                    clear hK hdep hgd hfr hsz ho hN
                    go_simp
                    exact HK.out _ _ (fun d hd => by cases hd; exact rfl) (Nx.refl _ _ _) trivial
                  · cases (show some _ = some o from ho)
                    have hg : bx.tmps.getD 35 undef = .bool false := hgd 15 false _ 35 rfl rfl rfl
                    refine ite_yes ((wanted_of rfl rfl rfl hg).trans rfl) ?_
                    have h36 : bx.tmps.getD 36 undef = .pointer (some ⟨w.heap.size, 0, none⟩) := hdep 36 (reads_of (by kernel_rfl)) ⟨16, _, rfl, rfl⟩
                    have f36 := getD_opt h36
                    have c0 := hN.cell (b := b) (o := off + k * 3) (v := .string z.a) hc0 (by omega) (by omega)
                    have c1 := hN.cell (b := b) (o := off + k * 3 + 1) (v := .bool z.b) hc1 (by omega) (by omega)
                    have c2 := hN.cell (b := b) (o := off + k * 3 + 2) (v := .bool true) hc2 (by omega) (by omega)
                    have d0 := hN.cell (b := w.heap.size) (o := 0) (v := .int .i64 ak) k0 (by omega) (by omega)
                    have d3 := hN.cell (b := w.heap.size) (o := 3) (v := .string ay) k3 (by omega) (by omega)
                    have HK := Lib.hid hK
                    have HN := Lib.hid hN
                    clear hK hdep hgd hfr hsz ho hN
                    go_simp
                    exact HK.out _ _ (fun d hd => by cases hd; exact rfl) (Nx.refl _ _ _) trivial
                  · cases (show some _ = some o from ho)
                    have hg : bx.tmps.getD 35 undef = .bool false := hgd 15 false _ 35 rfl rfl rfl
                    refine ite_yes ((wanted_of rfl rfl rfl hg).trans rfl) ?_
                    have h37 : bx.tmps.getD 37 undef = .int .i64 ak := hdep 37 (reads_of (by kernel_rfl)) ⟨17, _, rfl, rfl⟩
                    have f37 := getD_opt h37
                    have HK := Lib.hid hK
                    have HN := Lib.hid hN
                    clear hK hdep hgd hfr hsz ho hN
                    go_simp
                    exact HK.out _ _ (fun d hd => by cases hd; exact rfl) (Nx.refl _ _ _) trivial
                  · cases (show some _ = some o from ho)
                    have hg : bx.tmps.getD 28 undef = .bool true := hgd 8 true _ 28 rfl rfl rfl
                    refine ite_yes ((wanted_of rfl rfl rfl hg).trans rfl) ?_
                    have h35 : bx.tmps.getD 35 undef = .bool false := hdep 35 (reads_of (by kernel_rfl)) ⟨15, _, rfl, rfl⟩
                    have f35 := getD_opt h35
                    have h38 : bx.tmps.getD 38 undef = .bool true := hdep 38 (reads_of (by kernel_rfl)) ⟨18, _, rfl, rfl⟩
                    have f38 := getD_opt h38
                    have HK := Lib.hid hK
                    have HN := Lib.hid hN
                    clear hK hdep hgd hfr hsz ho hN
                    go_simp
                    exact HK.out _ _ (fun d hd => by cases hd; exact rfl) (Nx.refl _ _ _) trivial
                  · cases (show some _ = some o from ho)
                    refine ite_yes (by rfl) ?_
                    have h28 : bx.tmps.getD 28 undef = .bool true := hdep 28 (reads_of (by kernel_rfl)) ⟨8, _, rfl, rfl⟩
                    have f28 := getD_opt h28
                    have h39 : bx.tmps.getD 39 undef = .bool true := hdep 39 (reads_of (by kernel_rfl)) ⟨19, _, rfl, rfl⟩
                    have f39 := getD_opt h39
                    have HK := Lib.hid hK
                    have HN := Lib.hid hN
                    clear hK hdep hgd hfr hsz ho hN
                    go_simp
                    exact HK.out _ _ (fun d hd => by cases hd; exact rfl) (Nx.refl _ _ _) trivial
                · intro bx wb hsz hdf hfr hty hN hJ
                  obtain ⟨tm, df⟩ := bx
                  obtain rfl : df = [] := hdf
                  have q0 : tm.getD 0 undef = .slice (some ⟨b, off, none⟩) n c := hfr 0 (noDst_of (by kernel_rfl))
                  have q1 : tm.getD 1 undef = acv ⟨ak, an, ⟨ax, ay⟩, at_⟩ := hfr 1 (noDst_of (by kernel_rfl))
                  have q2 : tm.getD 2 undef = undef := hfr 2 (noDst_of (by kernel_rfl))
                  have q3 : tm.getD 3 undef = .pointer (some ⟨w.heap.size, 0, none⟩) := hfr 3 (noDst_of (by kernel_rfl))
                  have q5 : tm.getD 5 undef = .int .i64 k := hfr 5 (noDst_of (by kernel_rfl))
                  have q6 : tm.getD 6 undef = .slice (some ⟨b, off, none⟩) n c := hfr 6 (noDst_of (by kernel_rfl))
                  have q7 : tm.getD 7 undef = .bool true := hfr 7 (noDst_of (by kernel_rfl))
                  have q8 : tm.getD 8 undef = .bool false := hfr 8 (noDst_of (by kernel_rfl))
                  have q9 : tm.getD 9 undef = .bool false := hfr 9 (noDst_of (by kernel_rfl))
                  have q10 : tm.getD 10 undef = acv ⟨ak, an, ⟨ax, ay⟩, at_⟩ := hfr 10 (noDst_of (by kernel_rfl))
                  have q11 : tm.getD 11 undef = .bool true := hfr 11 (noDst_of (by kernel_rfl))
                  have q12 : tm.getD 12 undef = .bool false := hfr 12 (noDst_of (by kernel_rfl))
                  have q13 : tm.getD 13 undef = .bool false := hfr 13 (noDst_of (by kernel_rfl))
                  have q40 : tm.getD 40 undef = .bool true := hty 20 _ 40 rfl rfl
                  have HNX := Lib.hid hN
                  have q := lit_of tm 41 hsz
                  simp only [List.range, List.range.loop, List.map, q0, q1, q2, q3, q5, q6, q7, q8, q9, q10, q11, q12, q13, q40] at q
                  have HQ := Lib.hid q
                  clear q hsz hfr hty hN hJ q0 q1 q2 q3 q5 q6 q7 q8 q9 q10 q11 q12 q13 q40
                  rw [HQ.out]
                  generalize tm.getD 4 undef = x4
                  generalize tm.getD 14 undef = x14
                  generalize tm.getD 15 undef = x15
                  generalize tm.getD 16 undef = x16
                  generalize tm.getD 17 undef = x17
                  generalize tm.getD 18 undef = x18
                  generalize tm.getD 19 undef = x19
                  generalize tm.getD 20 undef = x20
                  generalize tm.getD 21 undef = x21
                  generalize tm.getD 22 undef = x22
                  generalize tm.getD 23 undef = x23
                  generalize tm.getD 24 undef = x24
                  generalize tm.getD 25 undef = x25
                  generalize tm.getD 26 undef = x26
                  generalize tm.getD 27 undef = x27
                  generalize tm.getD 28 undef = x28
                  generalize tm.getD 29 undef = x29
                  generalize tm.getD 30 undef = x30
                  generalize tm.getD 31 undef = x31
                  generalize tm.getD 32 undef = x32
                  generalize tm.getD 33 undef = x33
                  generalize tm.getD 34 undef = x34
                  generalize tm.getD 35 undef = x35
                  generalize tm.getD 36 undef = x36
                  generalize tm.getD 37 undef = x37
                  generalize tm.getD 38 undef = x38
                  generalize tm.getD 39 undef = x39
                  clear HQ
                  have HKB2 := Lib.hid (show Bk _ _ _ _ from (HNX.out.block w.heap.size hkl (by omega) (by omega)).trans HKB.out)
                  have hB2 := below_of_nx HB.out (by omega) (by omega) HNX.out
                  have HB2 := Lib.hid hB2
                  clear hB2 HNX
                  go_wp2_with fail
                  go_ret
                  exact ⟨ret_bool HF.out.symm, HB2.out⟩
        · obtain rfl : k = n := by omega
          have HF : Hid (r = true) := Lib.hid (by rw [← HR.out]; exact hf_good HV.out HAC.out (by rw [HLL.out]; exact HT.out))
          clear ht hb hkb
          go_wp2_with fail
          go_ret
          exact ⟨ret_bool HF.out.symm, HB.out⟩
end Go.Proofs.Ytajfglcoigklnaa
