/-
  The contracts of FollowersValid.
-/
import Derived.Test.YtpbnbekkmifbpaaDoorHdM
import Derived.Test.YtpbnbekkmifbpaaDoorTypedG
import Derived.Test.YtpbnbekkmifbpaaDoorTypedS
import Derived.Deep.DeepCutAuto
namespace Go.Proofs.YtpbnbekkmifbpaaDoor
open Go.ChangeShapes Go.WideShapes Go.ChangeAt Go.RowKit Go.Joins
set_option linter.unusedVariables false

theorem NTo_no (l : List Ha) (z : Ha) (k : Nat) : NTo faSm l z k := fun _ _ _ _ => rfl
set_option maxRecDepth 100000 in
set_option maxHeartbeats 16000000 in
theorem ifv_any (A : Option Addr) (n c : Nat) (l : List Ha) (w : World) (h : Rd w 2 A n (has l)) (hnc : n ≤ c) (hc : c ≤ maxLen) (hs : ∀ z ∈ l, z.a.size ≤ maxLen ∧ z.b.size ≤ maxLen) :
    Calls Tryd.prog 44 #[.slice A n c] w fun e w' => e = .returned (.bool (fvB l)) ∧ Below w.heap.size w w' := by
  have hll := rd_halen h
  have H := Lib.hid h; have HLL := Lib.hid hll; have HS := Lib.hid hs; clear h hll hs
  unfold maxLen at hc
  by_cases h8 : n ≤ 10
  · go_enter Tryd.func44, Tryd.ntmps44
    go_wp2
    go_loopw [10] (fun i wr => ∃ k : Nat, k ≤ n ∧ i = .int .i64 k ∧ VTo hdV faPr faSm l k ∧ Below w.heap.size w wr) (fun i _ => n - (intOf i).toNat)
    case atStart => exact ⟨0, Nat.zero_le _, rfl, VTo_0 _, Below.refl _ _⟩
    case round =>
      obtain ⟨k, hk, rfl, hv, hb⟩ := hrel
      by_cases hlt : k < n
      · obtain ⟨b, off, z, rfl, hbl, hz, hc0, hc1⟩ := (H.out.below hb).ha hlt
        have HSZ := Lib.hid (HS.out z (List.mem_of_getElem? hz))
        have HV := Lib.hid hv; have HB := Lib.hid hb; have HZ := Lib.hid hz
        clear hv hb hz
        obtain ⟨wo, rfl⟩ : ∃ wo : World, wo = wr := ⟨_, rfl⟩
        go_upto_region 6 with (fail)
        have hkb : Bk (wo.alloc (.cells #[.string z.a, .string z.b] 29)) wo.heap.size 29 #[.string z.a, .string z.b] := Bk.new wo _ _
        have HBW : Hid (Below w.heap.size w (wo.alloc (.cells #[.string z.a, .string z.b] 29))) := Lib.hid (HB.out.alloc HB.out.size _)
        have hsW : (wo.alloc (.cells #[.string z.a, .string z.b] 29)).heap.size = wo.heap.size + 1 := by simp
        generalize wo.alloc (.cells #[.string z.a, .string z.b] 29) = W at *
        have g0 := hkb.cell 0 (v := .string z.a) rfl
        have g1 := hkb.cell 1 (v := .string z.b) rfl
        have hws := HB.out.size
        clear hkb hc0 hc1
        cases hp : hdV z
        · refine wp_region_typedG (W.heap.size) (W.heap.size) (fun t v _ => match t with
            | 15 => v = .agg #[.string z.a, .string z.b]
            | 16 => v = .bool false
            | 17 => v = .bool true
            | 18 => v = .bool true
            | 19 => v = undef
            | 20 => v = undef
            | 21 => v = undef
            | 22 => v = undef
            | 23 => v = undef
            | 24 => v = undef
            | 25 => v = undef
            | 26 => v = undef
            | 27 => v = undef
            | 28 => v = undef
            | 29 => v = undef
            | 30 => v = undef
            | 31 => v = .bool true
            | _ => True) (fun _ _ => True) (by kernel_rfl) (regOkG_of (by kernel_rfl) (by kernel_rfl)) (fun _ _ _ _ _ h => h) trivial ?_ ?_
          · intro i o cx bx wb ho hc hJ hN hsz hfr hdep hgd K hK
            have hi := (Array.getElem?_eq_some_iff.1 ho).1
            simp only [List.size_toArray, List.length_cons, List.length_nil] at hi hc
            have hcases : i = 0 ∨ i = 1 ∨ i = 2 ∨ i = 3 ∨ i = 4 ∨ i = 5 ∨ i = 6 ∨ i = 7 ∨ i = 8 ∨ i = 9 ∨ i = 10 ∨ i = 11 ∨ i = 12 ∨ i = 13 ∨ i = 14 ∨ i = 15 ∨ i = 16 := by omega
            rcases hcases with rfl | rfl | rfl | rfl | rfl | rfl | rfl | rfl | rfl | rfl | rfl | rfl | rfl | rfl | rfl | rfl | rfl
            · cases (show some _ = some o from ho)
              refine ite_yes (by rfl) ?_
              have h4 : bx.tmps.getD 4 undef = .pointer (some ⟨wo.heap.size, 0, none⟩) := hfr 4 (noDst_of (by kernel_rfl))
              have f4 := getD_opt h4
              have c0 := hN.cell (b := wo.heap.size) (o := 0) (v := .string z.a) g0 (by omega) (by omega)
              have c1 := hN.cell (b := wo.heap.size) (o := 1) (v := .string z.b) g1 (by omega) (by omega)
              have HK := Lib.hid hK
              have HN := Lib.hid hN
              clear hK hdep hgd hfr hsz ho hN
              go_simp
              exact HK.out _ _ (fun d hd => by cases hd; exact rfl) (Nx.refl _ _ _) trivial
            · cases (show some _ = some o from ho)
              refine ite_yes (by rfl) ?_
              have h15 : bx.tmps.getD 15 undef = .agg #[.string z.a, .string z.b] := hdep 15 (reads_of (by kernel_rfl)) ⟨0, _, rfl, rfl⟩
              have f15 := getD_opt h15
              have HK := Lib.hid hK
              have HN := Lib.hid hN
              clear hK hdep hgd hfr hsz ho hN
              go_simp
              refine (hd_impl z.a z.b _ HSZ.out.1 HSZ.out.2).mono ?_
              rw [hp]
              rintro e w' ⟨rfl, o1, rfl⟩
              exact HK.out _ _ (fun d hd => by cases hd; exact rfl) (nx_below (bel1 rfl)) trivial
            · cases (show some _ = some o from ho)
              refine ite_yes (by rfl) ?_
              have h16 : bx.tmps.getD 16 undef = .bool false := hdep 16 (reads_of (by kernel_rfl)) ⟨1, _, rfl, rfl⟩
              have f16 := getD_opt h16
              have HK := Lib.hid hK
              have HN := Lib.hid hN
              clear hK hdep hgd hfr hsz ho hN
              go_simp
              exact HK.out _ _ (fun d hd => by cases hd; exact rfl) (Nx.refl _ _ _) trivial
            · cases (show some _ = some o from ho)
              refine ite_yes (by rfl) ?_
              have h17 : bx.tmps.getD 17 undef = .bool true := hdep 17 (reads_of (by kernel_rfl)) ⟨2, _, rfl, rfl⟩
              have f17 := getD_opt h17
              have HK := Lib.hid hK
              have HN := Lib.hid hN
              clear hK hdep hgd hfr hsz ho hN
              go_simp
              exact HK.out _ _ (fun d hd => by cases hd; exact rfl) (Nx.refl _ _ _) trivial
            · cases (show some _ = some o from ho)
              have hg : bx.tmps.getD 18 undef = .bool true := hgd 3 false _ 18 rfl rfl rfl
              refine ite_no ((wanted_of rfl rfl rfl hg).trans rfl) ?_
              exact hK undef _ (fun d hd => by cases hd; exact rfl) (Nx.refl _ _ _) trivial
            · cases (show some _ = some o from ho)
              have hg : bx.tmps.getD 18 undef = .bool true := hgd 3 false _ 18 rfl rfl rfl
              refine ite_no ((wanted_of rfl rfl rfl hg).trans rfl) ?_
              exact hK undef _ (fun d hd => by cases hd; exact rfl) (Nx.refl _ _ _) trivial
            · cases (show some _ = some o from ho)
              have hg : bx.tmps.getD 18 undef = .bool true := hgd 3 false _ 18 rfl rfl rfl
              refine ite_no ((wanted_of rfl rfl rfl hg).trans rfl) ?_
              exact hK undef _ (fun d hd => by cases hd; exact rfl) (Nx.refl _ _ _) trivial
            · cases (show some _ = some o from ho)
              have hg : bx.tmps.getD 21 undef = undef := hgd 6 true _ 21 rfl rfl rfl
              refine ite_no (wanted_undef rfl rfl rfl hg) ?_
              exact hK undef _ (fun d hd => by cases hd; exact rfl) (Nx.refl _ _ _) trivial
            · cases (show some _ = some o from ho)
              have hg : bx.tmps.getD 21 undef = undef := hgd 6 true _ 21 rfl rfl rfl
              refine ite_no (wanted_undef rfl rfl rfl hg) ?_
              exact hK undef _ (fun d hd => by cases hd; exact rfl) (Nx.refl _ _ _) trivial
            · cases (show some _ = some o from ho)
              have hg : bx.tmps.getD 21 undef = undef := hgd 6 true _ 21 rfl rfl rfl
              refine ite_no (wanted_undef rfl rfl rfl hg) ?_
              exact hK undef _ (fun d hd => by cases hd; exact rfl) (Nx.refl _ _ _) trivial
            · cases (show some _ = some o from ho)
              have hg : bx.tmps.getD 21 undef = undef := hgd 6 true _ 21 rfl rfl rfl
              refine ite_no (wanted_undef rfl rfl rfl hg) ?_
              exact hK undef _ (fun d hd => by cases hd; exact rfl) (Nx.refl _ _ _) trivial
            · cases (show some _ = some o from ho)
              have hg : bx.tmps.getD 21 undef = undef := hgd 6 true _ 21 rfl rfl rfl
              refine ite_no (wanted_undef rfl rfl rfl hg) ?_
              exact hK undef _ (fun d hd => by cases hd; exact rfl) (Nx.refl _ _ _) trivial
            · cases (show some _ = some o from ho)
              have hg : bx.tmps.getD 21 undef = undef := hgd 6 true _ 21 rfl rfl rfl
              refine ite_no (wanted_undef rfl rfl rfl hg) ?_
              exact hK undef _ (fun d hd => by cases hd; exact rfl) (Nx.refl _ _ _) trivial
            · cases (show some _ = some o from ho)
              have hg : bx.tmps.getD 21 undef = undef := hgd 6 true _ 21 rfl rfl rfl
              refine ite_no (wanted_undef rfl rfl rfl hg) ?_
              exact hK undef _ (fun d hd => by cases hd; exact rfl) (Nx.refl _ _ _) trivial
            · cases (show some _ = some o from ho)
              have hg : bx.tmps.getD 21 undef = undef := hgd 6 true _ 21 rfl rfl rfl
              refine ite_no (wanted_undef rfl rfl rfl hg) ?_
              exact hK undef _ (fun d hd => by cases hd; exact rfl) (Nx.refl _ _ _) trivial
            · cases (show some _ = some o from ho)
              have hg : bx.tmps.getD 18 undef = .bool true := hgd 3 false _ 18 rfl rfl rfl
              refine ite_no ((wanted_of rfl rfl rfl hg).trans rfl) ?_
              exact hK undef _ (fun d hd => by cases hd; exact rfl) (Nx.refl _ _ _) trivial
            · cases (show some _ = some o from ho)
              refine ite_yes (by rfl) ?_
              have h18 : bx.tmps.getD 18 undef = .bool true := hdep 18 (reads_of (by kernel_rfl)) ⟨3, _, rfl, rfl⟩
              have f18 := getD_opt h18
              have h30 : bx.tmps.getD 30 undef = undef := hdep 30 (reads_of (by kernel_rfl)) ⟨15, _, rfl, rfl⟩
              have HK := Lib.hid hK
              have HN := Lib.hid hN
              clear hK hdep hgd hfr hsz ho hN
              go_simp
              exact HK.out _ _ (fun d hd => by cases hd; exact rfl) (Nx.refl _ _ _) trivial
          · intro bx wb hsz hdf hfr hty hN hJ
            obtain ⟨tm, df⟩ := bx
            obtain rfl : df = [] := hdf
            have q0 : tm.getD 0 undef = .slice (some ⟨b, off, none⟩) n c := hfr 0 (noDst_of (by kernel_rfl))
            have q1 : tm.getD 1 undef = undef := hfr 1 (noDst_of (by kernel_rfl))
            have q5 : tm.getD 5 undef = .slice (some ⟨b, off, none⟩) n c := hfr 5 (noDst_of (by kernel_rfl))
            have q6 : tm.getD 6 undef = .int .i64 n := hfr 6 (noDst_of (by kernel_rfl))
            have q7 : tm.getD 7 undef = .bool (decide ((10 : Int) < (n : Int))) := hfr 7 (noDst_of (by kernel_rfl))
            have q8 : tm.getD 8 undef = .slice (some ⟨b, off, none⟩) n c := hfr 8 (noDst_of (by kernel_rfl))
            have q9 : tm.getD 9 undef = .int .i64 n := hfr 9 (noDst_of (by kernel_rfl))
            have q10 : tm.getD 10 undef = .int .i64 k := hfr 10 (noDst_of (by kernel_rfl))
            have q31 : tm.getD 31 undef = .bool true := hty 16 _ 31 rfl rfl
            have HNX := Lib.hid hN
            have q := lit_of tm 33 hsz
            simp only [List.range, List.range.loop, List.map, q0, q1, q5, q6, q7, q8, q9, q10, q31] at q
            have HQ := Lib.hid q
            clear q hsz hfr hty hN hJ q0 q1 q5 q6 q7 q8 q9 q10 q31
            rw [HQ.out]
            generalize tm.getD 2 undef = x2
            generalize tm.getD 3 undef = x3
            generalize tm.getD 4 undef = x4
            generalize tm.getD 11 undef = x11
            generalize tm.getD 12 undef = x12
            generalize tm.getD 13 undef = x13
            generalize tm.getD 14 undef = x14
            generalize tm.getD 15 undef = x15
            generalize tm.getD 16 undef = x16
            generalize tm.getD 17 undef = x17
            generalize tm.getD 18 undef = x18
            generalize tm.getD 19 undef = x19
            generalize tm.getD 20 undef = x20
            generalize tm.getD 21 undef = x21
            generalize tm.getD 22 undef = x22
            generalize tm.getD 23 undef = x23
            generalize tm.getD 24 undef = x24
            generalize tm.getD 25 undef = x25
            generalize tm.getD 26 undef = x26
            generalize tm.getD 27 undef = x27
            generalize tm.getD 28 undef = x28
            generalize tm.getD 29 undef = x29
            generalize tm.getD 30 undef = x30
            generalize tm.getD 32 undef = x32
            clear HQ
            have hB2 := below_of_nx HBW.out (by omega) (by omega) HNX.out
            have HB2 := Lib.hid hB2
            clear hB2 HNX
            go_wp2_with fail
            go_ret
            exact ⟨ret_bool (fvB_bad (vAll_bad1 HZ.out hp)), HB2.out⟩
        · by_cases hk0 : 0 < k
          · obtain ⟨bp, offp, y, ep, _, hy, e0, e1⟩ := (H.out.below HBW.out).ha (show k - 1 < n by omega)
            injection ep with ep; injection ep with ea eb
            subst ea; subst eb
            have HY := Lib.hid hy; clear hy
            have j0 : (1 : Int) ≤ (k : Int) := by omega
            have hd0 : decide (0 < k) = true := by simp; omega
            have j1 : (0 : Int) ≤ (k : Int) - 1 := by omega
            have j2 : ((k : Int) - 1).toNat = k - 1 := by omega
            have j3 : (k : Int) - 1 < (n : Int) := by omega
            have hwr : IntKind.i64.wrap ((k : Int) - 1) = (k : Int) - 1 := IntWalk.i64_in _ (by omega)
            cases hr : hbB y z
            · refine wp_region_typedG (W.heap.size) (W.heap.size) (fun t v _ => match t with
                | 15 => v = .agg #[.string z.a, .string z.b]
                | 16 => v = .bool true
                | 17 => v = .bool false
                | 18 => v = .bool false
                | 19 => v = .int .i64 k
                | 20 => v = .bool true
                | 21 => v = .bool true
                | 22 => v = .slice (some ⟨b, off, none⟩) n c
                | 23 => v = .int .i64 k
                | 24 => v = .int .i64 ((k : Int) - 1)
                | 25 => v = .pointer (some ⟨b, off + (k - 1) * 2, none⟩)
                | 26 => v = .agg #[.string y.a, .string y.b]
                | 27 => v = .agg #[.string z.a, .string z.b]
                | 28 => v = .bool false
                | 29 => v = .bool true
                | 30 => v = .bool true
                | 31 => v = .bool true
                | _ => True) (fun _ _ => True) (by kernel_rfl) (regOkG_of (by kernel_rfl) (by kernel_rfl)) (fun _ _ _ _ _ h => h) trivial ?_ ?_
              · intro i o cx bx wb ho hc hJ hN hsz hfr hdep hgd K hK
                have hi := (Array.getElem?_eq_some_iff.1 ho).1
                simp only [List.size_toArray, List.length_cons, List.length_nil] at hi hc
                have hcases : i = 0 ∨ i = 1 ∨ i = 2 ∨ i = 3 ∨ i = 4 ∨ i = 5 ∨ i = 6 ∨ i = 7 ∨ i = 8 ∨ i = 9 ∨ i = 10 ∨ i = 11 ∨ i = 12 ∨ i = 13 ∨ i = 14 ∨ i = 15 ∨ i = 16 := by omega
                rcases hcases with rfl | rfl | rfl | rfl | rfl | rfl | rfl | rfl | rfl | rfl | rfl | rfl | rfl | rfl | rfl | rfl | rfl
                · cases (show some _ = some o from ho)
                  refine ite_yes (by rfl) ?_
                  have h4 : bx.tmps.getD 4 undef = .pointer (some ⟨wo.heap.size, 0, none⟩) := hfr 4 (noDst_of (by kernel_rfl))
                  have f4 := getD_opt h4
                  have c0 := hN.cell (b := wo.heap.size) (o := 0) (v := .string z.a) g0 (by omega) (by omega)
                  have c1 := hN.cell (b := wo.heap.size) (o := 1) (v := .string z.b) g1 (by omega) (by omega)
                  have d0 := hN.cell (b := b) (o := off + (k - 1) * 2) (v := .string y.a) e0 (by omega) (by omega)
                  have d1 := hN.cell (b := b) (o := off + (k - 1) * 2 + 1) (v := .string y.b) e1 (by omega) (by omega)
                  have HK := Lib.hid hK
                  have HN := Lib.hid hN
                  clear hK hdep hgd hfr hsz ho hN
                  go_simp
                  exact HK.out _ _ (fun d hd => by cases hd; exact rfl) (Nx.refl _ _ _) trivial
                · cases (show some _ = some o from ho)
                  refine ite_yes (by rfl) ?_
                  have h15 : bx.tmps.getD 15 undef = .agg #[.string z.a, .string z.b] := hdep 15 (reads_of (by kernel_rfl)) ⟨0, _, rfl, rfl⟩
                  have f15 := getD_opt h15
                  have HK := Lib.hid hK
                  have HN := Lib.hid hN
                  clear hK hdep hgd hfr hsz ho hN
                  go_simp
                  refine (hd_impl z.a z.b _ HSZ.out.1 HSZ.out.2).mono ?_
                  rw [hp]
                  rintro e w' ⟨rfl, o1, rfl⟩
                  exact HK.out _ _ (fun d hd => by cases hd; exact rfl) (nx_below (bel1 rfl)) trivial
                · cases (show some _ = some o from ho)
                  refine ite_yes (by rfl) ?_
                  have h16 : bx.tmps.getD 16 undef = .bool true := hdep 16 (reads_of (by kernel_rfl)) ⟨1, _, rfl, rfl⟩
                  have f16 := getD_opt h16
                  have HK := Lib.hid hK
                  have HN := Lib.hid hN
                  clear hK hdep hgd hfr hsz ho hN
                  go_simp
                  exact HK.out _ _ (fun d hd => by cases hd; exact rfl) (Nx.refl _ _ _) trivial
                · cases (show some _ = some o from ho)
                  refine ite_yes (by rfl) ?_
                  have h17 : bx.tmps.getD 17 undef = .bool false := hdep 17 (reads_of (by kernel_rfl)) ⟨2, _, rfl, rfl⟩
                  have f17 := getD_opt h17
                  have HK := Lib.hid hK
                  have HN := Lib.hid hN
                  clear hK hdep hgd hfr hsz ho hN
                  go_simp
                  exact HK.out _ _ (fun d hd => by cases hd; exact rfl) (Nx.refl _ _ _) trivial
                · cases (show some _ = some o from ho)
                  have hg : bx.tmps.getD 18 undef = .bool false := hgd 3 false _ 18 rfl rfl rfl
                  refine ite_yes ((wanted_of rfl rfl rfl hg).trans rfl) ?_
                  have h3 : bx.tmps.getD 3 undef = .int .i64 k := hfr 3 (noDst_of (by kernel_rfl))
                  have f3 := getD_opt h3
                  have HK := Lib.hid hK
                  have HN := Lib.hid hN
                  clear hK hdep hgd hfr hsz ho hN
                  go_simp
                  exact HK.out _ _ (fun d hd => by cases hd; exact rfl) (Nx.refl _ _ _) trivial
                · cases (show some _ = some o from ho)
                  have hg : bx.tmps.getD 18 undef = .bool false := hgd 3 false _ 18 rfl rfl rfl
                  refine ite_yes ((wanted_of rfl rfl rfl hg).trans rfl) ?_
                  have h19 : bx.tmps.getD 19 undef = .int .i64 k := hdep 19 (reads_of (by kernel_rfl)) ⟨4, _, rfl, rfl⟩
                  have f19 := getD_opt h19
                  have HK := Lib.hid hK
                  have HN := Lib.hid hN
                  clear hK hdep hgd hfr hsz ho hN
                  go_simp
                  exact HK.out _ _ (fun d hd => by cases hd; exact rfl) (Nx.refl _ _ _) trivial
                · cases (show some _ = some o from ho)
                  have hg : bx.tmps.getD 18 undef = .bool false := hgd 3 false _ 18 rfl rfl rfl
                  refine ite_yes ((wanted_of rfl rfl rfl hg).trans rfl) ?_
                  have h20 : bx.tmps.getD 20 undef = .bool true := hdep 20 (reads_of (by kernel_rfl)) ⟨5, _, rfl, rfl⟩
                  have f20 := getD_opt h20
                  have HK := Lib.hid hK
                  have HN := Lib.hid hN
                  clear hK hdep hgd hfr hsz ho hN
                  go_simp
                  exact HK.out _ _ (fun d hd => by cases hd; exact rfl) (Nx.refl _ _ _) trivial
                · cases (show some _ = some o from ho)
                  have hg : bx.tmps.getD 21 undef = .bool true := hgd 6 true _ 21 rfl rfl rfl
                  refine ite_yes ((wanted_of rfl rfl rfl hg).trans rfl) ?_
                  have h0 : bx.tmps.getD 0 undef = .slice (some ⟨b, off, none⟩) n c := hfr 0 (noDst_of (by kernel_rfl))
                  have f0 := getD_opt h0
                  have HK := Lib.hid hK
                  have HN := Lib.hid hN
                  clear hK hdep hgd hfr hsz ho hN
                  go_simp
                  exact HK.out _ _ (fun d hd => by cases hd; exact rfl) (Nx.refl _ _ _) trivial
                · cases (show some _ = some o from ho)
                  have hg : bx.tmps.getD 21 undef = .bool true := hgd 6 true _ 21 rfl rfl rfl
                  refine ite_yes ((wanted_of rfl rfl rfl hg).trans rfl) ?_
                  have h3 : bx.tmps.getD 3 undef = .int .i64 k := hfr 3 (noDst_of (by kernel_rfl))
                  have f3 := getD_opt h3
                  have HK := Lib.hid hK
                  have HN := Lib.hid hN
                  clear hK hdep hgd hfr hsz ho hN
                  go_simp
                  exact HK.out _ _ (fun d hd => by cases hd; exact rfl) (Nx.refl _ _ _) trivial
                · cases (show some _ = some o from ho)
                  have hg : bx.tmps.getD 21 undef = .bool true := hgd 6 true _ 21 rfl rfl rfl
                  refine ite_yes ((wanted_of rfl rfl rfl hg).trans rfl) ?_
                  have h23 : bx.tmps.getD 23 undef = .int .i64 k := hdep 23 (reads_of (by kernel_rfl)) ⟨8, _, rfl, rfl⟩
                  have f23 := getD_opt h23
                  have HK := Lib.hid hK
                  have HN := Lib.hid hN
                  clear hK hdep hgd hfr hsz ho hN
                  go_simp
                  exact HK.out _ _ (fun d hd => by cases hd; exact rfl) (Nx.refl _ _ _) trivial
                · cases (show some _ = some o from ho)
                  have hg : bx.tmps.getD 21 undef = .bool true := hgd 6 true _ 21 rfl rfl rfl
                  refine ite_yes ((wanted_of rfl rfl rfl hg).trans rfl) ?_
                  have h22 : bx.tmps.getD 22 undef = .slice (some ⟨b, off, none⟩) n c := hdep 22 (reads_of (by kernel_rfl)) ⟨7, _, rfl, rfl⟩
                  have f22 := getD_opt h22
                  have h24 : bx.tmps.getD 24 undef = .int .i64 ((k : Int) - 1) := hdep 24 (reads_of (by kernel_rfl)) ⟨9, _, rfl, rfl⟩
                  have f24 := getD_opt h24
                  have HK := Lib.hid hK
                  have HN := Lib.hid hN
                  clear hK hdep hgd hfr hsz ho hN
                  go_simp
                  try rw [if_pos (by omega)]
                  exact HK.out _ _ (fun d hd => by cases hd; exact rfl) (Nx.refl _ _ _) trivial
                · cases (show some _ = some o from ho)
                  have hg : bx.tmps.getD 21 undef = .bool true := hgd 6 true _ 21 rfl rfl rfl
                  refine ite_yes ((wanted_of rfl rfl rfl hg).trans rfl) ?_
                  have h25 : bx.tmps.getD 25 undef = .pointer (some ⟨b, off + (k - 1) * 2, none⟩) := hdep 25 (reads_of (by kernel_rfl)) ⟨10, _, rfl, rfl⟩
                  have f25 := getD_opt h25
                  have c0 := hN.cell (b := wo.heap.size) (o := 0) (v := .string z.a) g0 (by omega) (by omega)
                  have c1 := hN.cell (b := wo.heap.size) (o := 1) (v := .string z.b) g1 (by omega) (by omega)
                  have d0 := hN.cell (b := b) (o := off + (k - 1) * 2) (v := .string y.a) e0 (by omega) (by omega)
                  have d1 := hN.cell (b := b) (o := off + (k - 1) * 2 + 1) (v := .string y.b) e1 (by omega) (by omega)
                  have HK := Lib.hid hK
                  have HN := Lib.hid hN
                  clear hK hdep hgd hfr hsz ho hN
                  go_simp
                  exact HK.out _ _ (fun d hd => by cases hd; exact rfl) (Nx.refl _ _ _) trivial
                · cases (show some _ = some o from ho)
                  have hg : bx.tmps.getD 21 undef = .bool true := hgd 6 true _ 21 rfl rfl rfl
                  refine ite_yes ((wanted_of rfl rfl rfl hg).trans rfl) ?_
                  have h4 : bx.tmps.getD 4 undef = .pointer (some ⟨wo.heap.size, 0, none⟩) := hfr 4 (noDst_of (by kernel_rfl))
                  have f4 := getD_opt h4
                  have c0 := hN.cell (b := wo.heap.size) (o := 0) (v := .string z.a) g0 (by omega) (by omega)
                  have c1 := hN.cell (b := wo.heap.size) (o := 1) (v := .string z.b) g1 (by omega) (by omega)
                  have d0 := hN.cell (b := b) (o := off + (k - 1) * 2) (v := .string y.a) e0 (by omega) (by omega)
                  have d1 := hN.cell (b := b) (o := off + (k - 1) * 2 + 1) (v := .string y.b) e1 (by omega) (by omega)
                  have HK := Lib.hid hK
                  have HN := Lib.hid hN
                  clear hK hdep hgd hfr hsz ho hN
                  go_simp
                  exact HK.out _ _ (fun d hd => by cases hd; exact rfl) (Nx.refl _ _ _) trivial
                · cases (show some _ = some o from ho)
                  have hg : bx.tmps.getD 21 undef = .bool true := hgd 6 true _ 21 rfl rfl rfl
                  refine ite_yes ((wanted_of rfl rfl rfl hg).trans rfl) ?_
                  have h26 : bx.tmps.getD 26 undef = .agg #[.string y.a, .string y.b] := hdep 26 (reads_of (by kernel_rfl)) ⟨11, _, rfl, rfl⟩
                  have f26 := getD_opt h26
                  have h27 : bx.tmps.getD 27 undef = .agg #[.string z.a, .string z.b] := hdep 27 (reads_of (by kernel_rfl)) ⟨12, _, rfl, rfl⟩
                  have f27 := getD_opt h27
                  have HK := Lib.hid hK
                  have HN := Lib.hid hN
                  clear hK hdep hgd hfr hsz ho hN
                  go_simp
                  refine (hb_impl y z _).mono ?_
                  rw [hr]
                  rintro e w' ⟨rfl, o1, o2, rfl⟩
                  exact HK.out _ _ (fun d hd => by cases hd; exact rfl) (nx_below (bel2 rfl)) trivial
                · cases (show some _ = some o from ho)
                  have hg : bx.tmps.getD 21 undef = .bool true := hgd 6 true _ 21 rfl rfl rfl
                  refine ite_yes ((wanted_of rfl rfl rfl hg).trans rfl) ?_
                  have h28 : bx.tmps.getD 28 undef = .bool false := hdep 28 (reads_of (by kernel_rfl)) ⟨13, _, rfl, rfl⟩
                  have f28 := getD_opt h28
                  have HK := Lib.hid hK
                  have HN := Lib.hid hN
                  clear hK hdep hgd hfr hsz ho hN
                  go_simp
                  exact HK.out _ _ (fun d hd => by cases hd; exact rfl) (Nx.refl _ _ _) trivial
                · cases (show some _ = some o from ho)
                  have hg : bx.tmps.getD 18 undef = .bool false := hgd 3 false _ 18 rfl rfl rfl
                  refine ite_yes ((wanted_of rfl rfl rfl hg).trans rfl) ?_
                  have h21 : bx.tmps.getD 21 undef = .bool true := hdep 21 (reads_of (by kernel_rfl)) ⟨6, _, rfl, rfl⟩
                  have f21 := getD_opt h21
                  have h29 : bx.tmps.getD 29 undef = .bool true := hdep 29 (reads_of (by kernel_rfl)) ⟨14, _, rfl, rfl⟩
                  have f29 := getD_opt h29
                  have HK := Lib.hid hK
                  have HN := Lib.hid hN
                  clear hK hdep hgd hfr hsz ho hN
                  go_simp
                  exact HK.out _ _ (fun d hd => by cases hd; exact rfl) (Nx.refl _ _ _) trivial
                · cases (show some _ = some o from ho)
                  refine ite_yes (by rfl) ?_
                  have h18 : bx.tmps.getD 18 undef = .bool false := hdep 18 (reads_of (by kernel_rfl)) ⟨3, _, rfl, rfl⟩
                  have f18 := getD_opt h18
                  have h30 : bx.tmps.getD 30 undef = .bool true := hdep 30 (reads_of (by kernel_rfl)) ⟨15, _, rfl, rfl⟩
                  have f30 := getD_opt h30
                  have HK := Lib.hid hK
                  have HN := Lib.hid hN
                  clear hK hdep hgd hfr hsz ho hN
                  go_simp
                  exact HK.out _ _ (fun d hd => by cases hd; exact rfl) (Nx.refl _ _ _) trivial
              · intro bx wb hsz hdf hfr hty hN hJ
                obtain ⟨tm, df⟩ := bx
                obtain rfl : df = [] := hdf
                have q0 : tm.getD 0 undef = .slice (some ⟨b, off, none⟩) n c := hfr 0 (noDst_of (by kernel_rfl))
                have q1 : tm.getD 1 undef = undef := hfr 1 (noDst_of (by kernel_rfl))
                have q5 : tm.getD 5 undef = .slice (some ⟨b, off, none⟩) n c := hfr 5 (noDst_of (by kernel_rfl))
                have q6 : tm.getD 6 undef = .int .i64 n := hfr 6 (noDst_of (by kernel_rfl))
                have q7 : tm.getD 7 undef = .bool (decide ((10 : Int) < (n : Int))) := hfr 7 (noDst_of (by kernel_rfl))
                have q8 : tm.getD 8 undef = .slice (some ⟨b, off, none⟩) n c := hfr 8 (noDst_of (by kernel_rfl))
                have q9 : tm.getD 9 undef = .int .i64 n := hfr 9 (noDst_of (by kernel_rfl))
                have q10 : tm.getD 10 undef = .int .i64 k := hfr 10 (noDst_of (by kernel_rfl))
                have q31 : tm.getD 31 undef = .bool true := hty 16 _ 31 rfl rfl
                have HNX := Lib.hid hN
                have q := lit_of tm 33 hsz
                simp only [List.range, List.range.loop, List.map, q0, q1, q5, q6, q7, q8, q9, q10, q31] at q
                have HQ := Lib.hid q
                clear q hsz hfr hty hN hJ q0 q1 q5 q6 q7 q8 q9 q10 q31
                rw [HQ.out]
                generalize tm.getD 2 undef = x2
                generalize tm.getD 3 undef = x3
                generalize tm.getD 4 undef = x4
                generalize tm.getD 11 undef = x11
                generalize tm.getD 12 undef = x12
                generalize tm.getD 13 undef = x13
                generalize tm.getD 14 undef = x14
                generalize tm.getD 15 undef = x15
                generalize tm.getD 16 undef = x16
                generalize tm.getD 17 undef = x17
                generalize tm.getD 18 undef = x18
                generalize tm.getD 19 undef = x19
                generalize tm.getD 20 undef = x20
                generalize tm.getD 21 undef = x21
                generalize tm.getD 22 undef = x22
                generalize tm.getD 23 undef = x23
                generalize tm.getD 24 undef = x24
                generalize tm.getD 25 undef = x25
                generalize tm.getD 26 undef = x26
                generalize tm.getD 27 undef = x27
                generalize tm.getD 28 undef = x28
                generalize tm.getD 29 undef = x29
                generalize tm.getD 30 undef = x30
                generalize tm.getD 32 undef = x32
                clear HQ
                have hB2 := below_of_nx HBW.out (by omega) (by omega) HNX.out
                have HB2 := Lib.hid hB2
                clear hB2 HNX
                go_wp2_with fail
                go_ret
                exact ⟨ret_bool (fvB_bad (vAll_bad2 HZ.out hk0 HY.out (by simp [faPr, hr]))), HB2.out⟩
            · refine wp_region_typedG (W.heap.size) (W.heap.size) (fun t v _ => match t with
                | 15 => v = .agg #[.string z.a, .string z.b]
                | 16 => v = .bool true
                | 17 => v = .bool false
                | 18 => v = .bool false
                | 19 => v = .int .i64 k
                | 20 => v = .bool true
                | 21 => v = .bool true
                | 22 => v = .slice (some ⟨b, off, none⟩) n c
                | 23 => v = .int .i64 k
                | 24 => v = .int .i64 ((k : Int) - 1)
                | 25 => v = .pointer (some ⟨b, off + (k - 1) * 2, none⟩)
                | 26 => v = .agg #[.string y.a, .string y.b]
                | 27 => v = .agg #[.string z.a, .string z.b]
                | 28 => v = .bool true
                | 29 => v = .bool false
                | 30 => v = .bool false
                | 31 => v = .bool false
                | _ => True) (fun _ _ => True) (by kernel_rfl) (regOkG_of (by kernel_rfl) (by kernel_rfl)) (fun _ _ _ _ _ h => h) trivial ?_ ?_
              · intro i o cx bx wb ho hc hJ hN hsz hfr hdep hgd K hK
                have hi := (Array.getElem?_eq_some_iff.1 ho).1
                simp only [List.size_toArray, List.length_cons, List.length_nil] at hi hc
                have hcases : i = 0 ∨ i = 1 ∨ i = 2 ∨ i = 3 ∨ i = 4 ∨ i = 5 ∨ i = 6 ∨ i = 7 ∨ i = 8 ∨ i = 9 ∨ i = 10 ∨ i = 11 ∨ i = 12 ∨ i = 13 ∨ i = 14 ∨ i = 15 ∨ i = 16 := by omega
                rcases hcases with rfl | rfl | rfl | rfl | rfl | rfl | rfl | rfl | rfl | rfl | rfl | rfl | rfl | rfl | rfl | rfl | rfl
                · cases (show some _ = some o from ho)
                  refine ite_yes (by rfl) ?_
                  have h4 : bx.tmps.getD 4 undef = .pointer (some ⟨wo.heap.size, 0, none⟩) := hfr 4 (noDst_of (by kernel_rfl))
                  have f4 := getD_opt h4
                  have c0 := hN.cell (b := wo.heap.size) (o := 0) (v := .string z.a) g0 (by omega) (by omega)
                  have c1 := hN.cell (b := wo.heap.size) (o := 1) (v := .string z.b) g1 (by omega) (by omega)
                  have d0 := hN.cell (b := b) (o := off + (k - 1) * 2) (v := .string y.a) e0 (by omega) (by omega)
                  have d1 := hN.cell (b := b) (o := off + (k - 1) * 2 + 1) (v := .string y.b) e1 (by omega) (by omega)
                  have HK := Lib.hid hK
                  have HN := Lib.hid hN
                  clear hK hdep hgd hfr hsz ho hN
                  go_simp
                  exact HK.out _ _ (fun d hd => by cases hd; exact rfl) (Nx.refl _ _ _) trivial
                · cases (show some _ = some o from ho)
                  refine ite_yes (by rfl) ?_
                  have h15 : bx.tmps.getD 15 undef = .agg #[.string z.a, .string z.b] := hdep 15 (reads_of (by kernel_rfl)) ⟨0, _, rfl, rfl⟩
                  have f15 := getD_opt h15
                  have HK := Lib.hid hK
                  have HN := Lib.hid hN
                  clear hK hdep hgd hfr hsz ho hN
                  go_simp
                  refine (hd_impl z.a z.b _ HSZ.out.1 HSZ.out.2).mono ?_
                  rw [hp]
                  rintro e w' ⟨rfl, o1, rfl⟩
                  exact HK.out _ _ (fun d hd => by cases hd; exact rfl) (nx_below (bel1 rfl)) trivial
                · cases (show some _ = some o from ho)
                  refine ite_yes (by rfl) ?_
                  have h16 : bx.tmps.getD 16 undef = .bool true := hdep 16 (reads_of (by kernel_rfl)) ⟨1, _, rfl, rfl⟩
                  have f16 := getD_opt h16
                  have HK := Lib.hid hK
                  have HN := Lib.hid hN
                  clear hK hdep hgd hfr hsz ho hN
                  go_simp
                  exact HK.out _ _ (fun d hd => by cases hd; exact rfl) (Nx.refl _ _ _) trivial
                · cases (show some _ = some o from ho)
                  refine ite_yes (by rfl) ?_
                  have h17 : bx.tmps.getD 17 undef = .bool false := hdep 17 (reads_of (by kernel_rfl)) ⟨2, _, rfl, rfl⟩
                  have f17 := getD_opt h17
                  have HK := Lib.hid hK
                  have HN := Lib.hid hN
                  clear hK hdep hgd hfr hsz ho hN
                  go_simp
                  exact HK.out _ _ (fun d hd => by cases hd; exact rfl) (Nx.refl _ _ _) trivial
                · cases (show some _ = some o from ho)
                  have hg : bx.tmps.getD 18 undef = .bool false := hgd 3 false _ 18 rfl rfl rfl
                  refine ite_yes ((wanted_of rfl rfl rfl hg).trans rfl) ?_
                  have h3 : bx.tmps.getD 3 undef = .int .i64 k := hfr 3 (noDst_of (by kernel_rfl))
                  have f3 := getD_opt h3
                  have HK := Lib.hid hK
                  have HN := Lib.hid hN
                  clear hK hdep hgd hfr hsz ho hN
                  go_simp
                  exact HK.out _ _ (fun d hd => by cases hd; exact rfl) (Nx.refl _ _ _) trivial
                · cases (show some _ = some o from ho)
                  have hg : bx.tmps.getD 18 undef = .bool false := hgd 3 false _ 18 rfl rfl rfl
                  refine ite_yes ((wanted_of rfl rfl rfl hg).trans rfl) ?_
                  have h19 : bx.tmps.getD 19 undef = .int .i64 k := hdep 19 (reads_of (by kernel_rfl)) ⟨4, _, rfl, rfl⟩
                  have f19 := getD_opt h19
                  have HK := Lib.hid hK
                  have HN := Lib.hid hN
                  clear hK hdep hgd hfr hsz ho hN
                  go_simp
                  exact HK.out _ _ (fun d hd => by cases hd; exact rfl) (Nx.refl _ _ _) trivial
                · cases (show some _ = some o from ho)
                  have hg : bx.tmps.getD 18 undef = .bool false := hgd 3 false _ 18 rfl rfl rfl
                  refine ite_yes ((wanted_of rfl rfl rfl hg).trans rfl) ?_
                  have h20 : bx.tmps.getD 20 undef = .bool true := hdep 20 (reads_of (by kernel_rfl)) ⟨5, _, rfl, rfl⟩
                  have f20 := getD_opt h20
                  have HK := Lib.hid hK
                  have HN := Lib.hid hN
                  clear hK hdep hgd hfr hsz ho hN
                  go_simp
                  exact HK.out _ _ (fun d hd => by cases hd; exact rfl) (Nx.refl _ _ _) trivial
                · cases (show some _ = some o from ho)
                  have hg : bx.tmps.getD 21 undef = .bool true := hgd 6 true _ 21 rfl rfl rfl
                  refine ite_yes ((wanted_of rfl rfl rfl hg).trans rfl) ?_
                  have h0 : bx.tmps.getD 0 undef = .slice (some ⟨b, off, none⟩) n c := hfr 0 (noDst_of (by kernel_rfl))
                  have f0 := getD_opt h0
                  have HK := Lib.hid hK
                  have HN := Lib.hid hN
                  clear hK hdep hgd hfr hsz ho hN
                  go_simp
                  exact HK.out _ _ (fun d hd => by cases hd; exact rfl) (Nx.refl _ _ _) trivial
                · cases (show some _ = some o from ho)
                  have hg : bx.tmps.getD 21 undef = .bool true := hgd 6 true _ 21 rfl rfl rfl
                  refine ite_yes ((wanted_of rfl rfl rfl hg).trans rfl) ?_
                  have h3 : bx.tmps.getD 3 undef = .int .i64 k := hfr 3 (noDst_of (by kernel_rfl))
                  have f3 := getD_opt h3
                  have HK := Lib.hid hK
                  have HN := Lib.hid hN
                  clear hK hdep hgd hfr hsz ho hN
                  go_simp
                  exact HK.out _ _ (fun d hd => by cases hd; exact rfl) (Nx.refl _ _ _) trivial
                · cases (show some _ = some o from ho)
                  have hg : bx.tmps.getD 21 undef = .bool true := hgd 6 true _ 21 rfl rfl rfl
                  refine ite_yes ((wanted_of rfl rfl rfl hg).trans rfl) ?_
                  have h23 : bx.tmps.getD 23 undef = .int .i64 k := hdep 23 (reads_of (by kernel_rfl)) ⟨8, _, rfl, rfl⟩
                  have f23 := getD_opt h23
                  have HK := Lib.hid hK
                  have HN := Lib.hid hN
                  clear hK hdep hgd hfr hsz ho hN
                  go_simp
                  exact HK.out _ _ (fun d hd => by cases hd; exact rfl) (Nx.refl _ _ _) trivial
                · cases (show some _ = some o from ho)
                  have hg : bx.tmps.getD 21 undef = .bool true := hgd 6 true _ 21 rfl rfl rfl
                  refine ite_yes ((wanted_of rfl rfl rfl hg).trans rfl) ?_
                  have h22 : bx.tmps.getD 22 undef = .slice (some ⟨b, off, none⟩) n c := hdep 22 (reads_of (by kernel_rfl)) ⟨7, _, rfl, rfl⟩
                  have f22 := getD_opt h22
                  have h24 : bx.tmps.getD 24 undef = .int .i64 ((k : Int) - 1) := hdep 24 (reads_of (by kernel_rfl)) ⟨9, _, rfl, rfl⟩
                  have f24 := getD_opt h24
                  have HK := Lib.hid hK
                  have HN := Lib.hid hN
                  clear hK hdep hgd hfr hsz ho hN
                  go_simp
                  try rw [if_pos (by omega)]
                  exact HK.out _ _ (fun d hd => by cases hd; exact rfl) (Nx.refl _ _ _) trivial
                · cases (show some _ = some o from ho)
                  have hg : bx.tmps.getD 21 undef = .bool true := hgd 6 true _ 21 rfl rfl rfl
                  refine ite_yes ((wanted_of rfl rfl rfl hg).trans rfl) ?_
                  have h25 : bx.tmps.getD 25 undef = .pointer (some ⟨b, off + (k - 1) * 2, none⟩) := hdep 25 (reads_of (by kernel_rfl)) ⟨10, _, rfl, rfl⟩
                  have f25 := getD_opt h25
                  have c0 := hN.cell (b := wo.heap.size) (o := 0) (v := .string z.a) g0 (by omega) (by omega)
                  have c1 := hN.cell (b := wo.heap.size) (o := 1) (v := .string z.b) g1 (by omega) (by omega)
                  have d0 := hN.cell (b := b) (o := off + (k - 1) * 2) (v := .string y.a) e0 (by omega) (by omega)
                  have d1 := hN.cell (b := b) (o := off + (k - 1) * 2 + 1) (v := .string y.b) e1 (by omega) (by omega)
                  have HK := Lib.hid hK
                  have HN := Lib.hid hN
                  clear hK hdep hgd hfr hsz ho hN
                  go_simp
                  exact HK.out _ _ (fun d hd => by cases hd; exact rfl) (Nx.refl _ _ _) trivial
                · cases (show some _ = some o from ho)
                  have hg : bx.tmps.getD 21 undef = .bool true := hgd 6 true _ 21 rfl rfl rfl
                  refine ite_yes ((wanted_of rfl rfl rfl hg).trans rfl) ?_
                  have h4 : bx.tmps.getD 4 undef = .pointer (some ⟨wo.heap.size, 0, none⟩) := hfr 4 (noDst_of (by kernel_rfl))
                  have f4 := getD_opt h4
                  have c0 := hN.cell (b := wo.heap.size) (o := 0) (v := .string z.a) g0 (by omega) (by omega)
                  have c1 := hN.cell (b := wo.heap.size) (o := 1) (v := .string z.b) g1 (by omega) (by omega)
                  have d0 := hN.cell (b := b) (o := off + (k - 1) * 2) (v := .string y.a) e0 (by omega) (by omega)
                  have d1 := hN.cell (b := b) (o := off + (k - 1) * 2 + 1) (v := .string y.b) e1 (by omega) (by omega)
                  have HK := Lib.hid hK
                  have HN := Lib.hid hN
                  clear hK hdep hgd hfr hsz ho hN
                  go_simp
                  exact HK.out _ _ (fun d hd => by cases hd; exact rfl) (Nx.refl _ _ _) trivial
                · cases (show some _ = some o from ho)
                  have hg : bx.tmps.getD 21 undef = .bool true := hgd 6 true _ 21 rfl rfl rfl
                  refine ite_yes ((wanted_of rfl rfl rfl hg).trans rfl) ?_
                  have h26 : bx.tmps.getD 26 undef = .agg #[.string y.a, .string y.b] := hdep 26 (reads_of (by kernel_rfl)) ⟨11, _, rfl, rfl⟩
                  have f26 := getD_opt h26
                  have h27 : bx.tmps.getD 27 undef = .agg #[.string z.a, .string z.b] := hdep 27 (reads_of (by kernel_rfl)) ⟨12, _, rfl, rfl⟩
                  have f27 := getD_opt h27
                  have HK := Lib.hid hK
                  have HN := Lib.hid hN
                  clear hK hdep hgd hfr hsz ho hN
                  go_simp
                  refine (hb_impl y z _).mono ?_
                  rw [hr]
                  rintro e w' ⟨rfl, o1, o2, rfl⟩
                  exact HK.out _ _ (fun d hd => by cases hd; exact rfl) (nx_below (bel2 rfl)) trivial
                · cases (show some _ = some o from ho)
                  have hg : bx.tmps.getD 21 undef = .bool true := hgd 6 true _ 21 rfl rfl rfl
                  refine ite_yes ((wanted_of rfl rfl rfl hg).trans rfl) ?_
                  have h28 : bx.tmps.getD 28 undef = .bool true := hdep 28 (reads_of (by kernel_rfl)) ⟨13, _, rfl, rfl⟩
                  have f28 := getD_opt h28
                  have HK := Lib.hid hK
                  have HN := Lib.hid hN
                  clear hK hdep hgd hfr hsz ho hN
                  go_simp
                  exact HK.out _ _ (fun d hd => by cases hd; exact rfl) (Nx.refl _ _ _) trivial
                · cases (show some _ = some o from ho)
                  have hg : bx.tmps.getD 18 undef = .bool false := hgd 3 false _ 18 rfl rfl rfl
                  refine ite_yes ((wanted_of rfl rfl rfl hg).trans rfl) ?_
                  have h21 : bx.tmps.getD 21 undef = .bool true := hdep 21 (reads_of (by kernel_rfl)) ⟨6, _, rfl, rfl⟩
                  have f21 := getD_opt h21
                  have h29 : bx.tmps.getD 29 undef = .bool false := hdep 29 (reads_of (by kernel_rfl)) ⟨14, _, rfl, rfl⟩
                  have f29 := getD_opt h29
                  have HK := Lib.hid hK
                  have HN := Lib.hid hN
                  clear hK hdep hgd hfr hsz ho hN
                  go_simp
                  exact HK.out _ _ (fun d hd => by cases hd; exact rfl) (Nx.refl _ _ _) trivial
                · cases (show some _ = some o from ho)
                  refine ite_yes (by rfl) ?_
                  have h18 : bx.tmps.getD 18 undef = .bool false := hdep 18 (reads_of (by kernel_rfl)) ⟨3, _, rfl, rfl⟩
                  have f18 := getD_opt h18
                  have h30 : bx.tmps.getD 30 undef = .bool false := hdep 30 (reads_of (by kernel_rfl)) ⟨15, _, rfl, rfl⟩
                  have f30 := getD_opt h30
                  have HK := Lib.hid hK
                  have HN := Lib.hid hN
                  clear hK hdep hgd hfr hsz ho hN
                  go_simp
                  exact HK.out _ _ (fun d hd => by cases hd; exact rfl) (Nx.refl _ _ _) trivial
              · intro bx wb hsz hdf hfr hty hN hJ
                obtain ⟨tm, df⟩ := bx
                obtain rfl : df = [] := hdf
                have q0 : tm.getD 0 undef = .slice (some ⟨b, off, none⟩) n c := hfr 0 (noDst_of (by kernel_rfl))
                have q1 : tm.getD 1 undef = undef := hfr 1 (noDst_of (by kernel_rfl))
                have q5 : tm.getD 5 undef = .slice (some ⟨b, off, none⟩) n c := hfr 5 (noDst_of (by kernel_rfl))
                have q6 : tm.getD 6 undef = .int .i64 n := hfr 6 (noDst_of (by kernel_rfl))
                have q7 : tm.getD 7 undef = .bool (decide ((10 : Int) < (n : Int))) := hfr 7 (noDst_of (by kernel_rfl))
                have q8 : tm.getD 8 undef = .slice (some ⟨b, off, none⟩) n c := hfr 8 (noDst_of (by kernel_rfl))
                have q9 : tm.getD 9 undef = .int .i64 n := hfr 9 (noDst_of (by kernel_rfl))
                have q10 : tm.getD 10 undef = .int .i64 k := hfr 10 (noDst_of (by kernel_rfl))
                have q31 : tm.getD 31 undef = .bool false := hty 16 _ 31 rfl rfl
                have HNX := Lib.hid hN
                have q := lit_of tm 33 hsz
                simp only [List.range, List.range.loop, List.map, q0, q1, q5, q6, q7, q8, q9, q10, q31] at q
                have HQ := Lib.hid q
                clear q hsz hfr hty hN hJ q0 q1 q5 q6 q7 q8 q9 q10 q31
                rw [HQ.out]
                generalize tm.getD 2 undef = x2
                generalize tm.getD 3 undef = x3
                generalize tm.getD 4 undef = x4
                generalize tm.getD 11 undef = x11
                generalize tm.getD 12 undef = x12
                generalize tm.getD 13 undef = x13
                generalize tm.getD 14 undef = x14
                generalize tm.getD 15 undef = x15
                generalize tm.getD 16 undef = x16
                generalize tm.getD 17 undef = x17
                generalize tm.getD 18 undef = x18
                generalize tm.getD 19 undef = x19
                generalize tm.getD 20 undef = x20
                generalize tm.getD 21 undef = x21
                generalize tm.getD 22 undef = x22
                generalize tm.getD 23 undef = x23
                generalize tm.getD 24 undef = x24
                generalize tm.getD 25 undef = x25
                generalize tm.getD 26 undef = x26
                generalize tm.getD 27 undef = x27
                generalize tm.getD 28 undef = x28
                generalize tm.getD 29 undef = x29
                generalize tm.getD 30 undef = x30
                generalize tm.getD 32 undef = x32
                clear HQ
                have hB2 := below_of_nx HBW.out (by omega) (by omega) HNX.out
                have HB2 := Lib.hid hB2
                clear hB2 HNX
                go_wp2_with fail
                go_roundw
                case rel => exact ⟨k + 1, by omega, by go_num, VTo_succ HV.out (vOk_mk HZ.out hp (fun y' _ hy' => by rw [HY.out] at hy'; injection hy' with hy'; subst hy'; simp [faPr, hr]) (NTo_no l z k)), HB2.out⟩
                case measure => simp [intOf]; omega
          · have hd0 : decide (0 < k) = false := by simp; omega
            refine wp_region_typedG (W.heap.size) (W.heap.size) (fun t v _ => match t with
              | 15 => v = .agg #[.string z.a, .string z.b]
              | 16 => v = .bool true
              | 17 => v = .bool false
              | 18 => v = .bool false
              | 19 => v = .int .i64 k
              | 20 => v = .bool false
              | 21 => v = .bool false
              | 22 => v = undef
              | 23 => v = undef
              | 24 => v = undef
              | 25 => v = undef
              | 26 => v = undef
              | 27 => v = undef
              | 28 => v = undef
              | 29 => v = undef
              | 30 => v = .bool false
              | 31 => v = .bool false
              | _ => True) (fun _ _ => True) (by kernel_rfl) (regOkG_of (by kernel_rfl) (by kernel_rfl)) (fun _ _ _ _ _ h => h) trivial ?_ ?_
            · intro i o cx bx wb ho hc hJ hN hsz hfr hdep hgd K hK
              have hi := (Array.getElem?_eq_some_iff.1 ho).1
              simp only [List.size_toArray, List.length_cons, List.length_nil] at hi hc
              have hcases : i = 0 ∨ i = 1 ∨ i = 2 ∨ i = 3 ∨ i = 4 ∨ i = 5 ∨ i = 6 ∨ i = 7 ∨ i = 8 ∨ i = 9 ∨ i = 10 ∨ i = 11 ∨ i = 12 ∨ i = 13 ∨ i = 14 ∨ i = 15 ∨ i = 16 := by omega
              rcases hcases with rfl | rfl | rfl | rfl | rfl | rfl | rfl | rfl | rfl | rfl | rfl | rfl | rfl | rfl | rfl | rfl | rfl
              · cases (show some _ = some o from ho)
                refine ite_yes (by rfl) ?_
                have h4 : bx.tmps.getD 4 undef = .pointer (some ⟨wo.heap.size, 0, none⟩) := hfr 4 (noDst_of (by kernel_rfl))
                have f4 := getD_opt h4
                have c0 := hN.cell (b := wo.heap.size) (o := 0) (v := .string z.a) g0 (by omega) (by omega)
                have c1 := hN.cell (b := wo.heap.size) (o := 1) (v := .string z.b) g1 (by omega) (by omega)
                have HK := Lib.hid hK
                have HN := Lib.hid hN
                clear hK hdep hgd hfr hsz ho hN
                go_simp
                exact HK.out _ _ (fun d hd => by cases hd; exact rfl) (Nx.refl _ _ _) trivial
              · cases (show some _ = some o from ho)
                refine ite_yes (by rfl) ?_
                have h15 : bx.tmps.getD 15 undef = .agg #[.string z.a, .string z.b] := hdep 15 (reads_of (by kernel_rfl)) ⟨0, _, rfl, rfl⟩
                have f15 := getD_opt h15
                have HK := Lib.hid hK
                have HN := Lib.hid hN
                clear hK hdep hgd hfr hsz ho hN
                go_simp
                refine (hd_impl z.a z.b _ HSZ.out.1 HSZ.out.2).mono ?_
                rw [hp]
                rintro e w' ⟨rfl, o1, rfl⟩
                exact HK.out _ _ (fun d hd => by cases hd; exact rfl) (nx_below (bel1 rfl)) trivial
              · cases (show some _ = some o from ho)
                refine ite_yes (by rfl) ?_
                have h16 : bx.tmps.getD 16 undef = .bool true := hdep 16 (reads_of (by kernel_rfl)) ⟨1, _, rfl, rfl⟩
                have f16 := getD_opt h16
                have HK := Lib.hid hK
                have HN := Lib.hid hN
                clear hK hdep hgd hfr hsz ho hN
                go_simp
                exact HK.out _ _ (fun d hd => by cases hd; exact rfl) (Nx.refl _ _ _) trivial
              · cases (show some _ = some o from ho)
                refine ite_yes (by rfl) ?_
                have h17 : bx.tmps.getD 17 undef = .bool false := hdep 17 (reads_of (by kernel_rfl)) ⟨2, _, rfl, rfl⟩
                have f17 := getD_opt h17
                have HK := Lib.hid hK
                have HN := Lib.hid hN
                clear hK hdep hgd hfr hsz ho hN
                go_simp
                exact HK.out _ _ (fun d hd => by cases hd; exact rfl) (Nx.refl _ _ _) trivial
              · cases (show some _ = some o from ho)
                have hg : bx.tmps.getD 18 undef = .bool false := hgd 3 false _ 18 rfl rfl rfl
                refine ite_yes ((wanted_of rfl rfl rfl hg).trans rfl) ?_
                have h3 : bx.tmps.getD 3 undef = .int .i64 k := hfr 3 (noDst_of (by kernel_rfl))
                have f3 := getD_opt h3
                have HK := Lib.hid hK
                have HN := Lib.hid hN
                clear hK hdep hgd hfr hsz ho hN
                go_simp
                exact HK.out _ _ (fun d hd => by cases hd; exact rfl) (Nx.refl _ _ _) trivial
              · cases (show some _ = some o from ho)
                have hg : bx.tmps.getD 18 undef = .bool false := hgd 3 false _ 18 rfl rfl rfl
                refine ite_yes ((wanted_of rfl rfl rfl hg).trans rfl) ?_
                have h19 : bx.tmps.getD 19 undef = .int .i64 k := hdep 19 (reads_of (by kernel_rfl)) ⟨4, _, rfl, rfl⟩
                have f19 := getD_opt h19
                have HK := Lib.hid hK
                have HN := Lib.hid hN
                clear hK hdep hgd hfr hsz ho hN
                go_simp
                exact HK.out _ _ (fun d hd => by cases hd; exact rfl) (Nx.refl _ _ _) trivial
              · cases (show some _ = some o from ho)
                have hg : bx.tmps.getD 18 undef = .bool false := hgd 3 false _ 18 rfl rfl rfl
                refine ite_yes ((wanted_of rfl rfl rfl hg).trans rfl) ?_
                have h20 : bx.tmps.getD 20 undef = .bool false := hdep 20 (reads_of (by kernel_rfl)) ⟨5, _, rfl, rfl⟩
                have f20 := getD_opt h20
                have HK := Lib.hid hK
                have HN := Lib.hid hN
                clear hK hdep hgd hfr hsz ho hN
                go_simp
                exact HK.out _ _ (fun d hd => by cases hd; exact rfl) (Nx.refl _ _ _) trivial
              · cases (show some _ = some o from ho)
                have hg : bx.tmps.getD 21 undef = .bool false := hgd 6 true _ 21 rfl rfl rfl
                refine ite_no ((wanted_of rfl rfl rfl hg).trans rfl) ?_
                exact hK undef _ (fun d hd => by cases hd; exact rfl) (Nx.refl _ _ _) trivial
              · cases (show some _ = some o from ho)
                have hg : bx.tmps.getD 21 undef = .bool false := hgd 6 true _ 21 rfl rfl rfl
                refine ite_no ((wanted_of rfl rfl rfl hg).trans rfl) ?_
                exact hK undef _ (fun d hd => by cases hd; exact rfl) (Nx.refl _ _ _) trivial
              · cases (show some _ = some o from ho)
                have hg : bx.tmps.getD 21 undef = .bool false := hgd 6 true _ 21 rfl rfl rfl
                refine ite_no ((wanted_of rfl rfl rfl hg).trans rfl) ?_
                exact hK undef _ (fun d hd => by cases hd; exact rfl) (Nx.refl _ _ _) trivial
              · cases (show some _ = some o from ho)
                have hg : bx.tmps.getD 21 undef = .bool false := hgd 6 true _ 21 rfl rfl rfl
                refine ite_no ((wanted_of rfl rfl rfl hg).trans rfl) ?_
                exact hK undef _ (fun d hd => by cases hd; exact rfl) (Nx.refl _ _ _) trivial
              · cases (show some _ = some o from ho)
                have hg : bx.tmps.getD 21 undef = .bool false := hgd 6 true _ 21 rfl rfl rfl
                refine ite_no ((wanted_of rfl rfl rfl hg).trans rfl) ?_
                exact hK undef _ (fun d hd => by cases hd; exact rfl) (Nx.refl _ _ _) trivial
              · cases (show some _ = some o from ho)
                have hg : bx.tmps.getD 21 undef = .bool false := hgd 6 true _ 21 rfl rfl rfl
                refine ite_no ((wanted_of rfl rfl rfl hg).trans rfl) ?_
                exact hK undef _ (fun d hd => by cases hd; exact rfl) (Nx.refl _ _ _) trivial
              · cases (show some _ = some o from ho)
                have hg : bx.tmps.getD 21 undef = .bool false := hgd 6 true _ 21 rfl rfl rfl
                refine ite_no ((wanted_of rfl rfl rfl hg).trans rfl) ?_
                exact hK undef _ (fun d hd => by cases hd; exact rfl) (Nx.refl _ _ _) trivial
              · cases (show some _ = some o from ho)
                have hg : bx.tmps.getD 21 undef = .bool false := hgd 6 true _ 21 rfl rfl rfl
                refine ite_no ((wanted_of rfl rfl rfl hg).trans rfl) ?_
                exact hK undef _ (fun d hd => by cases hd; exact rfl) (Nx.refl _ _ _) trivial
              · cases (show some _ = some o from ho)
                have hg : bx.tmps.getD 18 undef = .bool false := hgd 3 false _ 18 rfl rfl rfl
                refine ite_yes ((wanted_of rfl rfl rfl hg).trans rfl) ?_
                have h21 : bx.tmps.getD 21 undef = .bool false := hdep 21 (reads_of (by kernel_rfl)) ⟨6, _, rfl, rfl⟩
                have f21 := getD_opt h21
                have h29 : bx.tmps.getD 29 undef = undef := hdep 29 (reads_of (by kernel_rfl)) ⟨14, _, rfl, rfl⟩
                have HK := Lib.hid hK
                have HN := Lib.hid hN
                clear hK hdep hgd hfr hsz ho hN
                go_simp
                exact HK.out _ _ (fun d hd => by cases hd; exact rfl) (Nx.refl _ _ _) trivial
              · cases (show some _ = some o from ho)
                refine ite_yes (by rfl) ?_
                have h18 : bx.tmps.getD 18 undef = .bool false := hdep 18 (reads_of (by kernel_rfl)) ⟨3, _, rfl, rfl⟩
                have f18 := getD_opt h18
                have h30 : bx.tmps.getD 30 undef = .bool false := hdep 30 (reads_of (by kernel_rfl)) ⟨15, _, rfl, rfl⟩
                have f30 := getD_opt h30
                have HK := Lib.hid hK
                have HN := Lib.hid hN
                clear hK hdep hgd hfr hsz ho hN
                go_simp
                exact HK.out _ _ (fun d hd => by cases hd; exact rfl) (Nx.refl _ _ _) trivial
            · intro bx wb hsz hdf hfr hty hN hJ
              obtain ⟨tm, df⟩ := bx
              obtain rfl : df = [] := hdf
              have q0 : tm.getD 0 undef = .slice (some ⟨b, off, none⟩) n c := hfr 0 (noDst_of (by kernel_rfl))
              have q1 : tm.getD 1 undef = undef := hfr 1 (noDst_of (by kernel_rfl))
              have q5 : tm.getD 5 undef = .slice (some ⟨b, off, none⟩) n c := hfr 5 (noDst_of (by kernel_rfl))
              have q6 : tm.getD 6 undef = .int .i64 n := hfr 6 (noDst_of (by kernel_rfl))
              have q7 : tm.getD 7 undef = .bool (decide ((10 : Int) < (n : Int))) := hfr 7 (noDst_of (by kernel_rfl))
              have q8 : tm.getD 8 undef = .slice (some ⟨b, off, none⟩) n c := hfr 8 (noDst_of (by kernel_rfl))
              have q9 : tm.getD 9 undef = .int .i64 n := hfr 9 (noDst_of (by kernel_rfl))
              have q10 : tm.getD 10 undef = .int .i64 k := hfr 10 (noDst_of (by kernel_rfl))
              have q31 : tm.getD 31 undef = .bool false := hty 16 _ 31 rfl rfl
              have HNX := Lib.hid hN
              have q := lit_of tm 33 hsz
              simp only [List.range, List.range.loop, List.map, q0, q1, q5, q6, q7, q8, q9, q10, q31] at q
              have HQ := Lib.hid q
              clear q hsz hfr hty hN hJ q0 q1 q5 q6 q7 q8 q9 q10 q31
              rw [HQ.out]
              generalize tm.getD 2 undef = x2
              generalize tm.getD 3 undef = x3
              generalize tm.getD 4 undef = x4
              generalize tm.getD 11 undef = x11
              generalize tm.getD 12 undef = x12
              generalize tm.getD 13 undef = x13
              generalize tm.getD 14 undef = x14
              generalize tm.getD 15 undef = x15
              generalize tm.getD 16 undef = x16
              generalize tm.getD 17 undef = x17
              generalize tm.getD 18 undef = x18
              generalize tm.getD 19 undef = x19
              generalize tm.getD 20 undef = x20
              generalize tm.getD 21 undef = x21
              generalize tm.getD 22 undef = x22
              generalize tm.getD 23 undef = x23
              generalize tm.getD 24 undef = x24
              generalize tm.getD 25 undef = x25
              generalize tm.getD 26 undef = x26
              generalize tm.getD 27 undef = x27
              generalize tm.getD 28 undef = x28
              generalize tm.getD 29 undef = x29
              generalize tm.getD 30 undef = x30
              generalize tm.getD 32 undef = x32
              clear HQ
              have hB2 := below_of_nx HBW.out (by omega) (by omega) HNX.out
              have HB2 := Lib.hid hB2
              clear hB2 HNX
              go_wp2_with fail
              go_roundw
              case rel => exact ⟨k + 1, by omega, by go_num, VTo_succ HV.out (vOk_mk HZ.out hp (fun _ h0 _ => absurd h0 hk0) (NTo_no l z k)), HB2.out⟩
              case measure => simp [intOf]; omega
      · obtain rfl : k = n := by omega
        have HV := Lib.hid hv; have HB := Lib.hid hb
        have hG := fvB_good (l := l) (by rw [HLL.out]; exact HV.out)
        rw [HLL.out] at hG
        have HG := Lib.hid hG
        clear hv hb hG
        go_wp2
        go_ret
        exact ⟨ret_bool (by rw [← HG.out]; simp; omega), HB.out⟩
  · have HF := Lib.hid (fvB_long (l := l) (by rw [HLL.out]; omega))
    have h8' : 10 < n := by omega
    go_enter Tryd.func44, Tryd.ntmps44
    go_wp2
    go_ret
    exact ⟨ret_bool HF.out, Below.refl _ _⟩
set_option maxRecDepth 100000 in
set_option maxHeartbeats 16000000 in
theorem sfv_any (A : Option Addr) (n c : Nat) (l : List Ha) (w : World) (h : Rd w 2 A n (has l)) (hnc : n ≤ c) (hc : c ≤ maxLen) (hs : ∀ z ∈ l, z.a.size ≤ maxLen ∧ z.b.size ≤ maxLen) :
    Calls Tryd.prog 46 #[.slice A n c] w fun e w' => e = .returned (.bool (fvB l)) ∧ Below w.heap.size w w' := by
  have hll := rd_halen h
  have H := Lib.hid h; have HLL := Lib.hid hll; have HS := Lib.hid hs; clear h hll hs
  unfold maxLen at hc
  go_enter Tryd.func46, Tryd.ntmps46
  go_wp2
  go_loopw [3] (fun i wr => ∃ k : Nat, k ≤ n ∧ i = .int .i64 k ∧ VTo hdV faPr faSm l k ∧ Below w.heap.size w wr) (fun i _ => n - (intOf i).toNat)
  case atStart => exact ⟨0, Nat.zero_le _, rfl, VTo_0 _, Below.refl _ _⟩
  case round =>
    obtain ⟨k, hk, rfl, hv, hb⟩ := hrel
    by_cases hlt : k < n
    · obtain ⟨b, off, z, rfl, hbl, hz, hc0, hc1⟩ := (H.out.below hb).ha hlt
      have HSZ := Lib.hid (HS.out z (List.mem_of_getElem? hz))
      have HV := Lib.hid hv; have HB := Lib.hid hb; have HZ := Lib.hid hz
      clear hv hb hz
      obtain ⟨wo, rfl⟩ : ∃ wo : World, wo = wr := ⟨_, rfl⟩
      have hws := HB.out.size
      go_upto_region 4 with (fail)
      cases hp : hdV z
      · refine wp_region_typedG (wo.heap.size + 0) (wo.heap.size + 0) (fun t v _ => match t with
          | 10 => v = .slice (some ⟨b, off, none⟩) n c
          | 11 => v = .int .i64 k
          | 12 => v = .pointer (some ⟨b, off + k * 2, none⟩)
          | 13 => v = .agg #[.string z.a, .string z.b]
          | 14 => v = .bool false
          | 15 => v = .bool true
          | 16 => v = .bool true
          | 17 => v = undef
          | 18 => v = undef
          | 19 => v = undef
          | 20 => v = undef
          | 21 => v = undef
          | 22 => v = undef
          | 23 => v = undef
          | 24 => v = undef
          | 25 => v = undef
          | 26 => v = undef
          | 27 => v = undef
          | 28 => v = undef
          | 29 => v = undef
          | 30 => v = undef
          | 31 => v = undef
          | 32 => v = .bool true
          | _ => True) (fun _ _ => True) (by kernel_rfl) (regOkG_of (by kernel_rfl) (by kernel_rfl)) (fun _ _ _ _ _ h => h) trivial ?_ ?_
        · intro i o cx bx wb ho hc hJ hN hsz hfr hdep hgd K hK
          have hi := (Array.getElem?_eq_some_iff.1 ho).1
          simp only [List.size_toArray, List.length_cons, List.length_nil] at hi hc
          have hcases : i = 0 ∨ i = 1 ∨ i = 2 ∨ i = 3 ∨ i = 4 ∨ i = 5 ∨ i = 6 ∨ i = 7 ∨ i = 8 ∨ i = 9 ∨ i = 10 ∨ i = 11 ∨ i = 12 ∨ i = 13 ∨ i = 14 ∨ i = 15 ∨ i = 16 ∨ i = 17 ∨ i = 18 ∨ i = 19 ∨ i = 20 ∨ i = 21 ∨ i = 22 := by omega
          rcases hcases with rfl | rfl | rfl | rfl | rfl | rfl | rfl | rfl | rfl | rfl | rfl | rfl | rfl | rfl | rfl | rfl | rfl | rfl | rfl | rfl | rfl | rfl | rfl
          · cases (show some _ = some o from ho)
            refine ite_yes (by rfl) ?_
            have h0 : bx.tmps.getD 0 undef = .slice (some ⟨b, off, none⟩) n c := hfr 0 (noDst_of (by kernel_rfl))
            have f0 := getD_opt h0
            have HK := Lib.hid hK
            have HN := Lib.hid hN
            clear hK hdep hgd hfr hsz ho hN
            go_simp
            exact HK.out _ _ (fun d hd => by cases hd; exact rfl) (Nx.refl _ _ _) trivial
          · cases (show some _ = some o from ho)
            refine ite_yes (by rfl) ?_
            have h3 : bx.tmps.getD 3 undef = .int .i64 k := hfr 3 (noDst_of (by kernel_rfl))
            have f3 := getD_opt h3
            have HK := Lib.hid hK
            have HN := Lib.hid hN
            clear hK hdep hgd hfr hsz ho hN
            go_simp
            exact HK.out _ _ (fun d hd => by cases hd; exact rfl) (Nx.refl _ _ _) trivial
          · cases (show some _ = some o from ho)
            refine ite_yes (by rfl) ?_
            have h10 : bx.tmps.getD 10 undef = .slice (some ⟨b, off, none⟩) n c := hdep 10 (reads_of (by kernel_rfl)) ⟨0, _, rfl, rfl⟩
            have f10 := getD_opt h10
            have h11 : bx.tmps.getD 11 undef = .int .i64 k := hdep 11 (reads_of (by kernel_rfl)) ⟨1, _, rfl, rfl⟩
            have f11 := getD_opt h11
            have HK := Lib.hid hK
            have HN := Lib.hid hN
            clear hK hdep hgd hfr hsz ho hN
            go_simp
            try rw [if_pos (by omega)]
            exact HK.out _ _ (fun d hd => by cases hd; exact rfl) (Nx.refl _ _ _) trivial
          · cases (show some _ = some o from ho)
            refine ite_yes (by rfl) ?_
            have h12 : bx.tmps.getD 12 undef = .pointer (some ⟨b, off + k * 2, none⟩) := hdep 12 (reads_of (by kernel_rfl)) ⟨2, _, rfl, rfl⟩
            have f12 := getD_opt h12
            have c0 := hN.cell (b := b) (o := off + k * 2) (v := .string z.a) hc0 (by omega) (by omega)
            have c1 := hN.cell (b := b) (o := off + k * 2 + 1) (v := .string z.b) hc1 (by omega) (by omega)
            have HK := Lib.hid hK
            have HN := Lib.hid hN
            clear hK hdep hgd hfr hsz ho hN
            go_simp
            exact HK.out _ _ (fun d hd => by cases hd; exact rfl) (Nx.refl _ _ _) trivial
          · cases (show some _ = some o from ho)
            refine ite_yes (by rfl) ?_
            have h13 : bx.tmps.getD 13 undef = .agg #[.string z.a, .string z.b] := hdep 13 (reads_of (by kernel_rfl)) ⟨3, _, rfl, rfl⟩
            have f13 := getD_opt h13
            have HK := Lib.hid hK
            have HN := Lib.hid hN
            clear hK hdep hgd hfr hsz ho hN
            go_simp
            refine (hd_spec z.a z.b _ HSZ.out.1 HSZ.out.2).mono ?_
            rw [hp]
            rintro e w' ⟨rfl, o1, rfl⟩
            exact HK.out _ _ (fun d hd => by cases hd; exact rfl) (nx_below (bel1 rfl)) trivial
          · cases (show some _ = some o from ho)
            refine ite_yes (by rfl) ?_
            have h14 : bx.tmps.getD 14 undef = .bool false := hdep 14 (reads_of (by kernel_rfl)) ⟨4, _, rfl, rfl⟩
            have f14 := getD_opt h14
            have HK := Lib.hid hK
            have HN := Lib.hid hN
            clear hK hdep hgd hfr hsz ho hN
            go_simp
            exact HK.out _ _ (fun d hd => by cases hd; exact rfl) (Nx.refl _ _ _) trivial
          · cases (show some _ = some o from ho)
            refine ite_yes (by rfl) ?_
            have h15 : bx.tmps.getD 15 undef = .bool true := hdep 15 (reads_of (by kernel_rfl)) ⟨5, _, rfl, rfl⟩
            have f15 := getD_opt h15
            have HK := Lib.hid hK
            have HN := Lib.hid hN
            clear hK hdep hgd hfr hsz ho hN
            go_simp
            exact HK.out _ _ (fun d hd => by cases hd; exact rfl) (Nx.refl _ _ _) trivial
          · cases (show some _ = some o from ho)
            have hg : bx.tmps.getD 16 undef = .bool true := hgd 6 false _ 16 rfl rfl rfl
            refine ite_no ((wanted_of rfl rfl rfl hg).trans rfl) ?_
            exact hK undef _ (fun d hd => by cases hd; exact rfl) (Nx.refl _ _ _) trivial
          · cases (show some _ = some o from ho)
            have hg : bx.tmps.getD 16 undef = .bool true := hgd 6 false _ 16 rfl rfl rfl
            refine ite_no ((wanted_of rfl rfl rfl hg).trans rfl) ?_
            exact hK undef _ (fun d hd => by cases hd; exact rfl) (Nx.refl _ _ _) trivial
          · cases (show some _ = some o from ho)
            have hg : bx.tmps.getD 16 undef = .bool true := hgd 6 false _ 16 rfl rfl rfl
            refine ite_no ((wanted_of rfl rfl rfl hg).trans rfl) ?_
            exact hK undef _ (fun d hd => by cases hd; exact rfl) (Nx.refl _ _ _) trivial
          · cases (show some _ = some o from ho)
            have hg : bx.tmps.getD 19 undef = undef := hgd 9 true _ 19 rfl rfl rfl
            refine ite_no (wanted_undef rfl rfl rfl hg) ?_
            exact hK undef _ (fun d hd => by cases hd; exact rfl) (Nx.refl _ _ _) trivial
          · cases (show some _ = some o from ho)
            have hg : bx.tmps.getD 19 undef = undef := hgd 9 true _ 19 rfl rfl rfl
            refine ite_no (wanted_undef rfl rfl rfl hg) ?_
            exact hK undef _ (fun d hd => by cases hd; exact rfl) (Nx.refl _ _ _) trivial
          · cases (show some _ = some o from ho)
            have hg : bx.tmps.getD 19 undef = undef := hgd 9 true _ 19 rfl rfl rfl
            refine ite_no (wanted_undef rfl rfl rfl hg) ?_
            exact hK undef _ (fun d hd => by cases hd; exact rfl) (Nx.refl _ _ _) trivial
          · cases (show some _ = some o from ho)
            have hg : bx.tmps.getD 19 undef = undef := hgd 9 true _ 19 rfl rfl rfl
            refine ite_no (wanted_undef rfl rfl rfl hg) ?_
            exact hK undef _ (fun d hd => by cases hd; exact rfl) (Nx.refl _ _ _) trivial
          · cases (show some _ = some o from ho)
            have hg : bx.tmps.getD 19 undef = undef := hgd 9 true _ 19 rfl rfl rfl
            refine ite_no (wanted_undef rfl rfl rfl hg) ?_
            exact hK undef _ (fun d hd => by cases hd; exact rfl) (Nx.refl _ _ _) trivial
          · cases (show some _ = some o from ho)
            have hg : bx.tmps.getD 19 undef = undef := hgd 9 true _ 19 rfl rfl rfl
            refine ite_no (wanted_undef rfl rfl rfl hg) ?_
            exact hK undef _ (fun d hd => by cases hd; exact rfl) (Nx.refl _ _ _) trivial
          · cases (show some _ = some o from ho)
            have hg : bx.tmps.getD 19 undef = undef := hgd 9 true _ 19 rfl rfl rfl
            refine ite_no (wanted_undef rfl rfl rfl hg) ?_
            exact hK undef _ (fun d hd => by cases hd; exact rfl) (Nx.refl _ _ _) trivial
          · cases (show some _ = some o from ho)
            have hg : bx.tmps.getD 19 undef = undef := hgd 9 true _ 19 rfl rfl rfl
            refine ite_no (wanted_undef rfl rfl rfl hg) ?_
            exact hK undef _ (fun d hd => by cases hd; exact rfl) (Nx.refl _ _ _) trivial
          · cases (show some _ = some o from ho)
            have hg : bx.tmps.getD 19 undef = undef := hgd 9 true _ 19 rfl rfl rfl
            refine ite_no (wanted_undef rfl rfl rfl hg) ?_
            exact hK undef _ (fun d hd => by cases hd; exact rfl) (Nx.refl _ _ _) trivial
          · cases (show some _ = some o from ho)
            have hg : bx.tmps.getD 19 undef = undef := hgd 9 true _ 19 rfl rfl rfl
            refine ite_no (wanted_undef rfl rfl rfl hg) ?_
            exact hK undef _ (fun d hd => by cases hd; exact rfl) (Nx.refl _ _ _) trivial
          · cases (show some _ = some o from ho)
            have hg : bx.tmps.getD 19 undef = undef := hgd 9 true _ 19 rfl rfl rfl
            refine ite_no (wanted_undef rfl rfl rfl hg) ?_
            exact hK undef _ (fun d hd => by cases hd; exact rfl) (Nx.refl _ _ _) trivial
          · cases (show some _ = some o from ho)
            have hg : bx.tmps.getD 16 undef = .bool true := hgd 6 false _ 16 rfl rfl rfl
            refine ite_no ((wanted_of rfl rfl rfl hg).trans rfl) ?_
            exact hK undef _ (fun d hd => by cases hd; exact rfl) (Nx.refl _ _ _) trivial
          · cases (show some _ = some o from ho)
            refine ite_yes (by rfl) ?_
            have h16 : bx.tmps.getD 16 undef = .bool true := hdep 16 (reads_of (by kernel_rfl)) ⟨6, _, rfl, rfl⟩
            have f16 := getD_opt h16
            have h31 : bx.tmps.getD 31 undef = undef := hdep 31 (reads_of (by kernel_rfl)) ⟨21, _, rfl, rfl⟩
            have HK := Lib.hid hK
            have HN := Lib.hid hN
            clear hK hdep hgd hfr hsz ho hN
            go_simp
            exact HK.out _ _ (fun d hd => by cases hd; exact rfl) (Nx.refl _ _ _) trivial
        · intro bx wb hsz hdf hfr hty hN hJ
          obtain ⟨tm, df⟩ := bx
          obtain rfl : df = [] := hdf
          have q0 : tm.getD 0 undef = .slice (some ⟨b, off, none⟩) n c := hfr 0 (noDst_of (by kernel_rfl))
          have q1 : tm.getD 1 undef = undef := hfr 1 (noDst_of (by kernel_rfl))
          have q3 : tm.getD 3 undef = .int .i64 k := hfr 3 (noDst_of (by kernel_rfl))
          have q33 : tm.getD 33 undef = undef := hfr 33 (noDst_of (by kernel_rfl))
          have q34 : tm.getD 34 undef = undef := hfr 34 (noDst_of (by kernel_rfl))
          have q35 : tm.getD 35 undef = undef := hfr 35 (noDst_of (by kernel_rfl))
          have q32 : tm.getD 32 undef = .bool true := hty 22 _ 32 rfl rfl
          have HNX := Lib.hid hN
          have q := lit_of tm 36 hsz
          simp only [List.range, List.range.loop, List.map, q0, q1, q3, q33, q34, q35, q32] at q
          have HQ := Lib.hid q
          clear q hsz hfr hty hN hJ q0 q1 q3 q33 q34 q35 q32
          rw [HQ.out]
          generalize tm.getD 2 undef = x2
          generalize tm.getD 4 undef = x4
          generalize tm.getD 5 undef = x5
          generalize tm.getD 6 undef = x6
          generalize tm.getD 7 undef = x7
          generalize tm.getD 8 undef = x8
          generalize tm.getD 9 undef = x9
          generalize tm.getD 10 undef = x10
          generalize tm.getD 11 undef = x11
          generalize tm.getD 12 undef = x12
          generalize tm.getD 13 undef = x13
          generalize tm.getD 14 undef = x14
          generalize tm.getD 15 undef = x15
          generalize tm.getD 16 undef = x16
          generalize tm.getD 17 undef = x17
          generalize tm.getD 18 undef = x18
          generalize tm.getD 19 undef = x19
          generalize tm.getD 20 undef = x20
          generalize tm.getD 21 undef = x21
          generalize tm.getD 22 undef = x22
          generalize tm.getD 23 undef = x23
          generalize tm.getD 24 undef = x24
          generalize tm.getD 25 undef = x25
          generalize tm.getD 26 undef = x26
          generalize tm.getD 27 undef = x27
          generalize tm.getD 28 undef = x28
          generalize tm.getD 29 undef = x29
          generalize tm.getD 30 undef = x30
          generalize tm.getD 31 undef = x31
          clear HQ
          have hB2 := below_of_nx HB.out (by omega) (by omega) HNX.out
          have HB2 := Lib.hid hB2
          clear hB2 HNX
          go_wp2_with fail
          go_ret
          exact ⟨ret_bool (fvB_bad (vAll_bad1 HZ.out hp)), HB2.out⟩
      · by_cases hk0 : 0 < k
        · obtain ⟨bp, offp, y, ep, _, hy, e0, e1⟩ := (H.out.below HB.out).ha (show k - 1 < n by omega)
          injection ep with ep; injection ep with ea eb
          subst ea; subst eb
          have HY := Lib.hid hy; clear hy
          have j0 : (1 : Int) ≤ (k : Int) := by omega
          have hd0 : decide (0 < k) = true := by simp; omega
          have j1 : (0 : Int) ≤ (k : Int) - 1 := by omega
          have j2 : ((k : Int) - 1).toNat = k - 1 := by omega
          have j3 : (k : Int) - 1 < (n : Int) := by omega
          have hwr : IntKind.i64.wrap ((k : Int) - 1) = (k : Int) - 1 := IntWalk.i64_in _ (by omega)
          cases hr : hbB y z
          · refine wp_region_typedG (wo.heap.size + 0) (wo.heap.size + 0) (fun t v _ => match t with
              | 10 => v = .slice (some ⟨b, off, none⟩) n c
              | 11 => v = .int .i64 k
              | 12 => v = .pointer (some ⟨b, off + k * 2, none⟩)
              | 13 => v = .agg #[.string z.a, .string z.b]
              | 14 => v = .bool true
              | 15 => v = .bool false
              | 16 => v = .bool false
              | 17 => v = .int .i64 k
              | 18 => v = .bool true
              | 19 => v = .bool true
              | 20 => v = .slice (some ⟨b, off, none⟩) n c
              | 21 => v = .int .i64 k
              | 22 => v = .int .i64 ((k : Int) - 1)
              | 23 => v = .pointer (some ⟨b, off + (k - 1) * 2, none⟩)
              | 24 => v = .agg #[.string y.a, .string y.b]
              | 25 => v = .slice (some ⟨b, off, none⟩) n c
              | 26 => v = .int .i64 k
              | 27 => v = .pointer (some ⟨b, off + k * 2, none⟩)
              | 28 => v = .agg #[.string z.a, .string z.b]
              | 29 => v = .bool false
              | 30 => v = .bool true
              | 31 => v = .bool true
              | 32 => v = .bool true
              | _ => True) (fun _ _ => True) (by kernel_rfl) (regOkG_of (by kernel_rfl) (by kernel_rfl)) (fun _ _ _ _ _ h => h) trivial ?_ ?_
            · intro i o cx bx wb ho hc hJ hN hsz hfr hdep hgd K hK
              have hi := (Array.getElem?_eq_some_iff.1 ho).1
              simp only [List.size_toArray, List.length_cons, List.length_nil] at hi hc
              have hcases : i = 0 ∨ i = 1 ∨ i = 2 ∨ i = 3 ∨ i = 4 ∨ i = 5 ∨ i = 6 ∨ i = 7 ∨ i = 8 ∨ i = 9 ∨ i = 10 ∨ i = 11 ∨ i = 12 ∨ i = 13 ∨ i = 14 ∨ i = 15 ∨ i = 16 ∨ i = 17 ∨ i = 18 ∨ i = 19 ∨ i = 20 ∨ i = 21 ∨ i = 22 := by omega
              rcases hcases with rfl | rfl | rfl | rfl | rfl | rfl | rfl | rfl | rfl | rfl | rfl | rfl | rfl | rfl | rfl | rfl | rfl | rfl | rfl | rfl | rfl | rfl | rfl
              · cases (show some _ = some o from ho)
                refine ite_yes (by rfl) ?_
                have h0 : bx.tmps.getD 0 undef = .slice (some ⟨b, off, none⟩) n c := hfr 0 (noDst_of (by kernel_rfl))
                have f0 := getD_opt h0
                have HK := Lib.hid hK
                have HN := Lib.hid hN
                clear hK hdep hgd hfr hsz ho hN
                go_simp
                exact HK.out _ _ (fun d hd => by cases hd; exact rfl) (Nx.refl _ _ _) trivial
              · cases (show some _ = some o from ho)
                refine ite_yes (by rfl) ?_
                have h3 : bx.tmps.getD 3 undef = .int .i64 k := hfr 3 (noDst_of (by kernel_rfl))
                have f3 := getD_opt h3
                have HK := Lib.hid hK
                have HN := Lib.hid hN
                clear hK hdep hgd hfr hsz ho hN
                go_simp
                exact HK.out _ _ (fun d hd => by cases hd; exact rfl) (Nx.refl _ _ _) trivial
              · cases (show some _ = some o from ho)
                refine ite_yes (by rfl) ?_
                have h10 : bx.tmps.getD 10 undef = .slice (some ⟨b, off, none⟩) n c := hdep 10 (reads_of (by kernel_rfl)) ⟨0, _, rfl, rfl⟩
                have f10 := getD_opt h10
                have h11 : bx.tmps.getD 11 undef = .int .i64 k := hdep 11 (reads_of (by kernel_rfl)) ⟨1, _, rfl, rfl⟩
                have f11 := getD_opt h11
                have HK := Lib.hid hK
                have HN := Lib.hid hN
                clear hK hdep hgd hfr hsz ho hN
                go_simp
                try rw [if_pos (by omega)]
                exact HK.out _ _ (fun d hd => by cases hd; exact rfl) (Nx.refl _ _ _) trivial
              · cases (show some _ = some o from ho)
                refine ite_yes (by rfl) ?_
                have h12 : bx.tmps.getD 12 undef = .pointer (some ⟨b, off + k * 2, none⟩) := hdep 12 (reads_of (by kernel_rfl)) ⟨2, _, rfl, rfl⟩
                have f12 := getD_opt h12
                have c0 := hN.cell (b := b) (o := off + k * 2) (v := .string z.a) hc0 (by omega) (by omega)
                have c1 := hN.cell (b := b) (o := off + k * 2 + 1) (v := .string z.b) hc1 (by omega) (by omega)
                have d0 := hN.cell (b := b) (o := off + (k - 1) * 2) (v := .string y.a) e0 (by omega) (by omega)
                have d1 := hN.cell (b := b) (o := off + (k - 1) * 2 + 1) (v := .string y.b) e1 (by omega) (by omega)
                have HK := Lib.hid hK
                have HN := Lib.hid hN
                clear hK hdep hgd hfr hsz ho hN
                go_simp
                exact HK.out _ _ (fun d hd => by cases hd; exact rfl) (Nx.refl _ _ _) trivial
              · cases (show some _ = some o from ho)
                refine ite_yes (by rfl) ?_
                have h13 : bx.tmps.getD 13 undef = .agg #[.string z.a, .string z.b] := hdep 13 (reads_of (by kernel_rfl)) ⟨3, _, rfl, rfl⟩
                have f13 := getD_opt h13
                have HK := Lib.hid hK
                have HN := Lib.hid hN
                clear hK hdep hgd hfr hsz ho hN
                go_simp
                refine (hd_spec z.a z.b _ HSZ.out.1 HSZ.out.2).mono ?_
                rw [hp]
                rintro e w' ⟨rfl, o1, rfl⟩
                exact HK.out _ _ (fun d hd => by cases hd; exact rfl) (nx_below (bel1 rfl)) trivial
              · cases (show some _ = some o from ho)
                refine ite_yes (by rfl) ?_
                have h14 : bx.tmps.getD 14 undef = .bool true := hdep 14 (reads_of (by kernel_rfl)) ⟨4, _, rfl, rfl⟩
                have f14 := getD_opt h14
                have HK := Lib.hid hK
                have HN := Lib.hid hN
                clear hK hdep hgd hfr hsz ho hN
                go_simp
                exact HK.out _ _ (fun d hd => by cases hd; exact rfl) (Nx.refl _ _ _) trivial
              · cases (show some _ = some o from ho)
                refine ite_yes (by rfl) ?_
                have h15 : bx.tmps.getD 15 undef = .bool false := hdep 15 (reads_of (by kernel_rfl)) ⟨5, _, rfl, rfl⟩
                have f15 := getD_opt h15
                have HK := Lib.hid hK
                have HN := Lib.hid hN
                clear hK hdep hgd hfr hsz ho hN
                go_simp
                exact HK.out _ _ (fun d hd => by cases hd; exact rfl) (Nx.refl _ _ _) trivial
              · cases (show some _ = some o from ho)
                have hg : bx.tmps.getD 16 undef = .bool false := hgd 6 false _ 16 rfl rfl rfl
                refine ite_yes ((wanted_of rfl rfl rfl hg).trans rfl) ?_
                have h3 : bx.tmps.getD 3 undef = .int .i64 k := hfr 3 (noDst_of (by kernel_rfl))
                have f3 := getD_opt h3
                have HK := Lib.hid hK
                have HN := Lib.hid hN
                clear hK hdep hgd hfr hsz ho hN
                go_simp
                exact HK.out _ _ (fun d hd => by cases hd; exact rfl) (Nx.refl _ _ _) trivial
              · cases (show some _ = some o from ho)
                have hg : bx.tmps.getD 16 undef = .bool false := hgd 6 false _ 16 rfl rfl rfl
                refine ite_yes ((wanted_of rfl rfl rfl hg).trans rfl) ?_
                have h17 : bx.tmps.getD 17 undef = .int .i64 k := hdep 17 (reads_of (by kernel_rfl)) ⟨7, _, rfl, rfl⟩
                have f17 := getD_opt h17
                have HK := Lib.hid hK
                have HN := Lib.hid hN
                clear hK hdep hgd hfr hsz ho hN
                go_simp
                exact HK.out _ _ (fun d hd => by cases hd; exact rfl) (Nx.refl _ _ _) trivial
              · cases (show some _ = some o from ho)
                have hg : bx.tmps.getD 16 undef = .bool false := hgd 6 false _ 16 rfl rfl rfl
                refine ite_yes ((wanted_of rfl rfl rfl hg).trans rfl) ?_
                have h18 : bx.tmps.getD 18 undef = .bool true := hdep 18 (reads_of (by kernel_rfl)) ⟨8, _, rfl, rfl⟩
                have f18 := getD_opt h18
                have HK := Lib.hid hK
                have HN := Lib.hid hN
                clear hK hdep hgd hfr hsz ho hN
                go_simp
                exact HK.out _ _ (fun d hd => by cases hd; exact rfl) (Nx.refl _ _ _) trivial
              · cases (show some _ = some o from ho)
                have hg : bx.tmps.getD 19 undef = .bool true := hgd 9 true _ 19 rfl rfl rfl
                refine ite_yes ((wanted_of rfl rfl rfl hg).trans rfl) ?_
                have h0 : bx.tmps.getD 0 undef = .slice (some ⟨b, off, none⟩) n c := hfr 0 (noDst_of (by kernel_rfl))
                have f0 := getD_opt h0
                have HK := Lib.hid hK
                have HN := Lib.hid hN
                clear hK hdep hgd hfr hsz ho hN
                go_simp
                exact HK.out _ _ (fun d hd => by cases hd; exact rfl) (Nx.refl _ _ _) trivial
              · cases (show some _ = some o from ho)
                have hg : bx.tmps.getD 19 undef = .bool true := hgd 9 true _ 19 rfl rfl rfl
                refine ite_yes ((wanted_of rfl rfl rfl hg).trans rfl) ?_
                have h3 : bx.tmps.getD 3 undef = .int .i64 k := hfr 3 (noDst_of (by kernel_rfl))
                have f3 := getD_opt h3
                have HK := Lib.hid hK
                have HN := Lib.hid hN
                clear hK hdep hgd hfr hsz ho hN
                go_simp
                exact HK.out _ _ (fun d hd => by cases hd; exact rfl) (Nx.refl _ _ _) trivial
              · cases (show some _ = some o from ho)
                have hg : bx.tmps.getD 19 undef = .bool true := hgd 9 true _ 19 rfl rfl rfl
                refine ite_yes ((wanted_of rfl rfl rfl hg).trans rfl) ?_
                have h21 : bx.tmps.getD 21 undef = .int .i64 k := hdep 21 (reads_of (by kernel_rfl)) ⟨11, _, rfl, rfl⟩
                have f21 := getD_opt h21
                have HK := Lib.hid hK
                have HN := Lib.hid hN
                clear hK hdep hgd hfr hsz ho hN
                go_simp
                exact HK.out _ _ (fun d hd => by cases hd; exact rfl) (Nx.refl _ _ _) trivial
              · cases (show some _ = some o from ho)
                have hg : bx.tmps.getD 19 undef = .bool true := hgd 9 true _ 19 rfl rfl rfl
                refine ite_yes ((wanted_of rfl rfl rfl hg).trans rfl) ?_
                have h20 : bx.tmps.getD 20 undef = .slice (some ⟨b, off, none⟩) n c := hdep 20 (reads_of (by kernel_rfl)) ⟨10, _, rfl, rfl⟩
                have f20 := getD_opt h20
                have h22 : bx.tmps.getD 22 undef = .int .i64 ((k : Int) - 1) := hdep 22 (reads_of (by kernel_rfl)) ⟨12, _, rfl, rfl⟩
                have f22 := getD_opt h22
                have HK := Lib.hid hK
                have HN := Lib.hid hN
                clear hK hdep hgd hfr hsz ho hN
                go_simp
                try rw [if_pos (by omega)]
                exact HK.out _ _ (fun d hd => by cases hd; exact rfl) (Nx.refl _ _ _) trivial
              · cases (show some _ = some o from ho)
                have hg : bx.tmps.getD 19 undef = .bool true := hgd 9 true _ 19 rfl rfl rfl
                refine ite_yes ((wanted_of rfl rfl rfl hg).trans rfl) ?_
                have h23 : bx.tmps.getD 23 undef = .pointer (some ⟨b, off + (k - 1) * 2, none⟩) := hdep 23 (reads_of (by kernel_rfl)) ⟨13, _, rfl, rfl⟩
                have f23 := getD_opt h23
                have c0 := hN.cell (b := b) (o := off + k * 2) (v := .string z.a) hc0 (by omega) (by omega)
                have c1 := hN.cell (b := b) (o := off + k * 2 + 1) (v := .string z.b) hc1 (by omega) (by omega)
                have d0 := hN.cell (b := b) (o := off + (k - 1) * 2) (v := .string y.a) e0 (by omega) (by omega)
                have d1 := hN.cell (b := b) (o := off + (k - 1) * 2 + 1) (v := .string y.b) e1 (by omega) (by omega)
                have HK := Lib.hid hK
                have HN := Lib.hid hN
                clear hK hdep hgd hfr hsz ho hN
                go_simp
                exact HK.out _ _ (fun d hd => by cases hd; exact rfl) (Nx.refl _ _ _) trivial
              · cases (show some _ = some o from ho)
                have hg : bx.tmps.getD 19 undef = .bool true := hgd 9 true _ 19 rfl rfl rfl
                refine ite_yes ((wanted_of rfl rfl rfl hg).trans rfl) ?_
                have h0 : bx.tmps.getD 0 undef = .slice (some ⟨b, off, none⟩) n c := hfr 0 (noDst_of (by kernel_rfl))
                have f0 := getD_opt h0
                have HK := Lib.hid hK
                have HN := Lib.hid hN
                clear hK hdep hgd hfr hsz ho hN
                go_simp
                exact HK.out _ _ (fun d hd => by cases hd; exact rfl) (Nx.refl _ _ _) trivial
              · cases (show some _ = some o from ho)
                have hg : bx.tmps.getD 19 undef = .bool true := hgd 9 true _ 19 rfl rfl rfl
                refine ite_yes ((wanted_of rfl rfl rfl hg).trans rfl) ?_
                have h3 : bx.tmps.getD 3 undef = .int .i64 k := hfr 3 (noDst_of (by kernel_rfl))
                have f3 := getD_opt h3
                have HK := Lib.hid hK
                have HN := Lib.hid hN
                clear hK hdep hgd hfr hsz ho hN
                go_simp
                exact HK.out _ _ (fun d hd => by cases hd; exact rfl) (Nx.refl _ _ _) trivial
              · cases (show some _ = some o from ho)
                have hg : bx.tmps.getD 19 undef = .bool true := hgd 9 true _ 19 rfl rfl rfl
                refine ite_yes ((wanted_of rfl rfl rfl hg).trans rfl) ?_
                have h25 : bx.tmps.getD 25 undef = .slice (some ⟨b, off, none⟩) n c := hdep 25 (reads_of (by kernel_rfl)) ⟨15, _, rfl, rfl⟩
                have f25 := getD_opt h25
                have h26 : bx.tmps.getD 26 undef = .int .i64 k := hdep 26 (reads_of (by kernel_rfl)) ⟨16, _, rfl, rfl⟩
                have f26 := getD_opt h26
                have HK := Lib.hid hK
                have HN := Lib.hid hN
                clear hK hdep hgd hfr hsz ho hN
                go_simp
                try rw [if_pos (by omega)]
                exact HK.out _ _ (fun d hd => by cases hd; exact rfl) (Nx.refl _ _ _) trivial
              · cases (show some _ = some o from ho)
                have hg : bx.tmps.getD 19 undef = .bool true := hgd 9 true _ 19 rfl rfl rfl
                refine ite_yes ((wanted_of rfl rfl rfl hg).trans rfl) ?_
                have h27 : bx.tmps.getD 27 undef = .pointer (some ⟨b, off + k * 2, none⟩) := hdep 27 (reads_of (by kernel_rfl)) ⟨17, _, rfl, rfl⟩
                have f27 := getD_opt h27
                have c0 := hN.cell (b := b) (o := off + k * 2) (v := .string z.a) hc0 (by omega) (by omega)
                have c1 := hN.cell (b := b) (o := off + k * 2 + 1) (v := .string z.b) hc1 (by omega) (by omega)
                have d0 := hN.cell (b := b) (o := off + (k - 1) * 2) (v := .string y.a) e0 (by omega) (by omega)
                have d1 := hN.cell (b := b) (o := off + (k - 1) * 2 + 1) (v := .string y.b) e1 (by omega) (by omega)
                have HK := Lib.hid hK
                have HN := Lib.hid hN
                clear hK hdep hgd hfr hsz ho hN
                go_simp
                exact HK.out _ _ (fun d hd => by cases hd; exact rfl) (Nx.refl _ _ _) trivial
              · cases (show some _ = some o from ho)
                have hg : bx.tmps.getD 19 undef = .bool true := hgd 9 true _ 19 rfl rfl rfl
                refine ite_yes ((wanted_of rfl rfl rfl hg).trans rfl) ?_
                have h24 : bx.tmps.getD 24 undef = .agg #[.string y.a, .string y.b] := hdep 24 (reads_of (by kernel_rfl)) ⟨14, _, rfl, rfl⟩
                have f24 := getD_opt h24
                have h28 : bx.tmps.getD 28 undef = .agg #[.string z.a, .string z.b] := hdep 28 (reads_of (by kernel_rfl)) ⟨18, _, rfl, rfl⟩
                have f28 := getD_opt h28
                have HK := Lib.hid hK
                have HN := Lib.hid hN
                clear hK hdep hgd hfr hsz ho hN
                go_simp
                refine (hb_spec y z _).mono ?_
                rw [hr]
                rintro e w' ⟨rfl, o1, o2, rfl⟩
                exact HK.out _ _ (fun d hd => by cases hd; exact rfl) (nx_below (bel2 rfl)) trivial
              · cases (show some _ = some o from ho)
                have hg : bx.tmps.getD 19 undef = .bool true := hgd 9 true _ 19 rfl rfl rfl
                refine ite_yes ((wanted_of rfl rfl rfl hg).trans rfl) ?_
                have h29 : bx.tmps.getD 29 undef = .bool false := hdep 29 (reads_of (by kernel_rfl)) ⟨19, _, rfl, rfl⟩
                have f29 := getD_opt h29
                have HK := Lib.hid hK
                have HN := Lib.hid hN
                clear hK hdep hgd hfr hsz ho hN
                go_simp
                exact HK.out _ _ (fun d hd => by cases hd; exact rfl) (Nx.refl _ _ _) trivial
              · cases (show some _ = some o from ho)
                have hg : bx.tmps.getD 16 undef = .bool false := hgd 6 false _ 16 rfl rfl rfl
                refine ite_yes ((wanted_of rfl rfl rfl hg).trans rfl) ?_
                have h19 : bx.tmps.getD 19 undef = .bool true := hdep 19 (reads_of (by kernel_rfl)) ⟨9, _, rfl, rfl⟩
                have f19 := getD_opt h19
                have h30 : bx.tmps.getD 30 undef = .bool true := hdep 30 (reads_of (by kernel_rfl)) ⟨20, _, rfl, rfl⟩
                have f30 := getD_opt h30
                have HK := Lib.hid hK
                have HN := Lib.hid hN
                clear hK hdep hgd hfr hsz ho hN
                go_simp
                exact HK.out _ _ (fun d hd => by cases hd; exact rfl) (Nx.refl _ _ _) trivial
              · cases (show some _ = some o from ho)
                refine ite_yes (by rfl) ?_
                have h16 : bx.tmps.getD 16 undef = .bool false := hdep 16 (reads_of (by kernel_rfl)) ⟨6, _, rfl, rfl⟩
                have f16 := getD_opt h16
                have h31 : bx.tmps.getD 31 undef = .bool true := hdep 31 (reads_of (by kernel_rfl)) ⟨21, _, rfl, rfl⟩
                have f31 := getD_opt h31
                have HK := Lib.hid hK
                have HN := Lib.hid hN
                clear hK hdep hgd hfr hsz ho hN
                go_simp
                exact HK.out _ _ (fun d hd => by cases hd; exact rfl) (Nx.refl _ _ _) trivial
            · intro bx wb hsz hdf hfr hty hN hJ
              obtain ⟨tm, df⟩ := bx
              obtain rfl : df = [] := hdf
              have q0 : tm.getD 0 undef = .slice (some ⟨b, off, none⟩) n c := hfr 0 (noDst_of (by kernel_rfl))
              have q1 : tm.getD 1 undef = undef := hfr 1 (noDst_of (by kernel_rfl))
              have q3 : tm.getD 3 undef = .int .i64 k := hfr 3 (noDst_of (by kernel_rfl))
              have q33 : tm.getD 33 undef = undef := hfr 33 (noDst_of (by kernel_rfl))
              have q34 : tm.getD 34 undef = undef := hfr 34 (noDst_of (by kernel_rfl))
              have q35 : tm.getD 35 undef = undef := hfr 35 (noDst_of (by kernel_rfl))
              have q32 : tm.getD 32 undef = .bool true := hty 22 _ 32 rfl rfl
              have HNX := Lib.hid hN
              have q := lit_of tm 36 hsz
              simp only [List.range, List.range.loop, List.map, q0, q1, q3, q33, q34, q35, q32] at q
              have HQ := Lib.hid q
              clear q hsz hfr hty hN hJ q0 q1 q3 q33 q34 q35 q32
              rw [HQ.out]
              generalize tm.getD 2 undef = x2
              generalize tm.getD 4 undef = x4
              generalize tm.getD 5 undef = x5
              generalize tm.getD 6 undef = x6
              generalize tm.getD 7 undef = x7
              generalize tm.getD 8 undef = x8
              generalize tm.getD 9 undef = x9
              generalize tm.getD 10 undef = x10
              generalize tm.getD 11 undef = x11
              generalize tm.getD 12 undef = x12
              generalize tm.getD 13 undef = x13
              generalize tm.getD 14 undef = x14
              generalize tm.getD 15 undef = x15
              generalize tm.getD 16 undef = x16
              generalize tm.getD 17 undef = x17
              generalize tm.getD 18 undef = x18
              generalize tm.getD 19 undef = x19
              generalize tm.getD 20 undef = x20
              generalize tm.getD 21 undef = x21
              generalize tm.getD 22 undef = x22
              generalize tm.getD 23 undef = x23
              generalize tm.getD 24 undef = x24
              generalize tm.getD 25 undef = x25
              generalize tm.getD 26 undef = x26
              generalize tm.getD 27 undef = x27
              generalize tm.getD 28 undef = x28
              generalize tm.getD 29 undef = x29
              generalize tm.getD 30 undef = x30
              generalize tm.getD 31 undef = x31
              clear HQ
              have hB2 := below_of_nx HB.out (by omega) (by omega) HNX.out
              have HB2 := Lib.hid hB2
              clear hB2 HNX
              go_wp2_with fail
              go_ret
              exact ⟨ret_bool (fvB_bad (vAll_bad2 HZ.out hk0 HY.out (by simp [faPr, hr]))), HB2.out⟩
          · refine wp_region_typedG (wo.heap.size + 0) (wo.heap.size + 0) (fun t v _ => match t with
              | 10 => v = .slice (some ⟨b, off, none⟩) n c
              | 11 => v = .int .i64 k
              | 12 => v = .pointer (some ⟨b, off + k * 2, none⟩)
              | 13 => v = .agg #[.string z.a, .string z.b]
              | 14 => v = .bool true
              | 15 => v = .bool false
              | 16 => v = .bool false
              | 17 => v = .int .i64 k
              | 18 => v = .bool true
              | 19 => v = .bool true
              | 20 => v = .slice (some ⟨b, off, none⟩) n c
              | 21 => v = .int .i64 k
              | 22 => v = .int .i64 ((k : Int) - 1)
              | 23 => v = .pointer (some ⟨b, off + (k - 1) * 2, none⟩)
              | 24 => v = .agg #[.string y.a, .string y.b]
              | 25 => v = .slice (some ⟨b, off, none⟩) n c
              | 26 => v = .int .i64 k
              | 27 => v = .pointer (some ⟨b, off + k * 2, none⟩)
              | 28 => v = .agg #[.string z.a, .string z.b]
              | 29 => v = .bool true
              | 30 => v = .bool false
              | 31 => v = .bool false
              | 32 => v = .bool false
              | _ => True) (fun _ _ => True) (by kernel_rfl) (regOkG_of (by kernel_rfl) (by kernel_rfl)) (fun _ _ _ _ _ h => h) trivial ?_ ?_
            · intro i o cx bx wb ho hc hJ hN hsz hfr hdep hgd K hK
              have hi := (Array.getElem?_eq_some_iff.1 ho).1
              simp only [List.size_toArray, List.length_cons, List.length_nil] at hi hc
              have hcases : i = 0 ∨ i = 1 ∨ i = 2 ∨ i = 3 ∨ i = 4 ∨ i = 5 ∨ i = 6 ∨ i = 7 ∨ i = 8 ∨ i = 9 ∨ i = 10 ∨ i = 11 ∨ i = 12 ∨ i = 13 ∨ i = 14 ∨ i = 15 ∨ i = 16 ∨ i = 17 ∨ i = 18 ∨ i = 19 ∨ i = 20 ∨ i = 21 ∨ i = 22 := by omega
              rcases hcases with rfl | rfl | rfl | rfl | rfl | rfl | rfl | rfl | rfl | rfl | rfl | rfl | rfl | rfl | rfl | rfl | rfl | rfl | rfl | rfl | rfl | rfl | rfl
              · cases (show some _ = some o from ho)
                refine ite_yes (by rfl) ?_
                have h0 : bx.tmps.getD 0 undef = .slice (some ⟨b, off, none⟩) n c := hfr 0 (noDst_of (by kernel_rfl))
                have f0 := getD_opt h0
                have HK := Lib.hid hK
                have HN := Lib.hid hN
                clear hK hdep hgd hfr hsz ho hN
                go_simp
                exact HK.out _ _ (fun d hd => by cases hd; exact rfl) (Nx.refl _ _ _) trivial
              · cases (show some _ = some o from ho)
                refine ite_yes (by rfl) ?_
                have h3 : bx.tmps.getD 3 undef = .int .i64 k := hfr 3 (noDst_of (by kernel_rfl))
                have f3 := getD_opt h3
                have HK := Lib.hid hK
                have HN := Lib.hid hN
                clear hK hdep hgd hfr hsz ho hN
                go_simp
                exact HK.out _ _ (fun d hd => by cases hd; exact rfl) (Nx.refl _ _ _) trivial
              · cases (show some _ = some o from ho)
                refine ite_yes (by rfl) ?_
                have h10 : bx.tmps.getD 10 undef = .slice (some ⟨b, off, none⟩) n c := hdep 10 (reads_of (by kernel_rfl)) ⟨0, _, rfl, rfl⟩
                have f10 := getD_opt h10
                have h11 : bx.tmps.getD 11 undef = .int .i64 k := hdep 11 (reads_of (by kernel_rfl)) ⟨1, _, rfl, rfl⟩
                have f11 := getD_opt h11
                have HK := Lib.hid hK
                have HN := Lib.hid hN
                clear hK hdep hgd hfr hsz ho hN
                go_simp
                try rw [if_pos (by omega)]
                exact HK.out _ _ (fun d hd => by cases hd; exact rfl) (Nx.refl _ _ _) trivial
              · cases (show some _ = some o from ho)
                refine ite_yes (by rfl) ?_
                have h12 : bx.tmps.getD 12 undef = .pointer (some ⟨b, off + k * 2, none⟩) := hdep 12 (reads_of (by kernel_rfl)) ⟨2, _, rfl, rfl⟩
                have f12 := getD_opt h12
                have c0 := hN.cell (b := b) (o := off + k * 2) (v := .string z.a) hc0 (by omega) (by omega)
                have c1 := hN.cell (b := b) (o := off + k * 2 + 1) (v := .string z.b) hc1 (by omega) (by omega)
                have d0 := hN.cell (b := b) (o := off + (k - 1) * 2) (v := .string y.a) e0 (by omega) (by omega)
                have d1 := hN.cell (b := b) (o := off + (k - 1) * 2 + 1) (v := .string y.b) e1 (by omega) (by omega)
                have HK := Lib.hid hK
                have HN := Lib.hid hN
                clear hK hdep hgd hfr hsz ho hN
                go_simp
                exact HK.out _ _ (fun d hd => by cases hd; exact rfl) (Nx.refl _ _ _) trivial
              · cases (show some _ = some o from ho)
                refine ite_yes (by rfl) ?_
                have h13 : bx.tmps.getD 13 undef = .agg #[.string z.a, .string z.b] := hdep 13 (reads_of (by kernel_rfl)) ⟨3, _, rfl, rfl⟩
                have f13 := getD_opt h13
                have HK := Lib.hid hK
                have HN := Lib.hid hN
                clear hK hdep hgd hfr hsz ho hN
                go_simp
                refine (hd_spec z.a z.b _ HSZ.out.1 HSZ.out.2).mono ?_
                rw [hp]
                rintro e w' ⟨rfl, o1, rfl⟩
                exact HK.out _ _ (fun d hd => by cases hd; exact rfl) (nx_below (bel1 rfl)) trivial
              · cases (show some _ = some o from ho)
                refine ite_yes (by rfl) ?_
                have h14 : bx.tmps.getD 14 undef = .bool true := hdep 14 (reads_of (by kernel_rfl)) ⟨4, _, rfl, rfl⟩
                have f14 := getD_opt h14
                have HK := Lib.hid hK
                have HN := Lib.hid hN
                clear hK hdep hgd hfr hsz ho hN
                go_simp
                exact HK.out _ _ (fun d hd => by cases hd; exact rfl) (Nx.refl _ _ _) trivial
              · cases (show some _ = some o from ho)
                refine ite_yes (by rfl) ?_
                have h15 : bx.tmps.getD 15 undef = .bool false := hdep 15 (reads_of (by kernel_rfl)) ⟨5, _, rfl, rfl⟩
                have f15 := getD_opt h15
                have HK := Lib.hid hK
                have HN := Lib.hid hN
                clear hK hdep hgd hfr hsz ho hN
                go_simp
                exact HK.out _ _ (fun d hd => by cases hd; exact rfl) (Nx.refl _ _ _) trivial
              · cases (show some _ = some o from ho)
                have hg : bx.tmps.getD 16 undef = .bool false := hgd 6 false _ 16 rfl rfl rfl
                refine ite_yes ((wanted_of rfl rfl rfl hg).trans rfl) ?_
                have h3 : bx.tmps.getD 3 undef = .int .i64 k := hfr 3 (noDst_of (by kernel_rfl))
                have f3 := getD_opt h3
                have HK := Lib.hid hK
                have HN := Lib.hid hN
                clear hK hdep hgd hfr hsz ho hN
                go_simp
                exact HK.out _ _ (fun d hd => by cases hd; exact rfl) (Nx.refl _ _ _) trivial
              · cases (show some _ = some o from ho)
                have hg : bx.tmps.getD 16 undef = .bool false := hgd 6 false _ 16 rfl rfl rfl
                refine ite_yes ((wanted_of rfl rfl rfl hg).trans rfl) ?_
                have h17 : bx.tmps.getD 17 undef = .int .i64 k := hdep 17 (reads_of (by kernel_rfl)) ⟨7, _, rfl, rfl⟩
                have f17 := getD_opt h17
                have HK := Lib.hid hK
                have HN := Lib.hid hN
                clear hK hdep hgd hfr hsz ho hN
                go_simp
                exact HK.out _ _ (fun d hd => by cases hd; exact rfl) (Nx.refl _ _ _) trivial
              · cases (show some _ = some o from ho)
                have hg : bx.tmps.getD 16 undef = .bool false := hgd 6 false _ 16 rfl rfl rfl
                refine ite_yes ((wanted_of rfl rfl rfl hg).trans rfl) ?_
                have h18 : bx.tmps.getD 18 undef = .bool true := hdep 18 (reads_of (by kernel_rfl)) ⟨8, _, rfl, rfl⟩
                have f18 := getD_opt h18
                have HK := Lib.hid hK
                have HN := Lib.hid hN
                clear hK hdep hgd hfr hsz ho hN
                go_simp
                exact HK.out _ _ (fun d hd => by cases hd; exact rfl) (Nx.refl _ _ _) trivial
              · cases (show some _ = some o from ho)
                have hg : bx.tmps.getD 19 undef = .bool true := hgd 9 true _ 19 rfl rfl rfl
                refine ite_yes ((wanted_of rfl rfl rfl hg).trans rfl) ?_
                have h0 : bx.tmps.getD 0 undef = .slice (some ⟨b, off, none⟩) n c := hfr 0 (noDst_of (by kernel_rfl))
                have f0 := getD_opt h0
                have HK := Lib.hid hK
                have HN := Lib.hid hN
                clear hK hdep hgd hfr hsz ho hN
                go_simp
                exact HK.out _ _ (fun d hd => by cases hd; exact rfl) (Nx.refl _ _ _) trivial
              · cases (show some _ = some o from ho)
                have hg : bx.tmps.getD 19 undef = .bool true := hgd 9 true _ 19 rfl rfl rfl
                refine ite_yes ((wanted_of rfl rfl rfl hg).trans rfl) ?_
                have h3 : bx.tmps.getD 3 undef = .int .i64 k := hfr 3 (noDst_of (by kernel_rfl))
                have f3 := getD_opt h3
                have HK := Lib.hid hK
                have HN := Lib.hid hN
                clear hK hdep hgd hfr hsz ho hN
                go_simp
                exact HK.out _ _ (fun d hd => by cases hd; exact rfl) (Nx.refl _ _ _) trivial
              · cases (show some _ = some o from ho)
                have hg : bx.tmps.getD 19 undef = .bool true := hgd 9 true _ 19 rfl rfl rfl
                refine ite_yes ((wanted_of rfl rfl rfl hg).trans rfl) ?_
                have h21 : bx.tmps.getD 21 undef = .int .i64 k := hdep 21 (reads_of (by kernel_rfl)) ⟨11, _, rfl, rfl⟩
                have f21 := getD_opt h21
                have HK := Lib.hid hK
                have HN := Lib.hid hN
                clear hK hdep hgd hfr hsz ho hN
                go_simp
                exact HK.out _ _ (fun d hd => by cases hd; exact rfl) (Nx.refl _ _ _) trivial
              · cases (show some _ = some o from ho)
                have hg : bx.tmps.getD 19 undef = .bool true := hgd 9 true _ 19 rfl rfl rfl
                refine ite_yes ((wanted_of rfl rfl rfl hg).trans rfl) ?_
                have h20 : bx.tmps.getD 20 undef = .slice (some ⟨b, off, none⟩) n c := hdep 20 (reads_of (by kernel_rfl)) ⟨10, _, rfl, rfl⟩
                have f20 := getD_opt h20
                have h22 : bx.tmps.getD 22 undef = .int .i64 ((k : Int) - 1) := hdep 22 (reads_of (by kernel_rfl)) ⟨12, _, rfl, rfl⟩
                have f22 := getD_opt h22
                have HK := Lib.hid hK
                have HN := Lib.hid hN
                clear hK hdep hgd hfr hsz ho hN
                go_simp
                try rw [if_pos (by omega)]
                exact HK.out _ _ (fun d hd => by cases hd; exact rfl) (Nx.refl _ _ _) trivial
              · cases (show some _ = some o from ho)
                have hg : bx.tmps.getD 19 undef = .bool true := hgd 9 true _ 19 rfl rfl rfl
                refine ite_yes ((wanted_of rfl rfl rfl hg).trans rfl) ?_
                have h23 : bx.tmps.getD 23 undef = .pointer (some ⟨b, off + (k - 1) * 2, none⟩) := hdep 23 (reads_of (by kernel_rfl)) ⟨13, _, rfl, rfl⟩
                have f23 := getD_opt h23
                have c0 := hN.cell (b := b) (o := off + k * 2) (v := .string z.a) hc0 (by omega) (by omega)
                have c1 := hN.cell (b := b) (o := off + k * 2 + 1) (v := .string z.b) hc1 (by omega) (by omega)
                have d0 := hN.cell (b := b) (o := off + (k - 1) * 2) (v := .string y.a) e0 (by omega) (by omega)
                have d1 := hN.cell (b := b) (o := off + (k - 1) * 2 + 1) (v := .string y.b) e1 (by omega) (by omega)
                have HK := Lib.hid hK
                have HN := Lib.hid hN
                clear hK hdep hgd hfr hsz ho hN
                go_simp
                exact HK.out _ _ (fun d hd => by cases hd; exact rfl) (Nx.refl _ _ _) trivial
              · cases (show some _ = some o from ho)
                have hg : bx.tmps.getD 19 undef = .bool true := hgd 9 true _ 19 rfl rfl rfl
                refine ite_yes ((wanted_of rfl rfl rfl hg).trans rfl) ?_
                have h0 : bx.tmps.getD 0 undef = .slice (some ⟨b, off, none⟩) n c := hfr 0 (noDst_of (by kernel_rfl))
                have f0 := getD_opt h0
                have HK := Lib.hid hK
                have HN := Lib.hid hN
                clear hK hdep hgd hfr hsz ho hN
                go_simp
                exact HK.out _ _ (fun d hd => by cases hd; exact rfl) (Nx.refl _ _ _) trivial
              · cases (show some _ = some o from ho)
                have hg : bx.tmps.getD 19 undef = .bool true := hgd 9 true _ 19 rfl rfl rfl
                refine ite_yes ((wanted_of rfl rfl rfl hg).trans rfl) ?_
                have h3 : bx.tmps.getD 3 undef = .int .i64 k := hfr 3 (noDst_of (by kernel_rfl))
                have f3 := getD_opt h3
                have HK := Lib.hid hK
                have HN := Lib.hid hN
                clear hK hdep hgd hfr hsz ho hN
                go_simp
                exact HK.out _ _ (fun d hd => by cases hd; exact rfl) (Nx.refl _ _ _) trivial
              · cases (show some _ = some o from ho)
                have hg : bx.tmps.getD 19 undef = .bool true := hgd 9 true _ 19 rfl rfl rfl
                refine ite_yes ((wanted_of rfl rfl rfl hg).trans rfl) ?_
                have h25 : bx.tmps.getD 25 undef = .slice (some ⟨b, off, none⟩) n c := hdep 25 (reads_of (by kernel_rfl)) ⟨15, _, rfl, rfl⟩
                have f25 := getD_opt h25
                have h26 : bx.tmps.getD 26 undef = .int .i64 k := hdep 26 (reads_of (by kernel_rfl)) ⟨16, _, rfl, rfl⟩
                have f26 := getD_opt h26
                have HK := Lib.hid hK
                have HN := Lib.hid hN
                clear hK hdep hgd hfr hsz ho hN
                go_simp
                try rw [if_pos (by omega)]
                exact HK.out _ _ (fun d hd => by cases hd; exact rfl) (Nx.refl _ _ _) trivial
              · cases (show some _ = some o from ho)
                have hg : bx.tmps.getD 19 undef = .bool true := hgd 9 true _ 19 rfl rfl rfl
                refine ite_yes ((wanted_of rfl rfl rfl hg).trans rfl) ?_
                have h27 : bx.tmps.getD 27 undef = .pointer (some ⟨b, off + k * 2, none⟩) := hdep 27 (reads_of (by kernel_rfl)) ⟨17, _, rfl, rfl⟩
                have f27 := getD_opt h27
                have c0 := hN.cell (b := b) (o := off + k * 2) (v := .string z.a) hc0 (by omega) (by omega)
                have c1 := hN.cell (b := b) (o := off + k * 2 + 1) (v := .string z.b) hc1 (by omega) (by omega)
                have d0 := hN.cell (b := b) (o := off + (k - 1) * 2) (v := .string y.a) e0 (by omega) (by omega)
                have d1 := hN.cell (b := b) (o := off + (k - 1) * 2 + 1) (v := .string y.b) e1 (by omega) (by omega)
                have HK := Lib.hid hK
                have HN := Lib.hid hN
                clear hK hdep hgd hfr hsz ho hN
                go_simp
                exact HK.out _ _ (fun d hd => by cases hd; exact rfl) (Nx.refl _ _ _) trivial
              · cases (show some _ = some o from ho)
                have hg : bx.tmps.getD 19 undef = .bool true := hgd 9 true _ 19 rfl rfl rfl
                refine ite_yes ((wanted_of rfl rfl rfl hg).trans rfl) ?_
                have h24 : bx.tmps.getD 24 undef = .agg #[.string y.a, .string y.b] := hdep 24 (reads_of (by kernel_rfl)) ⟨14, _, rfl, rfl⟩
                have f24 := getD_opt h24
                have h28 : bx.tmps.getD 28 undef = .agg #[.string z.a, .string z.b] := hdep 28 (reads_of (by kernel_rfl)) ⟨18, _, rfl, rfl⟩
                have f28 := getD_opt h28
                have HK := Lib.hid hK
                have HN := Lib.hid hN
                clear hK hdep hgd hfr hsz ho hN
                go_simp
                refine (hb_spec y z _).mono ?_
                rw [hr]
                rintro e w' ⟨rfl, o1, o2, rfl⟩
                exact HK.out _ _ (fun d hd => by cases hd; exact rfl) (nx_below (bel2 rfl)) trivial
              · cases (show some _ = some o from ho)
                have hg : bx.tmps.getD 19 undef = .bool true := hgd 9 true _ 19 rfl rfl rfl
                refine ite_yes ((wanted_of rfl rfl rfl hg).trans rfl) ?_
                have h29 : bx.tmps.getD 29 undef = .bool true := hdep 29 (reads_of (by kernel_rfl)) ⟨19, _, rfl, rfl⟩
                have f29 := getD_opt h29
                have HK := Lib.hid hK
                have HN := Lib.hid hN
                clear hK hdep hgd hfr hsz ho hN
                go_simp
                exact HK.out _ _ (fun d hd => by cases hd; exact rfl) (Nx.refl _ _ _) trivial
              · cases (show some _ = some o from ho)
                have hg : bx.tmps.getD 16 undef = .bool false := hgd 6 false _ 16 rfl rfl rfl
                refine ite_yes ((wanted_of rfl rfl rfl hg).trans rfl) ?_
                have h19 : bx.tmps.getD 19 undef = .bool true := hdep 19 (reads_of (by kernel_rfl)) ⟨9, _, rfl, rfl⟩
                have f19 := getD_opt h19
                have h30 : bx.tmps.getD 30 undef = .bool false := hdep 30 (reads_of (by kernel_rfl)) ⟨20, _, rfl, rfl⟩
                have f30 := getD_opt h30
                have HK := Lib.hid hK
                have HN := Lib.hid hN
                clear hK hdep hgd hfr hsz ho hN
                go_simp
                exact HK.out _ _ (fun d hd => by cases hd; exact rfl) (Nx.refl _ _ _) trivial
              · cases (show some _ = some o from ho)
                refine ite_yes (by rfl) ?_
                have h16 : bx.tmps.getD 16 undef = .bool false := hdep 16 (reads_of (by kernel_rfl)) ⟨6, _, rfl, rfl⟩
                have f16 := getD_opt h16
                have h31 : bx.tmps.getD 31 undef = .bool false := hdep 31 (reads_of (by kernel_rfl)) ⟨21, _, rfl, rfl⟩
                have f31 := getD_opt h31
                have HK := Lib.hid hK
                have HN := Lib.hid hN
                clear hK hdep hgd hfr hsz ho hN
                go_simp
                exact HK.out _ _ (fun d hd => by cases hd; exact rfl) (Nx.refl _ _ _) trivial
            · intro bx wb hsz hdf hfr hty hN hJ
              obtain ⟨tm, df⟩ := bx
              obtain rfl : df = [] := hdf
              have q0 : tm.getD 0 undef = .slice (some ⟨b, off, none⟩) n c := hfr 0 (noDst_of (by kernel_rfl))
              have q1 : tm.getD 1 undef = undef := hfr 1 (noDst_of (by kernel_rfl))
              have q3 : tm.getD 3 undef = .int .i64 k := hfr 3 (noDst_of (by kernel_rfl))
              have q33 : tm.getD 33 undef = undef := hfr 33 (noDst_of (by kernel_rfl))
              have q34 : tm.getD 34 undef = undef := hfr 34 (noDst_of (by kernel_rfl))
              have q35 : tm.getD 35 undef = undef := hfr 35 (noDst_of (by kernel_rfl))
              have q32 : tm.getD 32 undef = .bool false := hty 22 _ 32 rfl rfl
              have HNX := Lib.hid hN
              have q := lit_of tm 36 hsz
              simp only [List.range, List.range.loop, List.map, q0, q1, q3, q33, q34, q35, q32] at q
              have HQ := Lib.hid q
              clear q hsz hfr hty hN hJ q0 q1 q3 q33 q34 q35 q32
              rw [HQ.out]
              generalize tm.getD 2 undef = x2
              generalize tm.getD 4 undef = x4
              generalize tm.getD 5 undef = x5
              generalize tm.getD 6 undef = x6
              generalize tm.getD 7 undef = x7
              generalize tm.getD 8 undef = x8
              generalize tm.getD 9 undef = x9
              generalize tm.getD 10 undef = x10
              generalize tm.getD 11 undef = x11
              generalize tm.getD 12 undef = x12
              generalize tm.getD 13 undef = x13
              generalize tm.getD 14 undef = x14
              generalize tm.getD 15 undef = x15
              generalize tm.getD 16 undef = x16
              generalize tm.getD 17 undef = x17
              generalize tm.getD 18 undef = x18
              generalize tm.getD 19 undef = x19
              generalize tm.getD 20 undef = x20
              generalize tm.getD 21 undef = x21
              generalize tm.getD 22 undef = x22
              generalize tm.getD 23 undef = x23
              generalize tm.getD 24 undef = x24
              generalize tm.getD 25 undef = x25
              generalize tm.getD 26 undef = x26
              generalize tm.getD 27 undef = x27
              generalize tm.getD 28 undef = x28
              generalize tm.getD 29 undef = x29
              generalize tm.getD 30 undef = x30
              generalize tm.getD 31 undef = x31
              clear HQ
              have hB2 := below_of_nx HB.out (by omega) (by omega) HNX.out
              have HB2 := Lib.hid hB2
              clear hB2 HNX
              go_wp2_with fail
              go_roundw
              case rel => exact ⟨k + 1, by omega, by go_num, VTo_succ HV.out (vOk_mk HZ.out hp (fun y' _ hy' => by rw [HY.out] at hy'; injection hy' with hy'; subst hy'; simp [faPr, hr]) (NTo_no l z k)), HB2.out⟩
              case measure => simp [intOf]; omega
        · have hd0 : decide (0 < k) = false := by simp; omega
          refine wp_region_typedG (wo.heap.size + 0) (wo.heap.size + 0) (fun t v _ => match t with
            | 10 => v = .slice (some ⟨b, off, none⟩) n c
            | 11 => v = .int .i64 k
            | 12 => v = .pointer (some ⟨b, off + k * 2, none⟩)
            | 13 => v = .agg #[.string z.a, .string z.b]
            | 14 => v = .bool true
            | 15 => v = .bool false
            | 16 => v = .bool false
            | 17 => v = .int .i64 k
            | 18 => v = .bool false
            | 19 => v = .bool false
            | 20 => v = undef
            | 21 => v = undef
            | 22 => v = undef
            | 23 => v = undef
            | 24 => v = undef
            | 25 => v = undef
            | 26 => v = undef
            | 27 => v = undef
            | 28 => v = undef
            | 29 => v = undef
            | 30 => v = undef
            | 31 => v = .bool false
            | 32 => v = .bool false
            | _ => True) (fun _ _ => True) (by kernel_rfl) (regOkG_of (by kernel_rfl) (by kernel_rfl)) (fun _ _ _ _ _ h => h) trivial ?_ ?_
          · intro i o cx bx wb ho hc hJ hN hsz hfr hdep hgd K hK
            have hi := (Array.getElem?_eq_some_iff.1 ho).1
            simp only [List.size_toArray, List.length_cons, List.length_nil] at hi hc
            have hcases : i = 0 ∨ i = 1 ∨ i = 2 ∨ i = 3 ∨ i = 4 ∨ i = 5 ∨ i = 6 ∨ i = 7 ∨ i = 8 ∨ i = 9 ∨ i = 10 ∨ i = 11 ∨ i = 12 ∨ i = 13 ∨ i = 14 ∨ i = 15 ∨ i = 16 ∨ i = 17 ∨ i = 18 ∨ i = 19 ∨ i = 20 ∨ i = 21 ∨ i = 22 := by omega
            rcases hcases with rfl | rfl | rfl | rfl | rfl | rfl | rfl | rfl | rfl | rfl | rfl | rfl | rfl | rfl | rfl | rfl | rfl | rfl | rfl | rfl | rfl | rfl | rfl
            · cases (show some _ = some o from ho)
              refine ite_yes (by rfl) ?_
              have h0 : bx.tmps.getD 0 undef = .slice (some ⟨b, off, none⟩) n c := hfr 0 (noDst_of (by kernel_rfl))
              have f0 := getD_opt h0
              have HK := Lib.hid hK
              have HN := Lib.hid hN
              clear hK hdep hgd hfr hsz ho hN
              go_simp
              exact HK.out _ _ (fun d hd => by cases hd; exact rfl) (Nx.refl _ _ _) trivial
            · cases (show some _ = some o from ho)
              refine ite_yes (by rfl) ?_
              have h3 : bx.tmps.getD 3 undef = .int .i64 k := hfr 3 (noDst_of (by kernel_rfl))
              have f3 := getD_opt h3
              have HK := Lib.hid hK
              have HN := Lib.hid hN
              clear hK hdep hgd hfr hsz ho hN
              go_simp
              exact HK.out _ _ (fun d hd => by cases hd; exact rfl) (Nx.refl _ _ _) trivial
            · cases (show some _ = some o from ho)
              refine ite_yes (by rfl) ?_
              have h10 : bx.tmps.getD 10 undef = .slice (some ⟨b, off, none⟩) n c := hdep 10 (reads_of (by kernel_rfl)) ⟨0, _, rfl, rfl⟩
              have f10 := getD_opt h10
              have h11 : bx.tmps.getD 11 undef = .int .i64 k := hdep 11 (reads_of (by kernel_rfl)) ⟨1, _, rfl, rfl⟩
              have f11 := getD_opt h11
              have HK := Lib.hid hK
              have HN := Lib.hid hN
              clear hK hdep hgd hfr hsz ho hN
              go_simp
              try rw [if_pos (by omega)]
              exact HK.out _ _ (fun d hd => by cases hd; exact rfl) (Nx.refl _ _ _) trivial
            · cases (show some _ = some o from ho)
              refine ite_yes (by rfl) ?_
              have h12 : bx.tmps.getD 12 undef = .pointer (some ⟨b, off + k * 2, none⟩) := hdep 12 (reads_of (by kernel_rfl)) ⟨2, _, rfl, rfl⟩
              have f12 := getD_opt h12
              have c0 := hN.cell (b := b) (o := off + k * 2) (v := .string z.a) hc0 (by omega) (by omega)
              have c1 := hN.cell (b := b) (o := off + k * 2 + 1) (v := .string z.b) hc1 (by omega) (by omega)
              have HK := Lib.hid hK
              have HN := Lib.hid hN
              clear hK hdep hgd hfr hsz ho hN
              go_simp
              exact HK.out _ _ (fun d hd => by cases hd; exact rfl) (Nx.refl _ _ _) trivial
            · cases (show some _ = some o from ho)
              refine ite_yes (by rfl) ?_
              have h13 : bx.tmps.getD 13 undef = .agg #[.string z.a, .string z.b] := hdep 13 (reads_of (by kernel_rfl)) ⟨3, _, rfl, rfl⟩
              have f13 := getD_opt h13
              have HK := Lib.hid hK
              have HN := Lib.hid hN
              clear hK hdep hgd hfr hsz ho hN
              go_simp
              refine (hd_spec z.a z.b _ HSZ.out.1 HSZ.out.2).mono ?_
              rw [hp]
              rintro e w' ⟨rfl, o1, rfl⟩
              exact HK.out _ _ (fun d hd => by cases hd; exact rfl) (nx_below (bel1 rfl)) trivial
            · cases (show some _ = some o from ho)
              refine ite_yes (by rfl) ?_
              have h14 : bx.tmps.getD 14 undef = .bool true := hdep 14 (reads_of (by kernel_rfl)) ⟨4, _, rfl, rfl⟩
              have f14 := getD_opt h14
              have HK := Lib.hid hK
              have HN := Lib.hid hN
              clear hK hdep hgd hfr hsz ho hN
              go_simp
              exact HK.out _ _ (fun d hd => by cases hd; exact rfl) (Nx.refl _ _ _) trivial
            · cases (show some _ = some o from ho)
              refine ite_yes (by rfl) ?_
              have h15 : bx.tmps.getD 15 undef = .bool false := hdep 15 (reads_of (by kernel_rfl)) ⟨5, _, rfl, rfl⟩
              have f15 := getD_opt h15
              have HK := Lib.hid hK
              have HN := Lib.hid hN
              clear hK hdep hgd hfr hsz ho hN
              go_simp
              exact HK.out _ _ (fun d hd => by cases hd; exact rfl) (Nx.refl _ _ _) trivial
            · cases (show some _ = some o from ho)
              have hg : bx.tmps.getD 16 undef = .bool false := hgd 6 false _ 16 rfl rfl rfl
              refine ite_yes ((wanted_of rfl rfl rfl hg).trans rfl) ?_
              have h3 : bx.tmps.getD 3 undef = .int .i64 k := hfr 3 (noDst_of (by kernel_rfl))
              have f3 := getD_opt h3
              have HK := Lib.hid hK
              have HN := Lib.hid hN
              clear hK hdep hgd hfr hsz ho hN
              go_simp
              exact HK.out _ _ (fun d hd => by cases hd; exact rfl) (Nx.refl _ _ _) trivial
            · cases (show some _ = some o from ho)
              have hg : bx.tmps.getD 16 undef = .bool false := hgd 6 false _ 16 rfl rfl rfl
              refine ite_yes ((wanted_of rfl rfl rfl hg).trans rfl) ?_
              have h17 : bx.tmps.getD 17 undef = .int .i64 k := hdep 17 (reads_of (by kernel_rfl)) ⟨7, _, rfl, rfl⟩
              have f17 := getD_opt h17
              have HK := Lib.hid hK
              have HN := Lib.hid hN
              clear hK hdep hgd hfr hsz ho hN
              go_simp
              exact HK.out _ _ (fun d hd => by cases hd; exact rfl) (Nx.refl _ _ _) trivial
            · cases (show some _ = some o from ho)
              have hg : bx.tmps.getD 16 undef = .bool false := hgd 6 false _ 16 rfl rfl rfl
              refine ite_yes ((wanted_of rfl rfl rfl hg).trans rfl) ?_
              have h18 : bx.tmps.getD 18 undef = .bool false := hdep 18 (reads_of (by kernel_rfl)) ⟨8, _, rfl, rfl⟩
              have f18 := getD_opt h18
              have HK := Lib.hid hK
              have HN := Lib.hid hN
              clear hK hdep hgd hfr hsz ho hN
              go_simp
              exact HK.out _ _ (fun d hd => by cases hd; exact rfl) (Nx.refl _ _ _) trivial
            · cases (show some _ = some o from ho)
              have hg : bx.tmps.getD 19 undef = .bool false := hgd 9 true _ 19 rfl rfl rfl
              refine ite_no ((wanted_of rfl rfl rfl hg).trans rfl) ?_
              exact hK undef _ (fun d hd => by cases hd; exact rfl) (Nx.refl _ _ _) trivial
            · cases (show some _ = some o from ho)
              have hg : bx.tmps.getD 19 undef = .bool false := hgd 9 true _ 19 rfl rfl rfl
              refine ite_no ((wanted_of rfl rfl rfl hg).trans rfl) ?_
              exact hK undef _ (fun d hd => by cases hd; exact rfl) (Nx.refl _ _ _) trivial
            · cases (show some _ = some o from ho)
              have hg : bx.tmps.getD 19 undef = .bool false := hgd 9 true _ 19 rfl rfl rfl
              refine ite_no ((wanted_of rfl rfl rfl hg).trans rfl) ?_
              exact hK undef _ (fun d hd => by cases hd; exact rfl) (Nx.refl _ _ _) trivial
            · cases (show some _ = some o from ho)
              have hg : bx.tmps.getD 19 undef = .bool false := hgd 9 true _ 19 rfl rfl rfl
              refine ite_no ((wanted_of rfl rfl rfl hg).trans rfl) ?_
              exact hK undef _ (fun d hd => by cases hd; exact rfl) (Nx.refl _ _ _) trivial
            · cases (show some _ = some o from ho)
              have hg : bx.tmps.getD 19 undef = .bool false := hgd 9 true _ 19 rfl rfl rfl
              refine ite_no ((wanted_of rfl rfl rfl hg).trans rfl) ?_
              exact hK undef _ (fun d hd => by cases hd; exact rfl) (Nx.refl _ _ _) trivial
            · cases (show some _ = some o from ho)
              have hg : bx.tmps.getD 19 undef = .bool false := hgd 9 true _ 19 rfl rfl rfl
              refine ite_no ((wanted_of rfl rfl rfl hg).trans rfl) ?_
              exact hK undef _ (fun d hd => by cases hd; exact rfl) (Nx.refl _ _ _) trivial
            · cases (show some _ = some o from ho)
              have hg : bx.tmps.getD 19 undef = .bool false := hgd 9 true _ 19 rfl rfl rfl
              refine ite_no ((wanted_of rfl rfl rfl hg).trans rfl) ?_
              exact hK undef _ (fun d hd => by cases hd; exact rfl) (Nx.refl _ _ _) trivial
            · cases (show some _ = some o from ho)
              have hg : bx.tmps.getD 19 undef = .bool false := hgd 9 true _ 19 rfl rfl rfl
              refine ite_no ((wanted_of rfl rfl rfl hg).trans rfl) ?_
              exact hK undef _ (fun d hd => by cases hd; exact rfl) (Nx.refl _ _ _) trivial
            · cases (show some _ = some o from ho)
              have hg : bx.tmps.getD 19 undef = .bool false := hgd 9 true _ 19 rfl rfl rfl
              refine ite_no ((wanted_of rfl rfl rfl hg).trans rfl) ?_
              exact hK undef _ (fun d hd => by cases hd; exact rfl) (Nx.refl _ _ _) trivial
            · cases (show some _ = some o from ho)
              have hg : bx.tmps.getD 19 undef = .bool false := hgd 9 true _ 19 rfl rfl rfl
              refine ite_no ((wanted_of rfl rfl rfl hg).trans rfl) ?_
              exact hK undef _ (fun d hd => by cases hd; exact rfl) (Nx.refl _ _ _) trivial
            · cases (show some _ = some o from ho)
              have hg : bx.tmps.getD 19 undef = .bool false := hgd 9 true _ 19 rfl rfl rfl
              refine ite_no ((wanted_of rfl rfl rfl hg).trans rfl) ?_
              exact hK undef _ (fun d hd => by cases hd; exact rfl) (Nx.refl _ _ _) trivial
            · cases (show some _ = some o from ho)
              have hg : bx.tmps.getD 16 undef = .bool false := hgd 6 false _ 16 rfl rfl rfl
              refine ite_yes ((wanted_of rfl rfl rfl hg).trans rfl) ?_
              have h19 : bx.tmps.getD 19 undef = .bool false := hdep 19 (reads_of (by kernel_rfl)) ⟨9, _, rfl, rfl⟩
              have f19 := getD_opt h19
              have h30 : bx.tmps.getD 30 undef = undef := hdep 30 (reads_of (by kernel_rfl)) ⟨20, _, rfl, rfl⟩
              have HK := Lib.hid hK
              have HN := Lib.hid hN
              clear hK hdep hgd hfr hsz ho hN
              go_simp
              exact HK.out _ _ (fun d hd => by cases hd; exact rfl) (Nx.refl _ _ _) trivial
            · cases (show some _ = some o from ho)
              refine ite_yes (by rfl) ?_
              have h16 : bx.tmps.getD 16 undef = .bool false := hdep 16 (reads_of (by kernel_rfl)) ⟨6, _, rfl, rfl⟩
              have f16 := getD_opt h16
              have h31 : bx.tmps.getD 31 undef = .bool false := hdep 31 (reads_of (by kernel_rfl)) ⟨21, _, rfl, rfl⟩
              have f31 := getD_opt h31
              have HK := Lib.hid hK
              have HN := Lib.hid hN
              clear hK hdep hgd hfr hsz ho hN
              go_simp
              exact HK.out _ _ (fun d hd => by cases hd; exact rfl) (Nx.refl _ _ _) trivial
          · intro bx wb hsz hdf hfr hty hN hJ
            obtain ⟨tm, df⟩ := bx
            obtain rfl : df = [] := hdf
            have q0 : tm.getD 0 undef = .slice (some ⟨b, off, none⟩) n c := hfr 0 (noDst_of (by kernel_rfl))
            have q1 : tm.getD 1 undef = undef := hfr 1 (noDst_of (by kernel_rfl))
            have q3 : tm.getD 3 undef = .int .i64 k := hfr 3 (noDst_of (by kernel_rfl))
            have q33 : tm.getD 33 undef = undef := hfr 33 (noDst_of (by kernel_rfl))
            have q34 : tm.getD 34 undef = undef := hfr 34 (noDst_of (by kernel_rfl))
            have q35 : tm.getD 35 undef = undef := hfr 35 (noDst_of (by kernel_rfl))
            have q32 : tm.getD 32 undef = .bool false := hty 22 _ 32 rfl rfl
            have HNX := Lib.hid hN
            have q := lit_of tm 36 hsz
            simp only [List.range, List.range.loop, List.map, q0, q1, q3, q33, q34, q35, q32] at q
            have HQ := Lib.hid q
            clear q hsz hfr hty hN hJ q0 q1 q3 q33 q34 q35 q32
            rw [HQ.out]
            generalize tm.getD 2 undef = x2
            generalize tm.getD 4 undef = x4
            generalize tm.getD 5 undef = x5
            generalize tm.getD 6 undef = x6
            generalize tm.getD 7 undef = x7
            generalize tm.getD 8 undef = x8
            generalize tm.getD 9 undef = x9
            generalize tm.getD 10 undef = x10
            generalize tm.getD 11 undef = x11
            generalize tm.getD 12 undef = x12
            generalize tm.getD 13 undef = x13
            generalize tm.getD 14 undef = x14
            generalize tm.getD 15 undef = x15
            generalize tm.getD 16 undef = x16
            generalize tm.getD 17 undef = x17
            generalize tm.getD 18 undef = x18
            generalize tm.getD 19 undef = x19
            generalize tm.getD 20 undef = x20
            generalize tm.getD 21 undef = x21
            generalize tm.getD 22 undef = x22
            generalize tm.getD 23 undef = x23
            generalize tm.getD 24 undef = x24
            generalize tm.getD 25 undef = x25
            generalize tm.getD 26 undef = x26
            generalize tm.getD 27 undef = x27
            generalize tm.getD 28 undef = x28
            generalize tm.getD 29 undef = x29
            generalize tm.getD 30 undef = x30
            generalize tm.getD 31 undef = x31
            clear HQ
            have hB2 := below_of_nx HB.out (by omega) (by omega) HNX.out
            have HB2 := Lib.hid hB2
            clear hB2 HNX
            go_wp2_with fail
            go_roundw
            case rel => exact ⟨k + 1, by omega, by go_num, VTo_succ HV.out (vOk_mk HZ.out hp (fun _ h0 _ => absurd h0 hk0) (NTo_no l z k)), HB2.out⟩
            case measure => simp [intOf]; omega
    · obtain rfl : k = n := by omega
      have HV := Lib.hid hv; have HB := Lib.hid hb
      have hG := fvB_good (l := l) (by rw [HLL.out]; exact HV.out)
      rw [HLL.out] at hG
      have HG := Lib.hid hG
      clear hv hb hG
      go_wp2
      go_ret
      exact ⟨ret_bool (by rw [← HG.out]; simp; omega), HB.out⟩
end Go.Proofs.YtpbnbekkmifbpaaDoor
