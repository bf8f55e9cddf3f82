/-
  The drawing of hosts: 'l20Host'.
-/
import Derived.Test.YtkdpambhdjinjaaSlotHost
import Derived.Deep.DeepCutAuto
namespace Go.Proofs.Ytkdpambhdjinjaa
open Go.ChangeShapes Go.WideShapes Go.ChangeAt Go.RowKit Go.Joins
set_option linter.unusedVariables false
variable {L : Nat}

theorem hostSm_red : hostSm ⟨#[114, 101, 100]⟩ 0 0 := by unfold hostSm; exact ⟨by decide, by omega, by omega⟩

def l20hT (y : Int) (R : Nat) (t : Tmp) (v : Value) (w : World) : Prop :=
  match t with
  | 17 => tSv v
  | 18 => v = .int .i64 y
  | 19 => tP R v
  | 20 => tI 0 3 v
  | 21 => tB v
  | 22 => tSv v
  | _ => True
theorem l20hT_keep (y : Int) (R S : Nat) (t : Tmp) (v : Value) (w w' : World) (hN : Nx R S w w') (h : l20hT y R t v w) : l20hT y R t v w' := by
  unfold l20hT at h ⊢
  split at h <;> first | exact h | trivial

set_option maxHeartbeats 4000000 in
theorem l20h_any (w : World) (R q : Nat) (n : Int) (h : Rdr w L R q) (hq : q ≤ 1000) (hn : n ≤ 1000000) :
    Calls Try.prog 35 #[.pointer (some ⟨R, 0, none⟩), .int .i64 n] w fun e w' => ∃ (s : ByteArray) (f u : Int), e = .returned (sv s f u) ∧ hostSm s f u ∧ w.grownBy w' (some R) ∧ Rdr w' L R (q + 100) := by
  have H := Lib.hid h; clear h
  have hR := rdr_lt H.out
  have hn0 : ¬ w.heap.size = R := by omega
  have hn1 : ¬ w.heap.size + 1 = R := by omega
  have hR1 : R < w.heap.size + 1 := by omega
  go_enter Try.func35, Try.ntmps35
  go_wp2_with fail
  refine (pick_any _ _ q _ (rdr_alloc (rdr_alloc H.out _) _) (by omega)).mono ?_
  rintro e w1 ⟨k1, rfl, hk1, hg, hr⟩
  have H1 := Lib.hid hr
  have S1 : Hid (SlotSv w1 (w.heap.size + 1)) := Lib.hid (jslot_grown (by simpa using slotSv_mk (w := w.alloc (.cells #[.string ⟨#[]⟩, .int .i64 0, .int .i64 0] 26)) hostSm_red) hg (Ne.symm hn1))
  have Z1 : Hid (SlotSv w1 w.heap.size) := Lib.hid (jslot_grown (jslot_alloc slotSv_new _) hg (Ne.symm hn0))
  have G1 : Hid (w.grownBy w1 (some R)) := Lib.hid (grown_trans' (only_alloc (World.grownBy_alloc w _ _) _) hg)
  clear hr hg
  go_wp2_with fail
  refine (pick_any _ _ (q + 1) _ H1.out (by omega)).mono ?_
  rintro e w2 ⟨k2, rfl, hk2, hg, hr⟩
  have H2 := Lib.hid hr
  have S2 : Hid (SlotSv w2 (w.heap.size + 1)) := Lib.hid (jslot_grown S1.out hg (Ne.symm hn1))
  have Z2 : Hid (SlotSv w2 w.heap.size) := Lib.hid (jslot_grown Z1.out hg (Ne.symm hn0))
  have G2 : Hid (w.grownBy w2 (some R)) := Lib.hid (grown_trans' G1.out hg)
  clear hr hg S1 Z1 G1 H1
  go_wp2_with fail
  go_loopw [6, 7] (fun x k wr => ∃ (y : Int) (j : Nat), x = .int .i64 y ∧ k = .int .i64 j ∧ j ≤ 6 ∧ (0 ≤ y ∧ y + 200 * j ≤ 1300) ∧ (∃ p, p + 10 * j ≤ q + 62 ∧ Rdr wr L R p) ∧ SlotSv wr (w.heap.size + 1) ∧ SlotSv wr w.heap.size ∧ w.grownBy wr (some R)) (fun _ k _ => (intOf k).toNat)
  case atStart => exact ⟨_, k2, rfl, rfl, by omega, by omega, ⟨_, by omega, H2.out⟩, S2.out, Z2.out, G2.out⟩
  case round =>
    obtain ⟨y, j, rfl, rfl, hj, hy, ⟨p, hp, hr⟩, hs, hz, hg⟩ := hrel
    have H3 := Lib.hid hr; have S3 := Lib.hid hs; have Z3 := Lib.hid hz; have G3 := Lib.hid hg
    clear hr hs hz hg
    obtain ⟨s, f, u, hsm, ⟨c0, c1, c2⟩, t0, t1, t2⟩ := slotSv_open S3.out
    have hRl := rdr_lt H3.out
    have hB1 := jslot_lt S3.out
    rcases j with _ | j
    · clear c0 c1 c2 t0 t1 t2 hsm
      go_wp2_with fail
      refine (odd_any _ _ p _ H3.out (by omega) hn).mono ?_
      rintro e w3 ⟨b, rfl, hb, hg, hr⟩
      have H4 := Lib.hid hr
      have S4 : Hid (SlotSv w3 (w.heap.size + 1)) := Lib.hid (jslot_grown S3.out hg (Ne.symm hn1))
      have Z4 : Hid (SlotSv w3 w.heap.size) := Lib.hid (jslot_grown Z3.out hg (Ne.symm hn0))
      have G4 : Hid (w.grownBy w3 (some R)) := Lib.hid (grown_trans' G3.out hg)
      clear hr hg S3 Z3 G3 H3
      cases b
      · go_wp2_with fail
        refine (odd_any _ _ (p + 1) _ H4.out (by omega) (by omega)).mono ?_
        rintro e w4 ⟨b, rfl, hb, hg, hr⟩
        have H5 := Lib.hid hr
        have S5 : Hid (SlotSv w4 (w.heap.size + 1)) := Lib.hid (jslot_grown S4.out hg (Ne.symm hn1))
        have Z5 : Hid (SlotSv w4 w.heap.size) := Lib.hid (jslot_grown Z4.out hg (Ne.symm hn0))
        have G5 : Hid (w.grownBy w4 (some R)) := Lib.hid (grown_trans' G4.out hg)
        clear hr hg S4 Z4 G4 H4
        obtain ⟨s, f, u, hsm, ⟨c0, c1, c2⟩, t0, t1, t2⟩ := slotSv_open S5.out
        obtain ⟨s', f', u', hsm', ⟨d0, d1, d2⟩, e0, e1, e2⟩ := slotSv_open Z5.out
        obtain ⟨hs1, hs2, hs3⟩ := hsm
        have HS := Lib.hid hs1; clear hsm' hs1
        cases b
        all_goals go_wp2
        all_goals refine bodyPost_ret (v := sv _ _ _) (by simp [results, Try.results35, go_sem, d0, d1, d2, e0, e1, e2]; exact ⟨rfl, rfl, rfl⟩) rfl ?_
        all_goals
          refine ⟨_, _, _, rfl, ⟨HS.out, by omega, by omega⟩, ?_, ?_⟩
          · repeat (refine only_setCell ?_ (by simp) _)
            exact G5.out
          · refine rdr_more (q := p + 1 + 1) ?_ (by omega)
            repeat (refine rdr_setCell ?_ (by simp; omega) _)
            exact H5.out
      · go_wp2_with fail
        have hR4 := rdr_lt H4.out
        have hn4 : ¬ w3.heap.size = R := by omega
        refine (pick_any _ _ (p + 1) _ (rdr_alloc H4.out _) (by omega)).mono ?_
        rintro e w4 ⟨k4, rfl, hk4, hg, hr⟩
        have H5 := Lib.hid hr
        have Z5 : Hid (SlotSv w4 w.heap.size) := Lib.hid (jslot_grown (jslot_alloc Z4.out _) hg (Ne.symm hn0))
        have G5 : Hid (w.grownBy w4 (some R)) := Lib.hid (grown_trans' G4.out (grown_trans' (World.grownBy_alloc _ _ _) hg))
        clear hr S4 Z4 G4 H4
        obtain ⟨hc5, hf5, hz5⟩ := gfacts hg
        obtain ⟨s', f', u', hsm', ⟨d0, d1, d2⟩, e0, e1, e2⟩ := slotSv_open Z5.out
        clear hg hsm'
        have hk4' : k4 = 0 ∨ k4 = 1 ∨ k4 = 2 ∨ k4 = 3 ∨ k4 = 4 := by omega
        rcases hk4' with rfl | rfl | rfl | rfl | rfl
        all_goals go_wp2
        all_goals refine bodyPost_ret (v := sv _ _ _) (by simp [results, Try.results35, go_sem, d0, d1, d2, e0, e1, e2]; exact ⟨rfl, rfl, rfl⟩) rfl ?_
        all_goals
          refine ⟨_, _, _, rfl, ⟨by decide, by omega, by omega⟩, ?_, ?_⟩
          · repeat (refine only_setCell ?_ (by simp) _)
            exact G5.out
          · refine rdr_more (q := p + 1 + 1) ?_ (by omega)
            repeat (refine rdr_setCell ?_ (by simp; omega) _)
            exact H5.out
    · have hj1 : (0 : Int) < ((j + 1 : Nat) : Int) := by omega
      go_upto_region 6 with fail
      have hy1 : 0 ≤ y ∧ y ≤ 1000000 := by omega
      have hpq : p ≤ 2000 := by omega
      clear c0 c1 c2 t0 t1 t2 hsm
      refine wp_region_typed R (w.heap.size + 1) (l20hT y R) (fun c w' => Rdr w' L R (p + c) ∧ SlotSv w' (w.heap.size + 1)) (by kernel_rfl) (regOk_of (by kernel_rfl)) (l20hT_keep y R (w.heap.size + 1)) ⟨rdr_drew H3.out, jslot_drew S3.out⟩ ?_ ?_
      · intro i o c b wb ho hc hJ hN hsz hfr hdep K hK
        have hi := (Array.getElem?_eq_some_iff.1 ho).1
        simp only [List.size_toArray, List.length_cons, List.length_nil] at hi hc
        have hcases : i = 0 ∨ i = 1 ∨ i = 2 ∨ i = 3 ∨ i = 4 ∨ i = 5 ∨ i = 6 := by omega
        rcases hcases with rfl | rfl | rfl | rfl | rfl | rfl | rfl
        · cases (show some _ = some o from ho)
          have h5 : b.tmps.getD 5 undef = .pointer (some ⟨w.heap.size + 1, 0, none⟩) := hfr 5 (noDst_of (by kernel_rfl))
          obtain ⟨s, f, u, hsm, ⟨c0, c1, c2⟩, t0, t1, t2⟩ := slotSv_open hJ.2
          have HSM := Lib.hid hsm; clear hsm
          have HK := Lib.hid hK
          have HN := Lib.hid hN
          clear hK hdep hfr hsz ho hN
          go_simp
          exact HK.out _ _ (fun d hd => by cases hd; exact ⟨_, _, _, rfl, HSM.out⟩) (Nx.refl _ _ _) ⟨rdr_more hJ.1 (by omega), hJ.2⟩
        · cases (show some _ = some o from ho)
          have h6 : b.tmps.getD 6 undef = .int .i64 y := hfr 6 (noDst_of (by kernel_rfl))
          have HK := Lib.hid hK
          have HN := Lib.hid hN
          clear hK hdep hfr hsz ho hN
          go_simp
          exact HK.out _ _ (fun d hd => by cases hd; exact (rfl : _ = Value.int .i64 y)) (Nx.refl _ _ _) ⟨rdr_more hJ.1 (by omega), hJ.2⟩
        · cases (show some _ = some o from ho)
          have h0 : b.tmps.getD 0 undef = .pointer (some ⟨R, 0, none⟩) := hfr 0 (noDst_of (by kernel_rfl))
          have HK := Lib.hid hK
          have HN := Lib.hid hN
          clear hK hdep hfr hsz ho hN
          go_simp
          exact HK.out _ _ (fun d hd => by cases hd; exact rfl) (Nx.refl _ _ _) ⟨rdr_more hJ.1 (by omega), hJ.2⟩
        · cases (show some _ = some o from ho)
          have h19 : tP R (b.tmps.getD 19 undef) := hdep 19 (reads_of (by kernel_rfl)) ⟨2, _, rfl, rfl⟩
          unfold tP at h19
          have HK := Lib.hid hK
          have HN := Lib.hid hN
          clear hK hdep hfr hsz ho hN
          go_simp
          refine (pick_any _ R _ _ hJ.1 (by omega)).mono ?_
          rintro e w' ⟨k, rfl, hk, hg, hr⟩
          exact HK.out _ _ (fun d hd => by cases hd; exact ⟨k, rfl, by omega, by omega⟩) (Nx.of_grown hg) ⟨hr, jslot_grown hJ.2 hg (Ne.symm hn1)⟩
        · cases (show some _ = some o from ho)
          have h20 : tI 0 3 (b.tmps.getD 20 undef) := hdep 20 (reads_of (by kernel_rfl)) ⟨3, _, rfl, rfl⟩
          obtain ⟨x20, e20, l20, u20⟩ := h20
          have f20 := getD_opt e20
          have HK := Lib.hid hK
          have HN := Lib.hid hN
          clear hK hdep hfr hsz ho hN
          go_simp
          exact HK.out _ _ (fun d hd => by cases hd; exact ⟨_, rfl⟩) (Nx.refl _ _ _) ⟨rdr_more hJ.1 (by omega), hJ.2⟩
        · cases (show some _ = some o from ho)
          obtain ⟨s, f, u, e17, hsm⟩ : tSv (b.tmps.getD 17 undef) := hdep 17 (reads_of (by kernel_rfl)) ⟨0, _, rfl, rfl⟩
          have h18 : b.tmps.getD 18 undef = .int .i64 y := hdep 18 (reads_of (by kernel_rfl)) ⟨1, _, rfl, rfl⟩
          obtain ⟨g, e21⟩ : tB (b.tmps.getD 21 undef) := hdep 21 (reads_of (by kernel_rfl)) ⟨4, _, rfl, rfl⟩
          have f17 := getD_opt e17
          have f18 := getD_opt h18
          have f21 := getD_opt e21
          have HSM := Lib.hid hsm; clear hsm
          have HK := Lib.hid hK
          have HN := Lib.hid hN
          clear hK hdep hfr hsz ho hN
          go_simp
          refine (sst_small _ _ _ _ _ _ HSM.out hy1).mono ?_
          rintro e w' ⟨s5, f5, u5, rfl, hsm5, hb⟩
          exact HK.out _ _ (fun d hd => by cases hd; exact ⟨_, _, _, rfl, hsm5⟩) (nx_below hb) ⟨rdr_more (rdr_below hJ.1 hb (rdr_lt hJ.1)) (by omega), jslot_below hJ.2 hb (jslot_lt hJ.2)⟩
        · cases (show some _ = some o from ho)
          have h5 : b.tmps.getD 5 undef = .pointer (some ⟨w.heap.size + 1, 0, none⟩) := hfr 5 (noDst_of (by kernel_rfl))
          obtain ⟨s, f, u, e22, hsm⟩ : tSv (b.tmps.getD 22 undef) := hdep 22 (reads_of (by kernel_rfl)) ⟨5, _, rfl, rfl⟩
          have f22 := getD_opt e22
          obtain ⟨s', f', u', hsm', ⟨c0, c1, c2⟩, t0, t1, t2⟩ := slotSv_open hJ.2
          have HSM := Lib.hid hsm; clear hsm hsm'
          have HK := Lib.hid hK
          have HN := Lib.hid hN
          clear hK hdep hfr hsz ho hN
          go_simp
          exact HK.out undef _ (fun d hd => by cases hd) (nx_store3 _ _ _ _ _ _) ⟨rdr_more (rdr_set3 hJ.1 hR1 _ _ _) (by omega), slotSv_store hJ.2 HSM.out⟩
      · intro b wb hsz hdf hfr hty hN hJ
        obtain ⟨tm, df⟩ := b
        have hdf' : df = [] := hdf
        subst hdf'
        have q0 : tm.getD 0 undef = .pointer (some ⟨R, 0, none⟩) := hfr 0 (noDst_of (by kernel_rfl))
        have q1 : tm.getD 1 undef = .int .i64 n := hfr 1 (noDst_of (by kernel_rfl))
        have q4 : tm.getD 4 undef = .pointer (some ⟨w.heap.size, 0, none⟩) := hfr 4 (noDst_of (by kernel_rfl))
        have q5 : tm.getD 5 undef = .pointer (some ⟨w.heap.size + 1, 0, none⟩) := hfr 5 (noDst_of (by kernel_rfl))
        have q6 : tm.getD 6 undef = .int .i64 y := hfr 6 (noDst_of (by kernel_rfl))
        have q7 : tm.getD 7 undef = .int .i64 ((j : Int) + 1) := hfr 7 (noDst_of (by kernel_rfl))
        have q8 : tm.getD 8 undef = sv ⟨#[114, 101, 100]⟩ 0 0 := hfr 8 (noDst_of (by kernel_rfl))
        have q9 : tm.getD 9 undef = .pointer (some ⟨R, 0, none⟩) := hfr 9 (noDst_of (by kernel_rfl))
        have q10 : tm.getD 10 undef = .int .i64 k1 := hfr 10 (noDst_of (by kernel_rfl))
        have q11 : tm.getD 11 undef = .pointer (some ⟨R, 0, none⟩) := hfr 11 (noDst_of (by kernel_rfl))
        have q12 : tm.getD 12 undef = .int .i64 k2 := hfr 12 (noDst_of (by kernel_rfl))
        have q2 : tm.getD 2 undef = undef := hfr 2 (noDst_of (by kernel_rfl))
        have q3 : tm.getD 3 undef = undef := hfr 3 (noDst_of (by kernel_rfl))
        have q27 : tm.getD 27 undef = undef := hfr 27 (noDst_of (by kernel_rfl))
        have q28 : tm.getD 28 undef = undef := hfr 28 (noDst_of (by kernel_rfl))
        have q29 : tm.getD 29 undef = undef := hfr 29 (noDst_of (by kernel_rfl))
        have q30 : tm.getD 30 undef = undef := hfr 30 (noDst_of (by kernel_rfl))
        have q31 : tm.getD 31 undef = undef := hfr 31 (noDst_of (by kernel_rfl))
        have q32 : tm.getD 32 undef = undef := hfr 32 (noDst_of (by kernel_rfl))
        have q33 : tm.getD 33 undef = undef := hfr 33 (noDst_of (by kernel_rfl))
        have q34 : tm.getD 34 undef = undef := hfr 34 (noDst_of (by kernel_rfl))
        have q35 : tm.getD 35 undef = undef := hfr 35 (noDst_of (by kernel_rfl))
        have q36 : tm.getD 36 undef = undef := hfr 36 (noDst_of (by kernel_rfl))
        have q37 : tm.getD 37 undef = undef := hfr 37 (noDst_of (by kernel_rfl))
        have q38 : tm.getD 38 undef = undef := hfr 38 (noDst_of (by kernel_rfl))
        have q39 : tm.getD 39 undef = undef := hfr 39 (noDst_of (by kernel_rfl))
        have q40 : tm.getD 40 undef = undef := hfr 40 (noDst_of (by kernel_rfl))
        have q41 : tm.getD 41 undef = undef := hfr 41 (noDst_of (by kernel_rfl))
        have q42 : tm.getD 42 undef = undef := hfr 42 (noDst_of (by kernel_rfl))
        have q43 : tm.getD 43 undef = undef := hfr 43 (noDst_of (by kernel_rfl))
        have q := lit_of tm 44 hsz
        simp only [List.range, List.range.loop, List.map, q0, q1, q2, q3, q4, q5, q6, q7, q8, q9, q10, q11, q12, q27, q28, q29, q30, q31, q32, q33, q34, q35, q36, q37, q38, q39, q40, q41, q42, q43] at q
        have HQ := Lib.hid q
        clear q hsz hdf hfr hty q0 q1 q2 q3 q4 q5 q6 q7 q8 q9 q10 q11 q12 q27 q28 q29 q30 q31 q32 q33 q34 q35 q36 q37 q38 q39 q40 q41 q42 q43
        rw [HQ.out]
        generalize tm.getD 13 undef = x13
        generalize tm.getD 14 undef = x14
        generalize tm.getD 15 undef = x15
        generalize tm.getD 16 undef = x16
        generalize tm.getD 17 undef = x17
        generalize tm.getD 18 undef = x18
        generalize tm.getD 19 undef = x19
        generalize tm.getD 20 undef = x20
        generalize tm.getD 21 undef = x21
        generalize tm.getD 22 undef = x22
        generalize tm.getD 23 undef = x23
        generalize tm.getD 24 undef = x24
        generalize tm.getD 25 undef = x25
        generalize tm.getD 26 undef = x26
        clear HQ
        obtain ⟨c, hc, hJ1, hJ2⟩ := hJ
        simp only [List.size_toArray, List.length_cons, List.length_nil] at hc
        have H4 := Lib.hid hJ1; have S4 := Lib.hid hJ2
        have Z4 : Hid (SlotSv wb w.heap.size) := Lib.hid (slot_nx Z3.out hN hn0 (by omega))
        have G4 : Hid (w.grownBy wb (some R)) := Lib.hid (grown_nx G3.out hN (by omega))
        clear hN hJ1 hJ2
        go_wp2_with fail
        refine (pick_any _ _ (p + c) _ H4.out (by omega)).mono ?_
        rintro e w5 ⟨k5, rfl, hk5, hg, hr⟩
        have H5 := Lib.hid hr
        have S5 : Hid (SlotSv w5 (w.heap.size + 1)) := Lib.hid (jslot_grown S4.out hg (Ne.symm hn1))
        have Z5 : Hid (SlotSv w5 w.heap.size) := Lib.hid (jslot_grown Z4.out hg (Ne.symm hn0))
        have G5 : Hid (w.grownBy w5 (some R)) := Lib.hid (grown_trans' G4.out hg)
        clear hr hg
        go_wp2
        go_roundw
        case rel => (repeat apply Exists.intro); exact ⟨⟨_, j, rfl, by go_num, by omega, by omega, ⟨_, by omega, H5.out⟩, S5.out, Z5.out, G5.out⟩, rfl⟩
        case measure => simp [intOf] <;> omega
end Go.Proofs.Ytkdpambhdjinjaa
