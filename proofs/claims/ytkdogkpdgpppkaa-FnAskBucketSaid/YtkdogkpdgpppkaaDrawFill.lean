/-
  The drawing of a bucket and a time.
-/
import Derived.Test.YtkdogkpdgpppkaaSlotBucket
namespace Go.Proofs.Ytkdogkpdgpppkaa
open Go.ChangeShapes Go.WideShapes Go.ChangeAt Go.RowKit Go.Joins
set_option linter.unusedVariables false

def dfbT (R S : Nat) (t : Tmp) (v : Value) (w : World) : Prop :=
  match t with
  | 3 => tI (-20) (2000100) v
  | 10 => tK v
  | 11 => tA R S (-10) (2000000) v w
  | 12 => tI (-10) (2000000) v
  | 13 => tP R v
  | 14 => tI (0) (19) v
  | 15 => tI (-10) (2000100) v
  | 16 => tA R S (-10) (2000000) v w
  | 17 => tI (-10) (2000000) v
  | 18 => tI (-20) (2000000) v
  | 19 => tL R S 4 (-20) (2000100) v w
  | 20 => tL R S 8 (0) (3) v w
  | 21 => tP R v
  | 22 => tI (0) (7) v
  | 23 => tA R S (0) (3) v w
  | 24 => tI (0) (3) v
  | 25 => tA R S (-20) (2000100) v w
  | 26 => tI (-20) (2000100) v
  | _ => True
theorem dfbT_keep (R S : Nat) (t : Tmp) (v : Value) (w w' : World) (hN : Nx R S w w') (h : dfbT R S t v w) : dfbT R S t v w' := by
  unfold dfbT at h ⊢
  split at h <;> first | exact h | exact tL_keep hN h | exact tA_keep hN h | trivial

set_option maxHeartbeats 4000000 in
theorem dfb_any (a : Option Addr) (len cap : Nat) (zs : List Int) (w0 w : World) (h : IsCode w0 a len cap zs) (hB : Below w0.heap.size w0 w) :
    Calls Try.prog 23 #[.slice a len cap] w fun e w' => ∃ x y z t n : Int, e = .returned (.tuple #[bk x y z t, .int .i64 n]) ∧ smallBk x y z t ∧ (-20 ≤ n ∧ n ≤ 2000100) ∧ Below w.heap.size w w' := by
  have H := Lib.hid h; clear h
  have HLS : Hid (w0.heap.size ≤ w.heap.size) := Lib.hid hB.size
  have HB := Lib.hid hB; clear hB
  go_enter Try.func23, Try.ntmps23
  go_wp2_with fail
  refine (open_any _ _ _ _ _ _ H.out (HB.out.alloc HB.out.size _)).mono ?_
  rintro e w1 ⟨R, rfl, hb, hR, hR2, hr⟩
  have HB1 := Lib.hid hb; have HR := Lib.hid hr; clear hb hr
  simp only [World.size_alloc] at hR
  go_wp2_with fail
  refine (l20bk_any _ _ 0 _ HR.out (by omega) (by omega)).mono ?_
  rintro e w2 ⟨x, y, z, t, rfl, hs, hg, hr⟩
  have HB2 := Lib.hid (below_of_grown HB1.out (by simp only [World.size_alloc]; omega) hg)
  have HSM := Lib.hid hs
  have HR2 := Lib.hid hr
  have hR3 := rdr_lt hr
  clear hg hr hs
  have hRS : R ≠ w.heap.size := by omega
  have hBR : w2.heap.size ≠ R := by omega
  have hz2 := HB2.out.size
  simp only [World.size_alloc] at hz2
  have hBS : w2.heap.size ≠ w.heap.size := by omega
  go_wp2_with fail
  have b0 : (w2.alloc (.cells #[.int .i64 x, .int .i64 y, .int .i64 z, .int .i64 t] 25)).cell? ⟨w2.heap.size, 0, none⟩ = some (.int .i64 x) := by simp [go_sem]
  have b1 : (w2.alloc (.cells #[.int .i64 x, .int .i64 y, .int .i64 z, .int .i64 t] 25)).cell? ⟨w2.heap.size, 1, none⟩ = some (.int .i64 y) := by simp [go_sem]
  have b2 : (w2.alloc (.cells #[.int .i64 x, .int .i64 y, .int .i64 z, .int .i64 t] 25)).cell? ⟨w2.heap.size, 2, none⟩ = some (.int .i64 z) := by simp [go_sem]
  have b3 : (w2.alloc (.cells #[.int .i64 x, .int .i64 y, .int .i64 z, .int .i64 t] 25)).cell? ⟨w2.heap.size, 3, none⟩ = some (.int .i64 t) := by simp [go_sem]
  refine wp_region_typed R w.heap.size (dfbT R w.heap.size) (fun c w' => Rdr w' w0.heap.size R (0 + 10 + c) ∧ SlotBk w' w.heap.size) (by kernel_rfl) (regOk_of (by kernel_rfl)) (dfbT_keep R w.heap.size) ⟨rdr_drew (rdr_alloc HR2.out _), jslot_drew (jslot_alloc (jslot_below slotBk_new HB2.out (by simp)) _)⟩ ?_ ?_
  · intro i o c b wb ho hc hJ hN hsz hfr hdep K hK
    have hi := (Array.getElem?_eq_some_iff.1 ho).1
    simp only [List.size_toArray, List.length_cons, List.length_nil] at hi hc
    have hcases : i = 0 ∨ i = 1 ∨ i = 2 ∨ i = 3 ∨ i = 4 ∨ i = 5 ∨ i = 6 ∨ i = 7 ∨ i = 8 ∨ i = 9 ∨ i = 10 ∨ i = 11 ∨ i = 12 ∨ i = 13 ∨ i = 14 ∨ i = 15 ∨ i = 16 ∨ i = 17 ∨ i = 18 := by omega
    rcases hcases with rfl | rfl | rfl | rfl | rfl | rfl | rfl | rfl | rfl | rfl | rfl | rfl | rfl | rfl | rfl | rfl | rfl | rfl | rfl
    · cases (show some _ = some o from ho)
      have h5 : b.tmps.getD 5 undef = .pointer (some ⟨w2.heap.size, 0, none⟩) := hfr 5 (noDst_of (by kernel_rfl))
      have c0 := hN.cell b0 hBR hBS; have c1 := hN.cell b1 hBR hBS; have c2 := hN.cell b2 hBR hBS; have c3 := hN.cell b3 hBR hBS
      have HK := Lib.hid hK
      clear hK hdep hfr hsz ho hN
      go_simp
      exact HK.out _ _ (fun d hd => by cases hd; exact ⟨_, _, _, _, rfl, HSM.out⟩) (Nx.refl _ _ _) ⟨rdr_more hJ.1 (by omega), hJ.2⟩
    · cases (show some _ = some o from ho)
      have h5 : b.tmps.getD 5 undef = .pointer (some ⟨w2.heap.size, 0, none⟩) := hfr 5 (noDst_of (by kernel_rfl))
      have c3 := hN.cell b3 hBR hBS
      have hsm := HSM.out; unfold smallBk at hsm
      have HK := Lib.hid hK
      clear hK hdep hfr hsz ho hN
      go_simp
      exact HK.out _ _ (fun d hd => by cases hd; exact ⟨w2.heap.size, 3, t, rfl, hBR, hBS, by omega, by omega, c3⟩) (Nx.refl _ _ _) ⟨rdr_more hJ.1 (by omega), hJ.2⟩
    · cases (show some _ = some o from ho)
      have h11 : tA R w.heap.size (-10) (2000000) (b.tmps.getD 11 undef) wb := hdep 11 (reads_of (by kernel_rfl)) ⟨1, _, rfl, rfl⟩
      obtain ⟨g11, j11, z11, e11, gR11, gS11, l11, u11, hz11⟩ := h11
      have HK := Lib.hid hK
      have HN := Lib.hid hN
      clear hK hdep hfr hsz ho hN
      go_simp
      exact HK.out _ _ (fun d hd => by cases hd; exact ⟨z11, rfl, by omega, by omega⟩) (Nx.refl _ _ _) ⟨rdr_more hJ.1 (by omega), hJ.2⟩
    · cases (show some _ = some o from ho)
      have h4 : b.tmps.getD 4 undef = .pointer (some ⟨R, 0, none⟩) := hfr 4 (noDst_of (by kernel_rfl))
      have HK := Lib.hid hK
      have HN := Lib.hid hN
      clear hK hdep hfr hsz ho hN
      go_simp
      exact HK.out _ _ (fun d hd => by cases hd; exact rfl) (Nx.refl _ _ _) ⟨rdr_more hJ.1 (by omega), hJ.2⟩
    · cases (show some _ = some o from ho)
      have h13 : tP R (b.tmps.getD 13 undef) := hdep 13 (reads_of (by kernel_rfl)) ⟨3, _, rfl, rfl⟩
      unfold tP at h13
      have HK := Lib.hid hK
      have HN := Lib.hid hN
      clear hK hdep hfr hsz ho hN
      go_simp
      refine (pick_any _ R _ _ hJ.1 (by omega)).mono ?_
      rintro e w' ⟨k, rfl, hk, hg, hr⟩
      exact HK.out _ _ (fun d hd => by cases hd; exact ⟨k, rfl, by omega, by omega⟩) (Nx.of_grown hg) ⟨hr, jslot_grown hJ.2 hg hRS⟩
    · cases (show some _ = some o from ho)
      have h12 : tI (-10) (2000000) (b.tmps.getD 12 undef) := hdep 12 (reads_of (by kernel_rfl)) ⟨2, _, rfl, rfl⟩
      obtain ⟨x12, e12, l12, u12⟩ := h12
      have f12 := getD_opt e12
      have h14 : tI (0) (19) (b.tmps.getD 14 undef) := hdep 14 (reads_of (by kernel_rfl)) ⟨4, _, rfl, rfl⟩
      obtain ⟨x14, e14, l14, u14⟩ := h14
      have f14 := getD_opt e14
      have HK := Lib.hid hK
      have HN := Lib.hid hN
      clear hK hdep hfr hsz ho hN
      go_simp
      exact HK.out _ _ (fun d hd => by cases hd; exact ⟨_, rfl, by first | omega | (rw [IntWalk.i64_in _ (by omega)]; omega), by first | omega | (rw [IntWalk.i64_in _ (by omega)]; omega)⟩) (Nx.refl _ _ _) ⟨rdr_more hJ.1 (by omega), hJ.2⟩
    · cases (show some _ = some o from ho)
      have h5 : b.tmps.getD 5 undef = .pointer (some ⟨w2.heap.size, 0, none⟩) := hfr 5 (noDst_of (by kernel_rfl))
      have c3 := hN.cell b3 hBR hBS
      have hsm := HSM.out; unfold smallBk at hsm
      have HK := Lib.hid hK
      clear hK hdep hfr hsz ho hN
      go_simp
      exact HK.out _ _ (fun d hd => by cases hd; exact ⟨w2.heap.size, 3, t, rfl, hBR, hBS, by omega, by omega, c3⟩) (Nx.refl _ _ _) ⟨rdr_more hJ.1 (by omega), hJ.2⟩
    · cases (show some _ = some o from ho)
      have h16 : tA R w.heap.size (-10) (2000000) (b.tmps.getD 16 undef) wb := hdep 16 (reads_of (by kernel_rfl)) ⟨6, _, rfl, rfl⟩
      obtain ⟨g16, j16, z16, e16, gR16, gS16, l16, u16, hz16⟩ := h16
      have HK := Lib.hid hK
      have HN := Lib.hid hN
      clear hK hdep hfr hsz ho hN
      go_simp
      exact HK.out _ _ (fun d hd => by cases hd; exact ⟨z16, rfl, by omega, by omega⟩) (Nx.refl _ _ _) ⟨rdr_more hJ.1 (by omega), hJ.2⟩
    · cases (show some _ = some o from ho)
      have h17 : tI (-10) (2000000) (b.tmps.getD 17 undef) := hdep 17 (reads_of (by kernel_rfl)) ⟨7, _, rfl, rfl⟩
      obtain ⟨x17, e17, l17, u17⟩ := h17
      have f17 := getD_opt e17
      have HK := Lib.hid hK
      have HN := Lib.hid hN
      clear hK hdep hfr hsz ho hN
      go_simp
      exact HK.out _ _ (fun d hd => by cases hd; exact ⟨_, rfl, by first | omega | (rw [IntWalk.i64_in _ (by omega)]; omega), by first | omega | (rw [IntWalk.i64_in _ (by omega)]; omega)⟩) (Nx.refl _ _ _) ⟨rdr_more hJ.1 (by omega), hJ.2⟩
    · cases (show some _ = some o from ho)
      have h15 : tI (-10) (2000100) (b.tmps.getD 15 undef) := hdep 15 (reads_of (by kernel_rfl)) ⟨5, _, rfl, rfl⟩
      obtain ⟨x15, e15, l15, u15⟩ := h15
      have f15 := getD_opt e15
      have h18 : tI (-20) (2000000) (b.tmps.getD 18 undef) := hdep 18 (reads_of (by kernel_rfl)) ⟨8, _, rfl, rfl⟩
      obtain ⟨x18, e18, l18, u18⟩ := h18
      have f18 := getD_opt e18
      have HK := Lib.hid hK
      have HN := Lib.hid hN
      clear hK hdep hfr hsz ho hN
      go_simp
      refine HK.out _ _ (fun d hd => ?_) (Nx.alloc _ _ _ _) ⟨rdr_more (rdr_alloc hJ.1 _) (by omega), jslot_alloc hJ.2 _⟩
      cases hd
      refine tL_new rfl (by have := rdr_lt hJ.1; omega) (by have := jslot_lt hJ.2; omega) ?_
      intro v hv
      simp only [List.mem_cons, List.not_mem_nil, or_false] at hv
      rcases hv with rfl | rfl | rfl | rfl <;> exact ⟨_, by omega, by omega, rfl⟩
    · cases (show some _ = some o from ho)
      have HK := Lib.hid hK
      have HN := Lib.hid hN
      clear hK hdep hfr hsz ho hN
      go_simp
      refine HK.out _ _ (fun d hd => ?_) (Nx.alloc _ _ _ _) ⟨rdr_more (rdr_alloc hJ.1 _) (by omega), jslot_alloc hJ.2 _⟩
      cases hd
      refine tL_new rfl (by have := rdr_lt hJ.1; omega) (by have := jslot_lt hJ.2; omega) ?_
      intro v hv
      simp only [List.mem_cons, List.not_mem_nil, or_false] at hv
      rcases hv with rfl | rfl | rfl | rfl | rfl | rfl | rfl | rfl <;> exact ⟨_, by omega, by omega, rfl⟩
    · cases (show some _ = some o from ho)
      have h4 : b.tmps.getD 4 undef = .pointer (some ⟨R, 0, none⟩) := hfr 4 (noDst_of (by kernel_rfl))
      have HK := Lib.hid hK
      have HN := Lib.hid hN
      clear hK hdep hfr hsz ho hN
      go_simp
      exact HK.out _ _ (fun d hd => by cases hd; exact rfl) (Nx.refl _ _ _) ⟨rdr_more hJ.1 (by omega), hJ.2⟩
    · cases (show some _ = some o from ho)
      have h21 : tP R (b.tmps.getD 21 undef) := hdep 21 (reads_of (by kernel_rfl)) ⟨11, _, rfl, rfl⟩
      unfold tP at h21
      have HK := Lib.hid hK
      have HN := Lib.hid hN
      clear hK hdep hfr hsz ho hN
      go_simp
      refine (pick_any _ R _ _ hJ.1 (by omega)).mono ?_
      rintro e w' ⟨k, rfl, hk, hg, hr⟩
      exact HK.out _ _ (fun d hd => by cases hd; exact ⟨k, rfl, by omega, by omega⟩) (Nx.of_grown hg) ⟨hr, jslot_grown hJ.2 hg hRS⟩
    · cases (show some _ = some o from ho)
      have h20 : tL R w.heap.size 8 (0) (3) (b.tmps.getD 20 undef) wb := hdep 20 (reads_of (by kernel_rfl)) ⟨10, _, rfl, rfl⟩
      obtain ⟨g20, e20, gR20, gS20, hc20⟩ := h20
      have h22 : tI (0) (7) (b.tmps.getD 22 undef) := hdep 22 (reads_of (by kernel_rfl)) ⟨12, _, rfl, rfl⟩
      obtain ⟨x22, e22, l22, u22⟩ := h22
      have f22 := getD_opt e22
      obtain ⟨k22, rfl⟩ := Int.eq_ofNat_of_zero_le (show 0 ≤ x22 by omega)
      obtain ⟨z20, lz, uz, hz⟩ := hc20 k22 (by omega)
      have hlt : (k22 : Int) < 8 := by omega
      clear hc20
      have HK := Lib.hid hK
      have HN := Lib.hid hN
      clear hK hdep hfr hsz ho hN
      go_simp
      exact HK.out _ _ (fun d hd => by cases hd; exact ⟨g20, k22, z20, rfl, gR20, gS20, by omega, by omega, hz⟩) (Nx.refl _ _ _) ⟨rdr_more hJ.1 (by omega), hJ.2⟩
    · cases (show some _ = some o from ho)
      have h23 : tA R w.heap.size (0) (3) (b.tmps.getD 23 undef) wb := hdep 23 (reads_of (by kernel_rfl)) ⟨13, _, rfl, rfl⟩
      obtain ⟨g23, j23, z23, e23, gR23, gS23, l23, u23, hz23⟩ := h23
      have HK := Lib.hid hK
      have HN := Lib.hid hN
      clear hK hdep hfr hsz ho hN
      go_simp
      exact HK.out _ _ (fun d hd => by cases hd; exact ⟨z23, rfl, by omega, by omega⟩) (Nx.refl _ _ _) ⟨rdr_more hJ.1 (by omega), hJ.2⟩
    · cases (show some _ = some o from ho)
      have h19 : tL R w.heap.size 4 (-20) (2000100) (b.tmps.getD 19 undef) wb := hdep 19 (reads_of (by kernel_rfl)) ⟨9, _, rfl, rfl⟩
      obtain ⟨g19, e19, gR19, gS19, hc19⟩ := h19
      have h24 : tI (0) (3) (b.tmps.getD 24 undef) := hdep 24 (reads_of (by kernel_rfl)) ⟨14, _, rfl, rfl⟩
      obtain ⟨x24, e24, l24, u24⟩ := h24
      have f24 := getD_opt e24
      obtain ⟨k24, rfl⟩ := Int.eq_ofNat_of_zero_le (show 0 ≤ x24 by omega)
      obtain ⟨z19, lz, uz, hz⟩ := hc19 k24 (by omega)
      have hlt : (k24 : Int) < 4 := by omega
      clear hc19
      have HK := Lib.hid hK
      have HN := Lib.hid hN
      clear hK hdep hfr hsz ho hN
      go_simp
      exact HK.out _ _ (fun d hd => by cases hd; exact ⟨g19, k24, z19, rfl, gR19, gS19, by omega, by omega, hz⟩) (Nx.refl _ _ _) ⟨rdr_more hJ.1 (by omega), hJ.2⟩
    · cases (show some _ = some o from ho)
      have h25 : tA R w.heap.size (-20) (2000100) (b.tmps.getD 25 undef) wb := hdep 25 (reads_of (by kernel_rfl)) ⟨15, _, rfl, rfl⟩
      obtain ⟨g25, j25, z25, e25, gR25, gS25, l25, u25, hz25⟩ := h25
      have HK := Lib.hid hK
      have HN := Lib.hid hN
      clear hK hdep hfr hsz ho hN
      go_simp
      exact HK.out _ _ (fun d hd => by cases hd; exact ⟨z25, rfl, by omega, by omega⟩) (Nx.refl _ _ _) ⟨rdr_more hJ.1 (by omega), hJ.2⟩
    · cases (show some _ = some o from ho)
      have h2 : b.tmps.getD 2 undef = .pointer (some ⟨w.heap.size, 0, none⟩) := hfr 2 (noDst_of (by kernel_rfl))
      have h10 : tK (b.tmps.getD 10 undef) := hdep 10 (reads_of (by kernel_rfl)) ⟨0, _, rfl, rfl⟩
      obtain ⟨x', y', z', t', e10, hs10⟩ := h10
      obtain ⟨x0, y0, z0, t0, hs0, ⟨d0, d1, d2, d3⟩, f0, f1, f2, f3⟩ := slotBk_open hJ.2
      have HS10 := Lib.hid hs10
      have HK := Lib.hid hK
      clear hK hdep hfr hsz ho hN hs0 hs10
      go_simp
      exact HK.out undef _ (fun d hd => by cases hd) (nx_store4 _ _ _ _ _ _ _) ⟨rdr_more (rdr_setCell' (rdr_setCell' (rdr_setCell' (rdr_setCell' hJ.1 HLS.out (Ne.symm hRS) _) HLS.out (Ne.symm hRS) _) HLS.out (Ne.symm hRS) _) HLS.out (Ne.symm hRS) _) (by omega), slotBk_store hJ.2 HS10.out⟩
    · cases (show some _ = some o from ho)
      have h26 : tI (-20) (2000100) (b.tmps.getD 26 undef) := hdep 26 (reads_of (by kernel_rfl)) ⟨16, _, rfl, rfl⟩
      obtain ⟨x26, e26, l26, u26⟩ := h26
      have f26 := getD_opt e26
      have HK := Lib.hid hK
      have HN := Lib.hid hN
      clear hK hdep hfr hsz ho hN
      go_simp
      exact HK.out _ _ (fun d hd => by cases hd; exact ⟨x26, rfl, by omega, by omega⟩) (Nx.refl _ _ _) ⟨rdr_more hJ.1 (by omega), hJ.2⟩
  · intro b wb hsz hdf hfr hty hN hJ
    have h2 : b.tmps.getD 2 undef = .pointer (some ⟨w.heap.size, 0, none⟩) := hfr 2 (noDst_of (by kernel_rfl))
    obtain ⟨x3, e3, l3, u3⟩ : tI (-20) (2000100) (b.tmps.getD 3 undef) := hty 18 _ 3 rfl rfl
    obtain ⟨c, hc, hJ1, hJ2⟩ := hJ
    obtain ⟨x0, y0, z0, t0, hs0, ⟨d0, d1, d2, d3⟩, f0, f1, f2, f3⟩ := slotBk_open hJ2
    have HN := Lib.hid hN
    have HD : Hid (b.defers = []) := Lib.hid hdf
    have HS0 := Lib.hid hs0
    have g2 := getD_opt h2
    have g3 := getD_opt e3
    clear hsz hdf hfr hty hN hJ1 hJ2 hs0
    go_wp2
    refine bodyPost_ret (v := .tuple #[bk _ _ _ _, .int .i64 _]) (by simp [results, Try.results23, go_sem, g2, g3, d0, d1, d2, d3]; exact ⟨⟨rfl, rfl, rfl, rfl⟩, rfl⟩) HD.out ?_
    exact ⟨_, _, _, _, _, rfl, HS0.out, ⟨l3, u3⟩, below_of_nx ((below_slot rfl HB2.out).alloc (below_slot rfl HB2.out).size _) (by omega) (Nat.le_refl _) HN.out⟩
end Go.Proofs.Ytkdogkpdgpppkaa
