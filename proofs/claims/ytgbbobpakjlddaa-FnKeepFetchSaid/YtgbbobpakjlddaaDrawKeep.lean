/-
  The drawing of what is kept, a time, a digest and how long.
-/
import Derived.Test.YtgbbobpakjlddaaDrawFetch
namespace Go.Proofs.Ytgbbobpakjlddaa
open Go.ChangeShapes Go.WideShapes Go.ChangeAt Go.RowKit Go.Joins
set_option linter.unusedVariables false

def dkfT (n m : Int) (R S : Nat) (t : Tmp) (v : Value) (w : World) : Prop :=
  match t with
  | 3 => tN n v
  | 4 => tN m v
  | 5 => tI (-1) (1000001) v
  | 18 => tKp v
  | 19 => tN n v
  | 20 => tN m v
  | 21 => tP R v
  | 22 => tI (0) (49) v
  | 23 => tL R S 4 (-1) (1000001) v w
  | 24 => tL R S 8 (0) (3) v w
  | 25 => tP R v
  | 26 => tI (0) (7) v
  | 27 => tA R S (0) (3) v w
  | 28 => tI (0) (3) v
  | 29 => tA R S (-1) (1000001) v w
  | 30 => tI (-1) (1000001) v
  | _ => True
theorem dkfT_keep (n m : Int) (R S : Nat) (t : Tmp) (v : Value) (w w' : World) (hN : Nx R S w w') (h : dkfT n m R S t v w) : dkfT n m R S t v w' := by
  unfold dkfT at h ⊢
  split at h <;> first | exact h | exact tL_keep hN h | exact tA_keep hN h | trivial

set_option maxHeartbeats 4000000 in
theorem dkf_any (a : Option Addr) (len cap : Nat) (zs : List Int) (w0 w : World) (h : IsCode w0 a len cap zs) (hB : Below w0.heap.size w0 w) :
    Calls Try.prog 28 #[.slice a len cap] w fun e w' => ∃ x y n m l : Int, e = .returned (.tuple #[kp x y, .int .i64 n, .int .i64 m, .int .i64 l]) ∧ smallKp x y ∧ (-1 ≤ n ∧ n ≤ 119) ∧ (-1 ≤ m ∧ m ≤ 999983) ∧ (-1 ≤ l ∧ l ≤ 1000001) ∧ Below w.heap.size w w' := by
  have H := Lib.hid h; clear h
  have HLS : Hid (w0.heap.size ≤ w.heap.size) := Lib.hid hB.size
  have HB := Lib.hid hB; clear hB
  go_enter Try.func28, Try.ntmps28
  go_wp2_with fail
  refine (dfc_any _ _ _ _ _ _ H.out (HB.out.alloc HB.out.size _)).mono ?_
  rintro e w1 ⟨x, y, n, m, rfl, hs, hn, hm, hb⟩
  have HB1 := Lib.hid hb; have HSM := Lib.hid hs; have HNN := Lib.hid hn; have HMM := Lib.hid hm
  have hz1 := HB1.out.size
  simp only [World.size_alloc] at hz1
  clear hb hs hn hm
  go_wp2_with fail
  refine (open_any _ _ _ _ _ _ H.out ((bthen (HB.out.alloc HB.out.size _) HB1.out).alloc (bthen (HB.out.alloc HB.out.size _) HB1.out).size _)).mono ?_
  rintro e w2 ⟨R, rfl, hb2, hR, hR2, hr⟩
  have HB2 := Lib.hid hb2; have HR2 := Lib.hid hr; clear hb2 hr
  simp only [World.size_alloc] at hR
  have hRS : R ≠ w.heap.size := by omega
  have hBR : w1.heap.size ≠ R := by omega
  have hBS : w1.heap.size ≠ w.heap.size := by omega
  have b0 := slotB HB2.out 0 _ rfl
  have b1 := slotB HB2.out 1 _ rfl
  have HX : Hid (Below w.heap.size w w2) := Lib.hid (bthen ((below_slot rfl HB1.out).alloc (below_slot rfl HB1.out).size _) HB2.out)
  go_wp2_with fail
  refine wp_region_typed R w.heap.size (dkfT n m R w.heap.size) (fun c w' => Rdr w' w0.heap.size R c ∧ SlotKp w' w.heap.size) (by kernel_rfl) (regOk_of (by kernel_rfl)) (dkfT_keep n m R w.heap.size) ⟨rdr_drew HR2.out, jslot_drew (jslot_below (jslot_alloc (jslot_below slotKp_new HB1.out (by simp)) _) HB2.out (by simp; omega))⟩ ?_ ?_
  · intro i o c b wb ho hc hJ hN hsz hfr hdep K hK
    have hi := (Array.getElem?_eq_some_iff.1 ho).1
    simp only [List.size_toArray, List.length_cons, List.length_nil] at hi hc
    have hcases : i = 0 ∨ i = 1 ∨ i = 2 ∨ i = 3 ∨ i = 4 ∨ i = 5 ∨ i = 6 ∨ i = 7 ∨ i = 8 ∨ i = 9 ∨ i = 10 ∨ i = 11 ∨ i = 12 ∨ i = 13 ∨ i = 14 ∨ i = 15 ∨ i = 16 := by omega
    rcases hcases with rfl | rfl | rfl | rfl | rfl | rfl | rfl | rfl | rfl | rfl | rfl | rfl | rfl | rfl | rfl | rfl | rfl
    · cases (show some _ = some o from ho)
      have h6 : b.tmps.getD 6 undef = .pointer (some ⟨w1.heap.size, 0, none⟩) := hfr 6 (noDst_of (by kernel_rfl))
      have c0 := hN.cell b0 hBR hBS; have c1 := hN.cell b1 hBR hBS
      have HK := Lib.hid hK
      clear hK hdep hfr hsz ho hN
      go_simp
      exact HK.out _ _ (fun d hd => by cases hd; exact ⟨_, _, rfl, HSM.out⟩) (Nx.refl _ _ _) ⟨rdr_more hJ.1 (by omega), hJ.2⟩
    · cases (show some _ = some o from ho)
      have h7 : b.tmps.getD 7 undef = .int .i64 n := hfr 7 (noDst_of (by kernel_rfl))
      have HK := Lib.hid hK
      clear hK hdep hfr hsz ho hN
      go_simp
      exact HK.out _ _ (fun d hd => by cases hd; exact (rfl : tN n _)) (Nx.refl _ _ _) ⟨rdr_more hJ.1 (by omega), hJ.2⟩
    · cases (show some _ = some o from ho)
      have h8 : b.tmps.getD 8 undef = .int .i64 m := hfr 8 (noDst_of (by kernel_rfl))
      have HK := Lib.hid hK
      clear hK hdep hfr hsz ho hN
      go_simp
      exact HK.out _ _ (fun d hd => by cases hd; exact (rfl : tN m _)) (Nx.refl _ _ _) ⟨rdr_more hJ.1 (by omega), hJ.2⟩
    · cases (show some _ = some o from ho)
      have h9 : b.tmps.getD 9 undef = .pointer (some ⟨R, 0, none⟩) := hfr 9 (noDst_of (by kernel_rfl))
      have HK := Lib.hid hK
      have HN := Lib.hid hN
      clear hK hdep hfr hsz ho hN
      go_simp
      exact HK.out _ _ (fun d hd => by cases hd; exact rfl) (Nx.refl _ _ _) ⟨rdr_more hJ.1 (by omega), hJ.2⟩
    · cases (show some _ = some o from ho)
      have h21 : tP R (b.tmps.getD 21 undef) := hdep 21 (reads_of (by kernel_rfl)) ⟨3, _, rfl, rfl⟩
      unfold tP at h21
      have HK := Lib.hid hK
      have HN := Lib.hid hN
      clear hK hdep hfr hsz ho hN
      go_simp
      refine (pick_any _ R _ _ hJ.1 (by omega)).mono ?_
      rintro e w' ⟨k, rfl, hk, hg, hr⟩
      exact HK.out _ _ (fun d hd => by cases hd; exact ⟨k, rfl, by omega, by omega⟩) (Nx.of_grown hg) ⟨hr, jslot_grown hJ.2 hg hRS⟩
    · cases (show some _ = some o from ho)
      have h22 : tI (0) (49) (b.tmps.getD 22 undef) := hdep 22 (reads_of (by kernel_rfl)) ⟨4, _, rfl, rfl⟩
      obtain ⟨x22, e22, l22, u22⟩ := h22
      have f22 := getD_opt e22
      have HK := Lib.hid hK
      have HN := Lib.hid hN
      clear hK hdep hfr hsz ho hN
      go_simp
      refine HK.out _ _ (fun d hd => ?_) (Nx.alloc _ _ _ _) ⟨rdr_more (rdr_alloc hJ.1 _) (by omega), jslot_alloc hJ.2 _⟩
      cases hd
      refine tL_new rfl (by have := rdr_lt hJ.1; omega) (by have := jslot_lt hJ.2; omega) ?_
      intro v hv
      simp only [List.mem_cons, List.not_mem_nil, or_false] at hv
      rcases hv with rfl | rfl | rfl | rfl <;> exact ⟨_, by omega, by omega, rfl⟩
    · cases (show some _ = some o from ho)
      have HK := Lib.hid hK
      have HN := Lib.hid hN
      clear hK hdep hfr hsz ho hN
      go_simp
      refine HK.out _ _ (fun d hd => ?_) (Nx.alloc _ _ _ _) ⟨rdr_more (rdr_alloc hJ.1 _) (by omega), jslot_alloc hJ.2 _⟩
      cases hd
      refine tL_new rfl (by have := rdr_lt hJ.1; omega) (by have := jslot_lt hJ.2; omega) ?_
      intro v hv
      simp only [List.mem_cons, List.not_mem_nil, or_false] at hv
      rcases hv with rfl | rfl | rfl | rfl | rfl | rfl | rfl | rfl <;> exact ⟨_, by omega, by omega, rfl⟩
    · cases (show some _ = some o from ho)
      have h9 : b.tmps.getD 9 undef = .pointer (some ⟨R, 0, none⟩) := hfr 9 (noDst_of (by kernel_rfl))
      have HK := Lib.hid hK
      have HN := Lib.hid hN
      clear hK hdep hfr hsz ho hN
      go_simp
      exact HK.out _ _ (fun d hd => by cases hd; exact rfl) (Nx.refl _ _ _) ⟨rdr_more hJ.1 (by omega), hJ.2⟩
    · cases (show some _ = some o from ho)
      have h25 : tP R (b.tmps.getD 25 undef) := hdep 25 (reads_of (by kernel_rfl)) ⟨7, _, rfl, rfl⟩
      unfold tP at h25
      have HK := Lib.hid hK
      have HN := Lib.hid hN
      clear hK hdep hfr hsz ho hN
      go_simp
      refine (pick_any _ R _ _ hJ.1 (by omega)).mono ?_
      rintro e w' ⟨k, rfl, hk, hg, hr⟩
      exact HK.out _ _ (fun d hd => by cases hd; exact ⟨k, rfl, by omega, by omega⟩) (Nx.of_grown hg) ⟨hr, jslot_grown hJ.2 hg hRS⟩
    · cases (show some _ = some o from ho)
      have h24 : tL R w.heap.size 8 (0) (3) (b.tmps.getD 24 undef) wb := hdep 24 (reads_of (by kernel_rfl)) ⟨6, _, rfl, rfl⟩
      obtain ⟨g24, e24, gR24, gS24, hc24⟩ := h24
      have h26 : tI (0) (7) (b.tmps.getD 26 undef) := hdep 26 (reads_of (by kernel_rfl)) ⟨8, _, rfl, rfl⟩
      obtain ⟨x26, e26, l26, u26⟩ := h26
      have f26 := getD_opt e26
      obtain ⟨k26, rfl⟩ := Int.eq_ofNat_of_zero_le (show 0 ≤ x26 by omega)
      obtain ⟨z24, lz, uz, hz⟩ := hc24 k26 (by omega)
      have hlt : (k26 : Int) < 8 := by omega
      clear hc24
      have HK := Lib.hid hK
      have HN := Lib.hid hN
      clear hK hdep hfr hsz ho hN
      go_simp
      exact HK.out _ _ (fun d hd => by cases hd; exact ⟨g24, k26, z24, rfl, gR24, gS24, by omega, by omega, hz⟩) (Nx.refl _ _ _) ⟨rdr_more hJ.1 (by omega), hJ.2⟩
    · cases (show some _ = some o from ho)
      have h27 : tA R w.heap.size (0) (3) (b.tmps.getD 27 undef) wb := hdep 27 (reads_of (by kernel_rfl)) ⟨9, _, rfl, rfl⟩
      obtain ⟨g27, j27, z27, e27, gR27, gS27, l27, u27, hz27⟩ := h27
      have HK := Lib.hid hK
      have HN := Lib.hid hN
      clear hK hdep hfr hsz ho hN
      go_simp
      exact HK.out _ _ (fun d hd => by cases hd; exact ⟨z27, rfl, by omega, by omega⟩) (Nx.refl _ _ _) ⟨rdr_more hJ.1 (by omega), hJ.2⟩
    · cases (show some _ = some o from ho)
      have h23 : tL R w.heap.size 4 (-1) (1000001) (b.tmps.getD 23 undef) wb := hdep 23 (reads_of (by kernel_rfl)) ⟨5, _, rfl, rfl⟩
      obtain ⟨g23, e23, gR23, gS23, hc23⟩ := h23
      have h28 : tI (0) (3) (b.tmps.getD 28 undef) := hdep 28 (reads_of (by kernel_rfl)) ⟨10, _, rfl, rfl⟩
      obtain ⟨x28, e28, l28, u28⟩ := h28
      have f28 := getD_opt e28
      obtain ⟨k28, rfl⟩ := Int.eq_ofNat_of_zero_le (show 0 ≤ x28 by omega)
      obtain ⟨z23, lz, uz, hz⟩ := hc23 k28 (by omega)
      have hlt : (k28 : Int) < 4 := by omega
      clear hc23
      have HK := Lib.hid hK
      have HN := Lib.hid hN
      clear hK hdep hfr hsz ho hN
      go_simp
      exact HK.out _ _ (fun d hd => by cases hd; exact ⟨g23, k28, z23, rfl, gR23, gS23, by omega, by omega, hz⟩) (Nx.refl _ _ _) ⟨rdr_more hJ.1 (by omega), hJ.2⟩
    · cases (show some _ = some o from ho)
      have h29 : tA R w.heap.size (-1) (1000001) (b.tmps.getD 29 undef) wb := hdep 29 (reads_of (by kernel_rfl)) ⟨11, _, rfl, rfl⟩
      obtain ⟨g29, j29, z29, e29, gR29, gS29, l29, u29, hz29⟩ := h29
      have HK := Lib.hid hK
      have HN := Lib.hid hN
      clear hK hdep hfr hsz ho hN
      go_simp
      exact HK.out _ _ (fun d hd => by cases hd; exact ⟨z29, rfl, by omega, by omega⟩) (Nx.refl _ _ _) ⟨rdr_more hJ.1 (by omega), hJ.2⟩
    · cases (show some _ = some o from ho)
      have h2 : b.tmps.getD 2 undef = .pointer (some ⟨w.heap.size, 0, none⟩) := hfr 2 (noDst_of (by kernel_rfl))
      have h18 : tKp (b.tmps.getD 18 undef) := hdep 18 (reads_of (by kernel_rfl)) ⟨0, _, rfl, rfl⟩
      obtain ⟨x', y', e18, hs18⟩ := h18
      obtain ⟨x0, y0, hs0, ⟨d0, d1⟩, f0, f1⟩ := slotKp_open hJ.2
      have HS18 := Lib.hid hs18
      have HK := Lib.hid hK
      clear hK hdep hfr hsz ho hN hs0 hs18
      go_simp
      exact HK.out undef _ (fun d hd => by cases hd) (nx_store2 _ _ _ _ _) ⟨rdr_more (rdr_setCell' (rdr_setCell' hJ.1 HLS.out (Ne.symm hRS) _) HLS.out (Ne.symm hRS) _) (by omega), slotKp_store hJ.2 HS18.out⟩
    · cases (show some _ = some o from ho)
      have h19 : tN n (b.tmps.getD 19 undef) := hdep 19 (reads_of (by kernel_rfl)) ⟨1, _, rfl, rfl⟩
      unfold tN at h19
      have HK := Lib.hid hK
      clear hK hdep hfr hsz ho hN
      go_simp
      exact HK.out _ _ (fun d hd => by cases hd; exact (rfl : tN n _)) (Nx.refl _ _ _) ⟨rdr_more hJ.1 (by omega), hJ.2⟩
    · cases (show some _ = some o from ho)
      have h20 : tN m (b.tmps.getD 20 undef) := hdep 20 (reads_of (by kernel_rfl)) ⟨2, _, rfl, rfl⟩
      unfold tN at h20
      have HK := Lib.hid hK
      clear hK hdep hfr hsz ho hN
      go_simp
      exact HK.out _ _ (fun d hd => by cases hd; exact (rfl : tN m _)) (Nx.refl _ _ _) ⟨rdr_more hJ.1 (by omega), hJ.2⟩
    · cases (show some _ = some o from ho)
      have h30 : tI (-1) (1000001) (b.tmps.getD 30 undef) := hdep 30 (reads_of (by kernel_rfl)) ⟨12, _, rfl, rfl⟩
      obtain ⟨x30, e30, l30, u30⟩ := h30
      have f30 := getD_opt e30
      have HK := Lib.hid hK
      have HN := Lib.hid hN
      clear hK hdep hfr hsz ho hN
      go_simp
      exact HK.out _ _ (fun d hd => by cases hd; exact ⟨x30, rfl, by omega, by omega⟩) (Nx.refl _ _ _) ⟨rdr_more hJ.1 (by omega), hJ.2⟩
  · intro b wb hsz hdf hfr hty hN hJ
    have h2 : b.tmps.getD 2 undef = .pointer (some ⟨w.heap.size, 0, none⟩) := hfr 2 (noDst_of (by kernel_rfl))
    have e3 : tN n (b.tmps.getD 3 undef) := hty 14 _ 3 rfl rfl
    have e4 : tN m (b.tmps.getD 4 undef) := hty 15 _ 4 rfl rfl
    unfold tN at e3 e4
    obtain ⟨x5, e5, l5, u5⟩ : tI (-1) 1000001 (b.tmps.getD 5 undef) := hty 16 _ 5 rfl rfl
    obtain ⟨c, hc, hJ1, hJ2⟩ := hJ
    obtain ⟨x0, y0, hs0, ⟨d0, d1⟩, f0, f1⟩ := slotKp_open hJ2
    have HN := Lib.hid hN
    have HD : Hid (b.defers = []) := Lib.hid hdf
    have HS0 := Lib.hid hs0
    have g2 := getD_opt h2
    have g3 := getD_opt e3
    have g4 := getD_opt e4
    have g5 := getD_opt e5
    clear hsz hdf hfr hty hN hJ1 hJ2 hs0
    go_wp2
    refine bodyPost_ret (v := .tuple #[kp _ _, .int .i64 _, .int .i64 _, .int .i64 _]) (by simp [results, Try.results28, go_sem, g2, g3, g4, g5, d0, d1]; exact ⟨⟨rfl, rfl⟩, rfl, rfl, rfl⟩) HD.out ?_
    exact ⟨_, _, _, _, _, rfl, HS0.out, HNN.out, HMM.out, ⟨l5, u5⟩, below_of_nx HX.out (by omega) (Nat.le_refl _) HN.out⟩
end Go.Proofs.Ytgbbobpakjlddaa
