/-
  The drawing of a bucket, a time and how much.
-/
import Derived.Test.YtkdogkpdgpppkaaDrawFill
namespace Go.Proofs.Ytkdogkpdgpppkaa
open Go.ChangeShapes Go.WideShapes Go.ChangeAt Go.RowKit Go.Joins
set_option linter.unusedVariables false

def tN (n : Int) (v : Value) : Prop := v = .int .i64 n
def dabT (n : Int) (R S : Nat) (t : Tmp) (v : Value) (w : World) : Prop :=
  match t with
  | 3 => tN n v
  | 4 => tI (0) (1001) v
  | 15 => tK v
  | 16 => tN n v
  | 17 => tP R v
  | 18 => tI (0) (59) v
  | 19 => tI (1) (60) v
  | 20 => tL R S 4 (0) (1001) v w
  | 21 => tL R S 8 (0) (3) v w
  | 22 => tP R v
  | 23 => tI (0) (7) v
  | 24 => tA R S (0) (3) v w
  | 25 => tI (0) (3) v
  | 26 => tA R S (0) (1001) v w
  | 27 => tI (0) (1001) v
  | _ => True
theorem dabT_keep (n : Int) (R S : Nat) (t : Tmp) (v : Value) (w w' : World) (hN : Nx R S w w') (h : dabT n R S t v w) : dabT n R S t v w' := by
  unfold dabT at h ⊢
  split at h <;> first | exact h | exact tL_keep hN h | exact tA_keep hN h | trivial

set_option maxHeartbeats 4000000 in
theorem dab_any (a : Option Addr) (len cap : Nat) (zs : List Int) (w0 w : World) (h : IsCode w0 a len cap zs) (hB : Below w0.heap.size w0 w) :
    Calls Try.prog 25 #[.slice a len cap] w fun e w' => ∃ x y z t n m : Int, e = .returned (.tuple #[bk x y z t, .int .i64 n, .int .i64 m]) ∧ smallBk x y z t ∧ (-20 ≤ n ∧ n ≤ 2000100) ∧ (0 ≤ m ∧ m ≤ 1001) ∧ Below w.heap.size w w' := by
  have H := Lib.hid h; clear h
  have HLS : Hid (w0.heap.size ≤ w.heap.size) := Lib.hid hB.size
  have HB := Lib.hid hB; clear hB
  go_enter Try.func25, Try.ntmps25
  go_wp2_with fail
  refine (dfb_any _ _ _ _ _ _ H.out (HB.out.alloc HB.out.size _)).mono ?_
  rintro e w1 ⟨x, y, z, t, n, rfl, hs, hn, hb⟩
  have HB1 := Lib.hid hb; have HSM := Lib.hid hs; have HNN := Lib.hid hn
  have hz1 := HB1.out.size
  simp only [World.size_alloc] at hz1
  clear hb hs hn
  go_wp2_with fail
  refine (open_any _ _ _ _ _ _ H.out ((bthen (HB.out.alloc HB.out.size _) HB1.out).alloc (bthen (HB.out.alloc HB.out.size _) HB1.out).size _)).mono ?_
  rintro e w2 ⟨R, rfl, hb, hR, hR2, hr⟩
  have HB2 := Lib.hid hb; have HR2 := Lib.hid hr; clear hb hr
  simp only [World.size_alloc] at hR
  have hRS : R ≠ w.heap.size := by omega
  have hBR : w1.heap.size ≠ R := by omega
  have hBS : w1.heap.size ≠ w.heap.size := by omega
  have b0 := slotB HB2.out 0 _ rfl
  have b1 := slotB HB2.out 1 _ rfl
  have b2 := slotB HB2.out 2 _ rfl
  have b3 := slotB HB2.out 3 _ rfl
  have HX : Hid (Below w.heap.size w w2) := Lib.hid (bthen ((below_slot rfl HB1.out).alloc (below_slot rfl HB1.out).size _) HB2.out)
  go_wp2_with fail
  refine wp_region_typed R w.heap.size (dabT n R w.heap.size) (fun c w' => Rdr w' w0.heap.size R c ∧ SlotBk w' w.heap.size) (by kernel_rfl) (regOk_of (by kernel_rfl)) (dabT_keep n R w.heap.size) ⟨rdr_drew HR2.out, jslot_drew (jslot_below (jslot_alloc (jslot_below slotBk_new HB1.out (by simp)) _) HB2.out (by simp; omega))⟩ ?_ ?_
  · intro i o c b wb ho hc hJ hN hsz hfr hdep K hK
    have hi := (Array.getElem?_eq_some_iff.1 ho).1
    simp only [List.size_toArray, List.length_cons, List.length_nil] at hi hc
    have hcases : i = 0 ∨ i = 1 ∨ i = 2 ∨ i = 3 ∨ i = 4 ∨ i = 5 ∨ i = 6 ∨ i = 7 ∨ i = 8 ∨ i = 9 ∨ i = 10 ∨ i = 11 ∨ i = 12 ∨ i = 13 ∨ i = 14 ∨ i = 15 := by omega
    rcases hcases with rfl | rfl | rfl | rfl | rfl | rfl | rfl | rfl | rfl | rfl | rfl | rfl | rfl | rfl | rfl | rfl
    · cases (show some _ = some o from ho)
      have h5 : b.tmps.getD 5 undef = .pointer (some ⟨w1.heap.size, 0, none⟩) := hfr 5 (noDst_of (by kernel_rfl))
      have c0 := hN.cell b0 hBR hBS; have c1 := hN.cell b1 hBR hBS; have c2 := hN.cell b2 hBR hBS; have c3 := hN.cell b3 hBR hBS
      have HK := Lib.hid hK
      clear hK hdep hfr hsz ho hN
      go_simp
      exact HK.out _ _ (fun d hd => by cases hd; exact ⟨_, _, _, _, rfl, HSM.out⟩) (Nx.refl _ _ _) ⟨rdr_more hJ.1 (by omega), hJ.2⟩
    · cases (show some _ = some o from ho)
      have h6 : b.tmps.getD 6 undef = .int .i64 n := hfr 6 (noDst_of (by kernel_rfl))
      have HK := Lib.hid hK
      clear hK hdep hfr hsz ho hN
      go_simp
      exact HK.out _ _ (fun d hd => by cases hd; exact (rfl : tN n _)) (Nx.refl _ _ _) ⟨rdr_more hJ.1 (by omega), hJ.2⟩
    · cases (show some _ = some o from ho)
      have h7 : b.tmps.getD 7 undef = .pointer (some ⟨R, 0, none⟩) := hfr 7 (noDst_of (by kernel_rfl))
      have HK := Lib.hid hK
      have HN := Lib.hid hN
      clear hK hdep hfr hsz ho hN
      go_simp
      exact HK.out _ _ (fun d hd => by cases hd; exact rfl) (Nx.refl _ _ _) ⟨rdr_more hJ.1 (by omega), hJ.2⟩
    · cases (show some _ = some o from ho)
      have h17 : tP R (b.tmps.getD 17 undef) := hdep 17 (reads_of (by kernel_rfl)) ⟨2, _, rfl, rfl⟩
      unfold tP at h17
      have HK := Lib.hid hK
      have HN := Lib.hid hN
      clear hK hdep hfr hsz ho hN
      go_simp
      refine (pick_any _ R _ _ hJ.1 (by omega)).mono ?_
      rintro e w' ⟨k, rfl, hk, hg, hr⟩
      exact HK.out _ _ (fun d hd => by cases hd; exact ⟨k, rfl, by omega, by omega⟩) (Nx.of_grown hg) ⟨hr, jslot_grown hJ.2 hg hRS⟩
    · cases (show some _ = some o from ho)
      have h18 : tI (0) (59) (b.tmps.getD 18 undef) := hdep 18 (reads_of (by kernel_rfl)) ⟨3, _, rfl, rfl⟩
      obtain ⟨x18, e18, l18, u18⟩ := h18
      have f18 := getD_opt e18
      have HK := Lib.hid hK
      have HN := Lib.hid hN
      clear hK hdep hfr hsz ho hN
      go_simp
      exact HK.out _ _ (fun d hd => by cases hd; exact ⟨_, rfl, by first | omega | (rw [IntWalk.i64_in _ (by omega)]; omega), by first | omega | (rw [IntWalk.i64_in _ (by omega)]; omega)⟩) (Nx.refl _ _ _) ⟨rdr_more hJ.1 (by omega), hJ.2⟩
    · cases (show some _ = some o from ho)
      have h19 : tI (1) (60) (b.tmps.getD 19 undef) := hdep 19 (reads_of (by kernel_rfl)) ⟨4, _, rfl, rfl⟩
      obtain ⟨x19, e19, l19, u19⟩ := h19
      have f19 := getD_opt e19
      have HK := Lib.hid hK
      have HN := Lib.hid hN
      clear hK hdep hfr hsz ho hN
      go_simp
      refine HK.out _ _ (fun d hd => ?_) (Nx.alloc _ _ _ _) ⟨rdr_more (rdr_alloc hJ.1 _) (by omega), jslot_alloc hJ.2 _⟩
      cases hd
      refine tL_new rfl (by have := rdr_lt hJ.1; omega) (by have := jslot_lt hJ.2; omega) ?_
      intro v hv
      simp only [List.mem_cons, List.not_mem_nil, or_false] at hv
      rcases hv with rfl | rfl | rfl | rfl <;> exact ⟨_, by omega, by omega, rfl⟩
    · cases (show some _ = some o from ho)
      have HK := Lib.hid hK
      have HN := Lib.hid hN
      clear hK hdep hfr hsz ho hN
      go_simp
      refine HK.out _ _ (fun d hd => ?_) (Nx.alloc _ _ _ _) ⟨rdr_more (rdr_alloc hJ.1 _) (by omega), jslot_alloc hJ.2 _⟩
      cases hd
      refine tL_new rfl (by have := rdr_lt hJ.1; omega) (by have := jslot_lt hJ.2; omega) ?_
      intro v hv
      simp only [List.mem_cons, List.not_mem_nil, or_false] at hv
      rcases hv with rfl | rfl | rfl | rfl | rfl | rfl | rfl | rfl <;> exact ⟨_, by omega, by omega, rfl⟩
    · cases (show some _ = some o from ho)
      have h7 : b.tmps.getD 7 undef = .pointer (some ⟨R, 0, none⟩) := hfr 7 (noDst_of (by kernel_rfl))
      have HK := Lib.hid hK
      have HN := Lib.hid hN
      clear hK hdep hfr hsz ho hN
      go_simp
      exact HK.out _ _ (fun d hd => by cases hd; exact rfl) (Nx.refl _ _ _) ⟨rdr_more hJ.1 (by omega), hJ.2⟩
    · cases (show some _ = some o from ho)
      have h22 : tP R (b.tmps.getD 22 undef) := hdep 22 (reads_of (by kernel_rfl)) ⟨7, _, rfl, rfl⟩
      unfold tP at h22
      have HK := Lib.hid hK
      have HN := Lib.hid hN
      clear hK hdep hfr hsz ho hN
      go_simp
      refine (pick_any _ R _ _ hJ.1 (by omega)).mono ?_
      rintro e w' ⟨k, rfl, hk, hg, hr⟩
      exact HK.out _ _ (fun d hd => by cases hd; exact ⟨k, rfl, by omega, by omega⟩) (Nx.of_grown hg) ⟨hr, jslot_grown hJ.2 hg hRS⟩
    · cases (show some _ = some o from ho)
      have h21 : tL R w.heap.size 8 (0) (3) (b.tmps.getD 21 undef) wb := hdep 21 (reads_of (by kernel_rfl)) ⟨6, _, rfl, rfl⟩
      obtain ⟨g21, e21, gR21, gS21, hc21⟩ := h21
      have h23 : tI (0) (7) (b.tmps.getD 23 undef) := hdep 23 (reads_of (by kernel_rfl)) ⟨8, _, rfl, rfl⟩
      obtain ⟨x23, e23, l23, u23⟩ := h23
      have f23 := getD_opt e23
      obtain ⟨k23, rfl⟩ := Int.eq_ofNat_of_zero_le (show 0 ≤ x23 by omega)
      obtain ⟨z21, lz, uz, hz⟩ := hc21 k23 (by omega)
      have hlt : (k23 : Int) < 8 := by omega
      clear hc21
      have HK := Lib.hid hK
      have HN := Lib.hid hN
      clear hK hdep hfr hsz ho hN
      go_simp
      exact HK.out _ _ (fun d hd => by cases hd; exact ⟨g21, k23, z21, rfl, gR21, gS21, by omega, by omega, hz⟩) (Nx.refl _ _ _) ⟨rdr_more hJ.1 (by omega), hJ.2⟩
    · cases (show some _ = some o from ho)
      have h24 : tA R w.heap.size (0) (3) (b.tmps.getD 24 undef) wb := hdep 24 (reads_of (by kernel_rfl)) ⟨9, _, rfl, rfl⟩
      obtain ⟨g24, j24, z24, e24, gR24, gS24, l24, u24, hz24⟩ := h24
      have HK := Lib.hid hK
      have HN := Lib.hid hN
      clear hK hdep hfr hsz ho hN
      go_simp
      exact HK.out _ _ (fun d hd => by cases hd; exact ⟨z24, rfl, by omega, by omega⟩) (Nx.refl _ _ _) ⟨rdr_more hJ.1 (by omega), hJ.2⟩
    · cases (show some _ = some o from ho)
      have h20 : tL R w.heap.size 4 (0) (1001) (b.tmps.getD 20 undef) wb := hdep 20 (reads_of (by kernel_rfl)) ⟨5, _, rfl, rfl⟩
      obtain ⟨g20, e20, gR20, gS20, hc20⟩ := h20
      have h25 : tI (0) (3) (b.tmps.getD 25 undef) := hdep 25 (reads_of (by kernel_rfl)) ⟨10, _, rfl, rfl⟩
      obtain ⟨x25, e25, l25, u25⟩ := h25
      have f25 := getD_opt e25
      obtain ⟨k25, rfl⟩ := Int.eq_ofNat_of_zero_le (show 0 ≤ x25 by omega)
      obtain ⟨z20, lz, uz, hz⟩ := hc20 k25 (by omega)
      have hlt : (k25 : Int) < 4 := by omega
      clear hc20
      have HK := Lib.hid hK
      have HN := Lib.hid hN
      clear hK hdep hfr hsz ho hN
      go_simp
      exact HK.out _ _ (fun d hd => by cases hd; exact ⟨g20, k25, z20, rfl, gR20, gS20, by omega, by omega, hz⟩) (Nx.refl _ _ _) ⟨rdr_more hJ.1 (by omega), hJ.2⟩
    · cases (show some _ = some o from ho)
      have h26 : tA R w.heap.size (0) (1001) (b.tmps.getD 26 undef) wb := hdep 26 (reads_of (by kernel_rfl)) ⟨11, _, rfl, rfl⟩
      obtain ⟨g26, j26, z26, e26, gR26, gS26, l26, u26, hz26⟩ := h26
      have HK := Lib.hid hK
      have HN := Lib.hid hN
      clear hK hdep hfr hsz ho hN
      go_simp
      exact HK.out _ _ (fun d hd => by cases hd; exact ⟨z26, rfl, by omega, by omega⟩) (Nx.refl _ _ _) ⟨rdr_more hJ.1 (by omega), hJ.2⟩
    · cases (show some _ = some o from ho)
      have h2 : b.tmps.getD 2 undef = .pointer (some ⟨w.heap.size, 0, none⟩) := hfr 2 (noDst_of (by kernel_rfl))
      have h10 : tK (b.tmps.getD 15 undef) := hdep 15 (reads_of (by kernel_rfl)) ⟨0, _, rfl, rfl⟩
      obtain ⟨x', y', z', t', e10, hs10⟩ := h10
      obtain ⟨x0, y0, z0, t0, hs0, ⟨d0, d1, d2, d3⟩, f0, f1, f2, f3⟩ := slotBk_open hJ.2
      have HS10 := Lib.hid hs10
      have HK := Lib.hid hK
      clear hK hdep hfr hsz ho hN hs0 hs10
      go_simp
      exact HK.out undef _ (fun d hd => by cases hd) (nx_store4 _ _ _ _ _ _ _) ⟨rdr_more (rdr_setCell' (rdr_setCell' (rdr_setCell' (rdr_setCell' hJ.1 HLS.out (Ne.symm hRS) _) HLS.out (Ne.symm hRS) _) HLS.out (Ne.symm hRS) _) HLS.out (Ne.symm hRS) _) (by omega), slotBk_store hJ.2 HS10.out⟩
    · cases (show some _ = some o from ho)
      have h16 : tN n (b.tmps.getD 16 undef) := hdep 16 (reads_of (by kernel_rfl)) ⟨1, _, rfl, rfl⟩
      unfold tN at h16
      have HK := Lib.hid hK
      clear hK hdep hfr hsz ho hN
      go_simp
      exact HK.out _ _ (fun d hd => by cases hd; exact (rfl : tN n _)) (Nx.refl _ _ _) ⟨rdr_more hJ.1 (by omega), hJ.2⟩
    · cases (show some _ = some o from ho)
      have h27 : tI (0) (1001) (b.tmps.getD 27 undef) := hdep 27 (reads_of (by kernel_rfl)) ⟨12, _, rfl, rfl⟩
      obtain ⟨x27, e27, l27, u27⟩ := h27
      have f27 := getD_opt e27
      have HK := Lib.hid hK
      have HN := Lib.hid hN
      clear hK hdep hfr hsz ho hN
      go_simp
      exact HK.out _ _ (fun d hd => by cases hd; exact ⟨x27, rfl, by omega, by omega⟩) (Nx.refl _ _ _) ⟨rdr_more hJ.1 (by omega), hJ.2⟩
  · intro b wb hsz hdf hfr hty hN hJ
    have h2 : b.tmps.getD 2 undef = .pointer (some ⟨w.heap.size, 0, none⟩) := hfr 2 (noDst_of (by kernel_rfl))
    have e3 : tN n (b.tmps.getD 3 undef) := hty 14 _ 3 rfl rfl
    unfold tN at e3
    obtain ⟨x4, e4, l4, u4⟩ : tI 0 1001 (b.tmps.getD 4 undef) := hty 15 _ 4 rfl rfl
    obtain ⟨c, hc, hJ1, hJ2⟩ := hJ
    obtain ⟨x0, y0, z0, t0, hs0, ⟨d0, d1, d2, d3⟩, f0, f1, f2, f3⟩ := slotBk_open hJ2
    have HN := Lib.hid hN
    have HD : Hid (b.defers = []) := Lib.hid hdf
    have HS0 := Lib.hid hs0
    have g2 := getD_opt h2
    have g3 := getD_opt e3
    have g4 := getD_opt e4
    clear hsz hdf hfr hty hN hJ1 hJ2 hs0
    go_wp2
    refine bodyPost_ret (v := .tuple #[bk _ _ _ _, .int .i64 _, .int .i64 _]) (by simp [results, Try.results25, go_sem, g2, g3, g4, d0, d1, d2, d3]; exact ⟨⟨rfl, rfl, rfl, rfl⟩, rfl, rfl⟩) HD.out ?_
    exact ⟨_, _, _, _, _, _, rfl, HS0.out, HNN.out, ⟨l4, u4⟩, below_of_nx HX.out (by omega) (Nat.le_refl _) HN.out⟩
end Go.Proofs.Ytkdogkpdgpppkaa
