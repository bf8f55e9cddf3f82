/-
  The drawing of what is kept, a time and a digest.
-/
import Derived.Test.YtgbbobpakjlddaaSlotKept
namespace Go.Proofs.Ytgbbobpakjlddaa
open Go.ChangeShapes Go.WideShapes Go.ChangeAt Go.RowKit Go.Joins
set_option linter.unusedVariables false

def dfcT (n : Int) (R S : Nat) (t : Tmp) (v : Value) (w : World) : Prop :=
  match t with
  | 3 => tN n v
  | 4 => tI (-1) (999983) v
  | 18 => tKp v
  | 19 => tN n v
  | 20 => tP R v
  | 21 => tI (-1) (999983) v
  | _ => True
theorem dfcT_keep (n : Int) (R S : Nat) (t : Tmp) (v : Value) (w w' : World) (hN : Nx R S w w') (h : dfcT n R S t v w) : dfcT n R S t v w' := by
  unfold dfcT at h ⊢
  split at h <;> first | exact h | exact tL_keep hN h | exact tA_keep hN h | trivial

set_option maxHeartbeats 4000000 in
theorem dfc_any (a : Option Addr) (len cap : Nat) (zs : List Int) (w0 w : World) (h : IsCode w0 a len cap zs) (hB : Below w0.heap.size w0 w) :
    Calls Try.prog 27 #[.slice a len cap] w fun e w' => ∃ x y n m : Int, e = .returned (.tuple #[kp x y, .int .i64 n, .int .i64 m]) ∧ smallKp x y ∧ (-1 ≤ n ∧ n ≤ 119) ∧ (-1 ≤ m ∧ m ≤ 999983) ∧ Below w.heap.size w w' := by
  have H := Lib.hid h; clear h
  have HLS : Hid (w0.heap.size ≤ w.heap.size) := Lib.hid hB.size
  have HB := Lib.hid hB; clear hB
  go_enter Try.func27, Try.ntmps27
  go_wp2_with fail
  refine (open_any _ _ _ _ _ _ H.out (HB.out.alloc HB.out.size _)).mono ?_
  rintro e w1 ⟨R, rfl, hb, hR, hR2, hr⟩
  have HB1 := Lib.hid hb; have HR := Lib.hid hr; clear hb hr
  simp only [World.size_alloc] at hR
  go_wp2_with fail
  refine (l20kp_any _ _ 0 _ HR.out (by omega) (by omega)).mono ?_
  rintro e w2 ⟨x, y, rfl, hs, hg, hr⟩
  have HB2 := Lib.hid (below_of_grown HB1.out (by simp only [World.size_alloc]; omega) hg)
  have HSM := Lib.hid hs
  have HR2 := Lib.hid hr
  have hR3 := rdr_lt hr
  clear hg hr hs
  have hRS : R ≠ w.heap.size := by omega
  have hBR : w2.heap.size ≠ R := by omega
  have hz2 := HB2.out.size
  simp only [World.size_alloc] at hz2
  have hBS : w2.heap.size ≠ w.heap.size := by omega
  go_wp2_with fail
  refine (pick_any _ _ (0 + 10) _ (rdr_alloc HR2.out _) (by omega)).mono ?_
  rintro e w3 ⟨k3, rfl, hk3, hg3, hr3⟩
  have G3 := Lib.hid hg3; have HR3 := Lib.hid hr3; clear hg3 hr3
  go_wp2_with fail
  refine (pick_any _ _ (0 + 10 + 1) _ HR3.out (by omega)).mono ?_
  rintro e w4 ⟨k4, rfl, hk4, hg4, hr4⟩
  have G4 := Lib.hid (grown_trans' G3.out hg4); have HR4 := Lib.hid hr4; clear hg4 hr4
  have b0 := slotG G4.out hBR 0 _ rfl
  have b1 := slotG G4.out hBR 1 _ rfl
  have HX : Hid (Below w.heap.size w w4) := Lib.hid (below_of_grown ((below_slot rfl HB2.out).alloc (below_slot rfl HB2.out).size _) (by omega) G4.out)
  have HSL : Hid (SlotKp w4 w.heap.size) := Lib.hid (jslot_grown (jslot_alloc (jslot_below slotKp_new HB2.out (by simp)) _) G4.out hRS)
  go_wp2_with fail
  obtain ⟨n, hn⟩ : ∃ n : Int, (k3 : Int) - (k4 : Int) / 13 = n := ⟨_, rfl⟩
  have hnb : -1 ≤ n ∧ n ≤ 119 := by omega
  rw [hn]
  have HNN := Lib.hid hnb
  clear hnb hn
  refine wp_region_typed R w.heap.size (dfcT n R w.heap.size) (fun c w' => Rdr w' w0.heap.size R (20 + 2 * c) ∧ SlotKp w' w.heap.size) (by kernel_rfl) (regOk_of (by kernel_rfl)) (dfcT_keep n R w.heap.size) ⟨rdr_drew (rdr_more HR4.out (by omega)), jslot_drew HSL.out⟩ ?_ ?_
  · intro i o c b wb ho hc hJ hN hsz hfr hdep K hK
    have hi := (Array.getElem?_eq_some_iff.1 ho).1
    simp only [List.size_toArray, List.length_cons, List.length_nil] at hi hc
    have hcases : i = 0 ∨ i = 1 ∨ i = 2 ∨ i = 3 ∨ i = 4 ∨ i = 5 ∨ i = 6 := by omega
    rcases hcases with rfl | rfl | rfl | rfl | rfl | rfl | rfl
    · cases (show some _ = some o from ho)
      have h6 : b.tmps.getD 6 undef = .pointer (some ⟨w2.heap.size, 0, none⟩) := hfr 6 (noDst_of (by kernel_rfl))
      have c0 := hN.cell b0 hBR hBS; have c1 := hN.cell b1 hBR hBS
      have HK := Lib.hid hK
      clear hK hdep hfr hsz ho hN
      go_simp
      exact HK.out _ _ (fun d hd => by cases hd; exact ⟨_, _, rfl, HSM.out⟩) (Nx.refl _ _ _) ⟨rdr_more hJ.1 (by omega), hJ.2⟩
    · cases (show some _ = some o from ho)
      have h7 : b.tmps.getD 7 undef = .int .i64 n := hfr 7 (noDst_of (by kernel_rfl))
      have HK := Lib.hid hK
      clear hK hdep hfr hsz ho hN
      go_simp
      exact HK.out _ _ (fun d hd => by cases hd; exact (rfl : tN n _)) (Nx.refl _ _ _) ⟨rdr_more hJ.1 (by omega), hJ.2⟩
    · cases (show some _ = some o from ho)
      have h5 : b.tmps.getD 5 undef = .pointer (some ⟨R, 0, none⟩) := hfr 5 (noDst_of (by kernel_rfl))
      have HK := Lib.hid hK
      have HN := Lib.hid hN
      clear hK hdep hfr hsz ho hN
      go_simp
      exact HK.out _ _ (fun d hd => by cases hd; exact rfl) (Nx.refl _ _ _) ⟨rdr_more hJ.1 (by omega), hJ.2⟩
    · cases (show some _ = some o from ho)
      have h20 : tP R (b.tmps.getD 20 undef) := hdep 20 (reads_of (by kernel_rfl)) ⟨2, _, rfl, rfl⟩
      unfold tP at h20
      have HK := Lib.hid hK
      clear hK hdep hfr hsz ho hN
      go_simp
      refine (l20dg_any _ R _ hJ.1 (by omega)).mono ?_
      rintro e w' ⟨k, rfl, hk, hg, hr⟩
      exact HK.out _ _ (fun d hd => by cases hd; exact ⟨k, rfl, hk.1, hk.2⟩) (Nx.of_grown hg) ⟨rdr_more hr (by omega), jslot_grown hJ.2 hg hRS⟩
    · cases (show some _ = some o from ho)
      have h2 : b.tmps.getD 2 undef = .pointer (some ⟨w.heap.size, 0, none⟩) := hfr 2 (noDst_of (by kernel_rfl))
      have h18 : tKp (b.tmps.getD 18 undef) := hdep 18 (reads_of (by kernel_rfl)) ⟨0, _, rfl, rfl⟩
      obtain ⟨x', y', e18, hs18⟩ := h18
      obtain ⟨x0, y0, hs0, ⟨d0, d1⟩, f0, f1⟩ := slotKp_open hJ.2
      have HS18 := Lib.hid hs18
      have HK := Lib.hid hK
      clear hK hdep hfr hsz ho hN hs0 hs18
      go_simp
      exact HK.out undef _ (fun d hd => by cases hd) (nx_store2 _ _ _ _ _) ⟨rdr_more (rdr_setCell' (rdr_setCell' hJ.1 HLS.out (Ne.symm hRS) _) HLS.out (Ne.symm hRS) _) (by omega), slotKp_store hJ.2 HS18.out⟩
    · cases (show some _ = some o from ho)
      have h19 : tN n (b.tmps.getD 19 undef) := hdep 19 (reads_of (by kernel_rfl)) ⟨1, _, rfl, rfl⟩
      unfold tN at h19
      have HK := Lib.hid hK
      clear hK hdep hfr hsz ho hN
      go_simp
      exact HK.out _ _ (fun d hd => by cases hd; exact (rfl : tN n _)) (Nx.refl _ _ _) ⟨rdr_more hJ.1 (by omega), hJ.2⟩
    · cases (show some _ = some o from ho)
      have h21 : tI (-1) (999983) (b.tmps.getD 21 undef) := hdep 21 (reads_of (by kernel_rfl)) ⟨3, _, rfl, rfl⟩
      obtain ⟨x21, e21, l21, u21⟩ := h21
      have f21 := getD_opt e21
      have HK := Lib.hid hK
      have HN := Lib.hid hN
      clear hK hdep hfr hsz ho hN
      go_simp
      exact HK.out _ _ (fun d hd => by cases hd; exact ⟨x21, rfl, by omega, by omega⟩) (Nx.refl _ _ _) ⟨rdr_more hJ.1 (by omega), hJ.2⟩
  · intro b wb hsz hdf hfr hty hN hJ
    have h2 : b.tmps.getD 2 undef = .pointer (some ⟨w.heap.size, 0, none⟩) := hfr 2 (noDst_of (by kernel_rfl))
    have e3 : tN n (b.tmps.getD 3 undef) := hty 5 _ 3 rfl rfl
    unfold tN at e3
    obtain ⟨x4, e4, l4, u4⟩ : tI (-1) 999983 (b.tmps.getD 4 undef) := hty 6 _ 4 rfl rfl
    obtain ⟨c, hc, hJ1, hJ2⟩ := hJ
    obtain ⟨x0, y0, hs0, ⟨d0, d1⟩, f0, f1⟩ := slotKp_open hJ2
    have HN := Lib.hid hN
    have HD : Hid (b.defers = []) := Lib.hid hdf
    have HS0 := Lib.hid hs0
    have g2 := getD_opt h2
    have g3 := getD_opt e3
    have g4 := getD_opt e4
    clear hsz hdf hfr hty hN hJ1 hJ2 hs0
    go_wp2
    refine bodyPost_ret (v := .tuple #[kp _ _, .int .i64 _, .int .i64 _]) (by simp [results, Try.results27, go_sem, g2, g3, g4, d0, d1]; exact ⟨⟨rfl, rfl⟩, rfl, rfl⟩) HD.out ?_
    exact ⟨_, _, _, _, rfl, HS0.out, HNN.out, ⟨l4, u4⟩, below_of_nx HX.out (by omega) (Nat.le_refl _) HN.out⟩
end Go.Proofs.Ytgbbobpakjlddaa
