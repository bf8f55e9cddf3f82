/-
  The drawing of a host and a time.
-/
import Derived.Test.YtkdpambhdjinjaaLawHost
namespace Go.Proofs.Ytkdpambhdjinjaa
open Go.ChangeShapes Go.WideShapes Go.ChangeAt Go.RowKit Go.Joins
set_option linter.unusedVariables false
set_option linter.unusedSimpArgs false

def dmtT (R S : Nat) (t : Tmp) (v : Value) (w : World) : Prop :=
  match t with
  | 3 => tI (-1) (1000000001) v
  | 10 => tSv v
  | 11 => tP R v
  | 12 => tI (0) (255) v
  | 13 => tI (0) (2040) v
  | 14 => tA R S (0) (1000000001) v w
  | 15 => tI (0) (1000000001) v
  | 16 => tA R S (0) (1000000001) v w
  | 17 => tI (0) (1000000001) v
  | 18 => tI (-1) (1000000000) v
  | 19 => tL R S 3 (-1) (1000000001) v w
  | 20 => tP R v
  | 21 => tI (0) (2) v
  | 22 => tA R S (-1) (1000000001) v w
  | 23 => tI (-1) (1000000001) v
  | _ => True
theorem dmtT_keep (R S : Nat) (t : Tmp) (v : Value) (w w' : World) (hN : Nx R S w w') (h : dmtT R S t v w) : dmtT R S t v w' := by
  unfold dmtT at h ⊢
  split at h <;> first | exact h | exact tL_keep hN h | exact tA_keep hN h | trivial

set_option maxHeartbeats 4000000 in
theorem dmt_any (a : Option Addr) (len cap : Nat) (zs : List Int) (w0 w : World) (h : IsCode w0 a len cap zs) (hB : Below w0.heap.size w0 w) :
    Calls Try.prog 19 #[.slice a len cap] w fun e w' => ∃ (s : ByteArray) (f u n : Int), e = .returned (.tuple #[sv s f u, .int .i64 n]) ∧ hostSm s f u ∧ (-1 ≤ n ∧ n ≤ 1000000001) ∧ Below w.heap.size w w' := by
  have H := Lib.hid h; clear h
  have HLS : Hid (w0.heap.size ≤ w.heap.size) := Lib.hid hB.size
  have HB := Lib.hid hB; clear hB
  go_enter Try.func19, Try.ntmps19
  go_wp2_with fail
  refine (open_any _ _ _ _ _ _ H.out (HB.out.alloc HB.out.size _)).mono ?_
  rintro e w1 ⟨R, rfl, hb, hR, hR2, hr⟩
  have HB1 := Lib.hid hb; have HR := Lib.hid hr; clear hb hr
  simp only [World.size_alloc] at hR
  go_wp2_with fail
  refine (l20h_any _ _ 0 _ HR.out (by omega) (by omega)).mono ?_
  rintro e w2 ⟨s, f, u, rfl, hs, hg, hr⟩
  have HB2 := Lib.hid (below_of_grown HB1.out (by simp only [World.size_alloc]; omega) hg)
  have HSM := Lib.hid hs
  have HR2 := Lib.hid hr
  have hR3 := rdr_lt hr
  clear hg hr hs
  have hRS : R ≠ w.heap.size := by omega
  have hBR : w2.heap.size ≠ R := by omega
  have hz2 := HB2.out.size
  simp only [World.size_alloc] at hz2
  have hBS : w2.heap.size ≠ w.heap.size := by omega
  go_wp2_with fail
  have b0 : (w2.alloc (.cells #[.string s, .int .i64 f, .int .i64 u] 26)).cell? ⟨w2.heap.size, 0, none⟩ = some (.string s) := by simp [go_sem]
  have b1 : (w2.alloc (.cells #[.string s, .int .i64 f, .int .i64 u] 26)).cell? ⟨w2.heap.size, 1, none⟩ = some (.int .i64 f) := by simp [go_sem]
  have b2 : (w2.alloc (.cells #[.string s, .int .i64 f, .int .i64 u] 26)).cell? ⟨w2.heap.size, 2, none⟩ = some (.int .i64 u) := by simp [go_sem]
  refine wp_region_typed R w.heap.size (dmtT R w.heap.size) (fun c w' => Rdr w' w0.heap.size R (0 + 100 + c) ∧ SlotSv w' w.heap.size) (by kernel_rfl) (regOk_of (by kernel_rfl)) (dmtT_keep R w.heap.size) ⟨rdr_drew (rdr_alloc HR2.out _), jslot_drew (jslot_alloc (jslot_below slotSv_new HB2.out (by simp)) _)⟩ ?_ ?_
  · intro i o c b wb ho hc hJ hN hsz hfr hdep K hK
    have hi := (Array.getElem?_eq_some_iff.1 ho).1
    simp only [List.size_toArray, List.length_cons, List.length_nil] at hi hc
    have hcases : i = 0 ∨ i = 1 ∨ i = 2 ∨ i = 3 ∨ i = 4 ∨ i = 5 ∨ i = 6 ∨ i = 7 ∨ i = 8 ∨ i = 9 ∨ i = 10 ∨ i = 11 ∨ i = 12 ∨ i = 13 ∨ i = 14 ∨ i = 15 := by omega
    rcases hcases with rfl | rfl | rfl | rfl | rfl | rfl | rfl | rfl | rfl | rfl | rfl | rfl | rfl | rfl | rfl | rfl
    · cases (show some _ = some o from ho)
      have h5 : b.tmps.getD 5 undef = .pointer (some ⟨w2.heap.size, 0, none⟩) := hfr 5 (noDst_of (by kernel_rfl))
      have c0 := hN.cell b0 hBR hBS; have c1 := hN.cell b1 hBR hBS; have c2 := hN.cell b2 hBR hBS
      have HK := Lib.hid hK
      clear hK hdep hfr hsz ho hN
      go_simp
      exact HK.out _ _ (fun d hd => by cases hd; exact ⟨_, _, _, rfl, HSM.out⟩) (Nx.refl _ _ _) ⟨rdr_more hJ.1 (by omega), hJ.2⟩
    · cases (show some _ = some o from ho)
      have h4 : b.tmps.getD 4 undef = .pointer (some ⟨R, 0, none⟩) := hfr 4 (noDst_of (by kernel_rfl))
      have HK := Lib.hid hK
      have HN := Lib.hid hN
      clear hK hdep hfr hsz ho hN
      go_simp
      exact HK.out _ _ (fun d hd => by cases hd; exact rfl) (Nx.refl _ _ _) ⟨rdr_more hJ.1 (by omega), hJ.2⟩
    · cases (show some _ = some o from ho)
      have h11 : tP R (b.tmps.getD 11 undef) := hdep 11 (reads_of (by kernel_rfl)) ⟨1, _, rfl, rfl⟩
      unfold tP at h11
      have HK := Lib.hid hK
      have HN := Lib.hid hN
      clear hK hdep hfr hsz ho hN
      go_simp
      refine (pick_any _ R _ _ hJ.1 (by omega)).mono ?_
      rintro e w' ⟨k, rfl, hk, hg, hr⟩
      exact HK.out _ _ (fun d hd => by cases hd; exact ⟨k, rfl, by omega, by omega⟩) (Nx.of_grown hg) ⟨hr, jslot_grown hJ.2 hg hRS⟩
    · cases (show some _ = some o from ho)
      have h12 : tI (0) (255) (b.tmps.getD 12 undef) := hdep 12 (reads_of (by kernel_rfl)) ⟨2, _, rfl, rfl⟩
      obtain ⟨x12, e12, l12, u12⟩ := h12
      have f12 := getD_opt e12
      have HK := Lib.hid hK
      have HN := Lib.hid hN
      clear hK hdep hfr hsz ho hN
      go_simp
      exact HK.out _ _ (fun d hd => by cases hd; exact ⟨_, rfl, by first | omega | (rw [IntWalk.i64_in _ (by omega)]; omega), by first | omega | (rw [IntWalk.i64_in _ (by omega)]; omega)⟩) (Nx.refl _ _ _) ⟨rdr_more hJ.1 (by omega), hJ.2⟩
    · cases (show some _ = some o from ho)
      have h5 : b.tmps.getD 5 undef = .pointer (some ⟨w2.heap.size, 0, none⟩) := hfr 5 (noDst_of (by kernel_rfl))
      have c2 := hN.cell b2 hBR hBS
      have hsm := HSM.out; unfold hostSm at hsm
      have HK := Lib.hid hK
      clear hK hdep hfr hsz ho hN
      go_simp
      exact HK.out _ _ (fun d hd => by cases hd; exact ⟨w2.heap.size, 2, u, rfl, hBR, hBS, by omega, by omega, c2⟩) (Nx.refl _ _ _) ⟨rdr_more hJ.1 (by omega), hJ.2⟩
    · cases (show some _ = some o from ho)
      have h14 : tA R w.heap.size (0) (1000000001) (b.tmps.getD 14 undef) wb := hdep 14 (reads_of (by kernel_rfl)) ⟨4, _, rfl, rfl⟩
      obtain ⟨g14, j14, z14, e14, gR14, gS14, l14, u14, hz14⟩ := h14
      have HK := Lib.hid hK
      have HN := Lib.hid hN
      clear hK hdep hfr hsz ho hN
      go_simp
      exact HK.out _ _ (fun d hd => by cases hd; exact ⟨z14, rfl, by omega, by omega⟩) (Nx.refl _ _ _) ⟨rdr_more hJ.1 (by omega), hJ.2⟩
    · cases (show some _ = some o from ho)
      have h5 : b.tmps.getD 5 undef = .pointer (some ⟨w2.heap.size, 0, none⟩) := hfr 5 (noDst_of (by kernel_rfl))
      have c2 := hN.cell b2 hBR hBS
      have hsm := HSM.out; unfold hostSm at hsm
      have HK := Lib.hid hK
      clear hK hdep hfr hsz ho hN
      go_simp
      exact HK.out _ _ (fun d hd => by cases hd; exact ⟨w2.heap.size, 2, u, rfl, hBR, hBS, by omega, by omega, c2⟩) (Nx.refl _ _ _) ⟨rdr_more hJ.1 (by omega), hJ.2⟩
    · cases (show some _ = some o from ho)
      have h16 : tA R w.heap.size (0) (1000000001) (b.tmps.getD 16 undef) wb := hdep 16 (reads_of (by kernel_rfl)) ⟨6, _, rfl, rfl⟩
      obtain ⟨g16, j16, z16, e16, gR16, gS16, l16, u16, hz16⟩ := h16
      have HK := Lib.hid hK
      have HN := Lib.hid hN
      clear hK hdep hfr hsz ho hN
      go_simp
      exact HK.out _ _ (fun d hd => by cases hd; exact ⟨z16, rfl, by omega, by omega⟩) (Nx.refl _ _ _) ⟨rdr_more hJ.1 (by omega), hJ.2⟩
    · cases (show some _ = some o from ho)
      have h17 : tI (0) (1000000001) (b.tmps.getD 17 undef) := hdep 17 (reads_of (by kernel_rfl)) ⟨7, _, rfl, rfl⟩
      obtain ⟨x17, e17, l17, u17⟩ := h17
      have f17 := getD_opt e17
      have HK := Lib.hid hK
      have HN := Lib.hid hN
      clear hK hdep hfr hsz ho hN
      go_simp
      exact HK.out _ _ (fun d hd => by cases hd; exact ⟨_, rfl, by first | omega | (rw [IntWalk.i64_in _ (by omega)]; omega), by first | omega | (rw [IntWalk.i64_in _ (by omega)]; omega)⟩) (Nx.refl _ _ _) ⟨rdr_more hJ.1 (by omega), hJ.2⟩
    · cases (show some _ = some o from ho)
      have h13 : tI (0) (2040) (b.tmps.getD 13 undef) := hdep 13 (reads_of (by kernel_rfl)) ⟨3, _, rfl, rfl⟩
      obtain ⟨x13, e13, l13, u13⟩ := h13
      have f13 := getD_opt e13
      have h15 : tI (0) (1000000001) (b.tmps.getD 15 undef) := hdep 15 (reads_of (by kernel_rfl)) ⟨5, _, rfl, rfl⟩
      obtain ⟨x15, e15, l15, u15⟩ := h15
      have f15 := getD_opt e15
      have h18 : tI (-1) (1000000000) (b.tmps.getD 18 undef) := hdep 18 (reads_of (by kernel_rfl)) ⟨8, _, rfl, rfl⟩
      obtain ⟨x18, e18, l18, u18⟩ := h18
      have f18 := getD_opt e18
      have HK := Lib.hid hK
      have HN := Lib.hid hN
      clear hK hdep hfr hsz ho hN
      go_simp
      refine HK.out _ _ (fun d hd => ?_) (Nx.alloc _ _ _ _) ⟨rdr_more (rdr_alloc hJ.1 _) (by omega), jslot_alloc hJ.2 _⟩
      cases hd
      refine tL_new rfl (by have := rdr_lt hJ.1; omega) (by have := jslot_lt hJ.2; omega) ?_
      intro v hv
      simp only [List.mem_cons, List.not_mem_nil, or_false] at hv
      rcases hv with rfl | rfl | rfl <;> exact ⟨_, by omega, by omega, rfl⟩
    · cases (show some _ = some o from ho)
      have h4 : b.tmps.getD 4 undef = .pointer (some ⟨R, 0, none⟩) := hfr 4 (noDst_of (by kernel_rfl))
      have HK := Lib.hid hK
      have HN := Lib.hid hN
      clear hK hdep hfr hsz ho hN
      go_simp
      exact HK.out _ _ (fun d hd => by cases hd; exact rfl) (Nx.refl _ _ _) ⟨rdr_more hJ.1 (by omega), hJ.2⟩
    · cases (show some _ = some o from ho)
      have h20 : tP R (b.tmps.getD 20 undef) := hdep 20 (reads_of (by kernel_rfl)) ⟨10, _, rfl, rfl⟩
      unfold tP at h20
      have HK := Lib.hid hK
      have HN := Lib.hid hN
      clear hK hdep hfr hsz ho hN
      go_simp
      refine (pick_any _ R _ _ hJ.1 (by omega)).mono ?_
      rintro e w' ⟨k, rfl, hk, hg, hr⟩
      exact HK.out _ _ (fun d hd => by cases hd; exact ⟨k, rfl, by omega, by omega⟩) (Nx.of_grown hg) ⟨hr, jslot_grown hJ.2 hg hRS⟩
    · cases (show some _ = some o from ho)
      have h19 : tL R w.heap.size 3 (-1) (1000000001) (b.tmps.getD 19 undef) wb := hdep 19 (reads_of (by kernel_rfl)) ⟨9, _, rfl, rfl⟩
      obtain ⟨g19, e19, gR19, gS19, hc19⟩ := h19
      have h21 : tI (0) (2) (b.tmps.getD 21 undef) := hdep 21 (reads_of (by kernel_rfl)) ⟨11, _, rfl, rfl⟩
      obtain ⟨x21, e21, l21, u21⟩ := h21
      have f21 := getD_opt e21
      obtain ⟨k21, rfl⟩ := Int.eq_ofNat_of_zero_le (show 0 ≤ x21 by omega)
      obtain ⟨z19, lz, uz, hz⟩ := hc19 k21 (by omega)
      have hlt : (k21 : Int) < 3 := by omega
      clear hc19
      have HK := Lib.hid hK
      have HN := Lib.hid hN
      clear hK hdep hfr hsz ho hN
      go_simp
      exact HK.out _ _ (fun d hd => by cases hd; exact ⟨g19, k21, z19, rfl, gR19, gS19, by omega, by omega, hz⟩) (Nx.refl _ _ _) ⟨rdr_more hJ.1 (by omega), hJ.2⟩
    · cases (show some _ = some o from ho)
      have h22 : tA R w.heap.size (-1) (1000000001) (b.tmps.getD 22 undef) wb := hdep 22 (reads_of (by kernel_rfl)) ⟨12, _, rfl, rfl⟩
      obtain ⟨g22, j22, z22, e22, gR22, gS22, l22, u22, hz22⟩ := h22
      have HK := Lib.hid hK
      have HN := Lib.hid hN
      clear hK hdep hfr hsz ho hN
      go_simp
      exact HK.out _ _ (fun d hd => by cases hd; exact ⟨z22, rfl, by omega, by omega⟩) (Nx.refl _ _ _) ⟨rdr_more hJ.1 (by omega), hJ.2⟩
    · cases (show some _ = some o from ho)
      have h2 : b.tmps.getD 2 undef = .pointer (some ⟨w.heap.size, 0, none⟩) := hfr 2 (noDst_of (by kernel_rfl))
      have h10 : tSv (b.tmps.getD 10 undef) := hdep 10 (reads_of (by kernel_rfl)) ⟨0, _, rfl, rfl⟩
      obtain ⟨s', f', u', e10, hs10⟩ := h10
      obtain ⟨s0, f0, u0, hs0, ⟨d0, d1, d2⟩, g0, g1, g2⟩ := slotSv_open hJ.2
      have HS10 := Lib.hid hs10
      have HK := Lib.hid hK
      clear hK hdep hfr hsz ho hN hs0 hs10
      go_simp
      exact HK.out undef _ (fun d hd => by cases hd) (nx_store3 _ _ _ _ _ _) ⟨rdr_more (rdr_setCell' (rdr_setCell' (rdr_setCell' hJ.1 HLS.out (Ne.symm hRS) _) HLS.out (Ne.symm hRS) _) HLS.out (Ne.symm hRS) _) (by omega), slotSv_store hJ.2 HS10.out⟩
    · cases (show some _ = some o from ho)
      have h23 : tI (-1) (1000000001) (b.tmps.getD 23 undef) := hdep 23 (reads_of (by kernel_rfl)) ⟨13, _, rfl, rfl⟩
      obtain ⟨x23, e23, l23, u23⟩ := h23
      have f23 := getD_opt e23
      have HK := Lib.hid hK
      have HN := Lib.hid hN
      clear hK hdep hfr hsz ho hN
      go_simp
      exact HK.out _ _ (fun d hd => by cases hd; exact ⟨x23, rfl, by omega, by omega⟩) (Nx.refl _ _ _) ⟨rdr_more hJ.1 (by omega), hJ.2⟩
  · intro b wb hsz hdf hfr hty hN hJ
    have h2 : b.tmps.getD 2 undef = .pointer (some ⟨w.heap.size, 0, none⟩) := hfr 2 (noDst_of (by kernel_rfl))
    obtain ⟨x3, e3, l3, u3⟩ : tI (-1) (1000000001) (b.tmps.getD 3 undef) := hty 15 _ 3 rfl rfl
    obtain ⟨c, hc, hJ1, hJ2⟩ := hJ
    obtain ⟨s0, f0, u0, hs0, ⟨d0, d1, d2⟩, g0, g1, g2⟩ := slotSv_open hJ2
    have HN := Lib.hid hN
    have HD : Hid (b.defers = []) := Lib.hid hdf
    have HS0 := Lib.hid hs0
    have k2 := getD_opt h2
    have k3 := getD_opt e3
    clear hsz hdf hfr hty hN hJ1 hJ2 hs0
    go_wp2
    refine bodyPost_ret (v := .tuple #[sv _ _ _, .int .i64 _]) (by simp [results, Try.results19, go_sem, k2, k3, d0, d1, d2]; exact ⟨⟨rfl, rfl, rfl⟩, rfl⟩) HD.out ?_
    exact ⟨_, _, _, _, rfl, HS0.out, ⟨l3, u3⟩, below_of_nx ((below_slot rfl HB2.out).alloc (below_slot rfl HB2.out).size _) (by omega) (Nat.le_refl _) HN.out⟩
end Go.Proofs.Ytkdpambhdjinjaa
