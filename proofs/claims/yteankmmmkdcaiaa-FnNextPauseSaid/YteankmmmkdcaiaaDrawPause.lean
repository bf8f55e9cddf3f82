/-
  The drawing of pauses.
-/
import Derived.Test.YteankmmmkdcaiaaDraw
import Derived.Test.YteankmmmkdcaiaaPause
import Derived.Test.YteankmmmkdcaiaaTyped
namespace Go.Proofs.Yteankmmmkdcaiaa
open Go.ChangeShapes Go.WideShapes Go.ChangeAt Go.RowKit Go.Joins
set_option linter.unusedVariables false

def dnpT (R : Nat) (t : Tmp) (v : Value) (w : World) : Prop :=
  match t with
  | 2 => tI (0) (2000) v
  | 3 => tB v
  | 7 => tP R v
  | 8 => tI (0) (255) v
  | 9 => tI (0) (1020) v
  | 10 => tI (0) (1100) v
  | 11 => tL R R 5 (0) (2000) v w
  | 12 => tL R R 7 (0) (4) v w
  | 13 => tP R v
  | 14 => tI (0) (6) v
  | 15 => tA R R (0) (4) v w
  | 16 => tI (0) (4) v
  | 17 => tA R R (0) (2000) v w
  | 18 => tI (0) (2000) v
  | 19 => tP R v
  | 20 => tI (0) (1) v
  | 21 => tB v
  | _ => True
theorem dnpT_keep (R : Nat) (t : Tmp) (v : Value) (w w' : World) (hN : Nx R R w w') (h : dnpT R t v w) : dnpT R t v w' := by
  unfold dnpT at h ⊢
  split at h <;> first | exact h | exact tL_keep hN h | exact tA_keep hN h | trivial

set_option maxHeartbeats 4000000 in
theorem dnp_any (a : Option Addr) (len cap : Nat) (zs : List Int) (w0 w : World) (h : IsCode w0 a len cap zs) (hB : Below w0.heap.size w0 w) :
    Calls Try.prog 13 #[.slice a len cap] w fun e w' => ∃ (p : Int) (c : Bool), e = .returned (.tuple #[.int .i64 p, .bool c]) ∧ (0 ≤ p ∧ p ≤ 2000) ∧ Below w.heap.size w w' := by
  have H := Lib.hid h; clear h
  have HB := Lib.hid hB; clear hB
  go_enter Try.func13, Try.ntmps13
  go_wp2_with fail
  refine (open_any _ _ _ _ _ _ H.out HB.out).mono ?_
  rintro e w1 ⟨R, rfl, hb, hR, hR2, hr⟩
  have HB1 := Lib.hid hb; have HR := Lib.hid hr; clear hb hr
  go_wp2_with fail
  refine wp_region_typed R R (dnpT R) (fun c w' => Rdr w' R c) (by kernel_rfl) (regOk_of (by kernel_rfl)) (dnpT_keep R) (rdr_drew HR.out) ?_ ?_
  · intro i o c b wb ho hc hJ hN hsz hfr hdep K hK
    have hi := (Array.getElem?_eq_some_iff.1 ho).1
    simp only [List.size_toArray, List.length_cons, List.length_nil] at hi hc
    have hcases : i = 0 ∨ i = 1 ∨ i = 2 ∨ i = 3 ∨ i = 4 ∨ i = 5 ∨ i = 6 ∨ i = 7 ∨ i = 8 ∨ i = 9 ∨ i = 10 ∨ i = 11 ∨ i = 12 ∨ i = 13 ∨ i = 14 ∨ i = 15 ∨ i = 16 := by omega
    rcases hcases with rfl | rfl | rfl | rfl | rfl | rfl | rfl | rfl | rfl | rfl | rfl | rfl | rfl | rfl | rfl | rfl | rfl
    · cases (show some _ = some o from ho)
      have h4 : b.tmps.getD 4 undef = .pointer (some ⟨R, 0, none⟩) := hfr 4 (noDst_of (by kernel_rfl))
      have HK := Lib.hid hK
      have HN := Lib.hid hN
      clear hK hdep hfr hsz ho hN
      go_simp
      exact HK.out _ _ (fun d hd => by cases hd; exact rfl) (Nx.refl _ _ _) (rdr_more hJ (by omega))
    · cases (show some _ = some o from ho)
      have h7 : tP R (b.tmps.getD 7 undef) := hdep 7 (reads_of (by kernel_rfl)) ⟨0, _, rfl, rfl⟩
      unfold tP at h7
      have HK := Lib.hid hK
      have HN := Lib.hid hN
      clear hK hdep hfr hsz ho hN
      go_simp
      refine (pick_any _ R _ _ hJ (by omega)).mono ?_
      rintro e w' ⟨k, rfl, hk, hg, hr⟩
      exact HK.out _ _ (fun d hd => by cases hd; exact ⟨k, rfl, by omega, by omega⟩) (Nx.of_grown hg) hr
    · cases (show some _ = some o from ho)
      have h8 : tI (0) (255) (b.tmps.getD 8 undef) := hdep 8 (reads_of (by kernel_rfl)) ⟨1, _, rfl, rfl⟩
      obtain ⟨x8, e8, l8, u8⟩ := h8
      have f8 := getD_opt e8
      have HK := Lib.hid hK
      have HN := Lib.hid hN
      clear hK hdep hfr hsz ho hN
      go_simp
      exact HK.out _ _ (fun d hd => by cases hd; exact ⟨_, rfl, by first | omega | (rw [IntWalk.i64_in _ (by omega)]; omega), by first | omega | (rw [IntWalk.i64_in _ (by omega)]; omega)⟩) (Nx.refl _ _ _) (rdr_more hJ (by omega))
    · cases (show some _ = some o from ho)
      have h9 : tI (0) (1020) (b.tmps.getD 9 undef) := hdep 9 (reads_of (by kernel_rfl)) ⟨2, _, rfl, rfl⟩
      obtain ⟨x9, e9, l9, u9⟩ := h9
      have f9 := getD_opt e9
      have HK := Lib.hid hK
      have HN := Lib.hid hN
      clear hK hdep hfr hsz ho hN
      go_simp
      exact HK.out _ _ (fun d hd => by cases hd; exact ⟨_, rfl, by first | omega | (rw [IntWalk.i64_in _ (by omega)]; omega), by first | omega | (rw [IntWalk.i64_in _ (by omega)]; omega)⟩) (Nx.refl _ _ _) (rdr_more hJ (by omega))
    · cases (show some _ = some o from ho)
      have h10 : tI (0) (1100) (b.tmps.getD 10 undef) := hdep 10 (reads_of (by kernel_rfl)) ⟨3, _, rfl, rfl⟩
      obtain ⟨x10, e10, l10, u10⟩ := h10
      have f10 := getD_opt e10
      have HK := Lib.hid hK
      have HN := Lib.hid hN
      clear hK hdep hfr hsz ho hN
      go_simp
      refine HK.out _ _ (fun d hd => ?_) (Nx.alloc _ _ _ _) (rdr_more (rdr_alloc hJ _) (by omega))
      cases hd
      refine tL_new rfl (by have := rdr_lt hJ; omega) (by have := rdr_lt hJ; omega) ?_
      intro v hv
      simp only [List.mem_cons, List.not_mem_nil, or_false] at hv
      rcases hv with rfl | rfl | rfl | rfl | rfl <;> exact ⟨_, by omega, by omega, rfl⟩
    · cases (show some _ = some o from ho)
      have HK := Lib.hid hK
      have HN := Lib.hid hN
      clear hK hdep hfr hsz ho hN
      go_simp
      refine HK.out _ _ (fun d hd => ?_) (Nx.alloc _ _ _ _) (rdr_more (rdr_alloc hJ _) (by omega))
      cases hd
      refine tL_new rfl (by have := rdr_lt hJ; omega) (by have := rdr_lt hJ; omega) ?_
      intro v hv
      simp only [List.mem_cons, List.not_mem_nil, or_false] at hv
      rcases hv with rfl | rfl | rfl | rfl | rfl | rfl | rfl <;> exact ⟨_, by omega, by omega, rfl⟩
    · cases (show some _ = some o from ho)
      have h4 : b.tmps.getD 4 undef = .pointer (some ⟨R, 0, none⟩) := hfr 4 (noDst_of (by kernel_rfl))
      have HK := Lib.hid hK
      have HN := Lib.hid hN
      clear hK hdep hfr hsz ho hN
      go_simp
      exact HK.out _ _ (fun d hd => by cases hd; exact rfl) (Nx.refl _ _ _) (rdr_more hJ (by omega))
    · cases (show some _ = some o from ho)
      have h13 : tP R (b.tmps.getD 13 undef) := hdep 13 (reads_of (by kernel_rfl)) ⟨6, _, rfl, rfl⟩
      unfold tP at h13
      have HK := Lib.hid hK
      have HN := Lib.hid hN
      clear hK hdep hfr hsz ho hN
      go_simp
      refine (pick_any _ R _ _ hJ (by omega)).mono ?_
      rintro e w' ⟨k, rfl, hk, hg, hr⟩
      exact HK.out _ _ (fun d hd => by cases hd; exact ⟨k, rfl, by omega, by omega⟩) (Nx.of_grown hg) hr
    · cases (show some _ = some o from ho)
      have h12 : tL R R 7 (0) (4) (b.tmps.getD 12 undef) wb := hdep 12 (reads_of (by kernel_rfl)) ⟨5, _, rfl, rfl⟩
      obtain ⟨g12, e12, gR12, gS12, hc12⟩ := h12
      have h14 : tI (0) (6) (b.tmps.getD 14 undef) := hdep 14 (reads_of (by kernel_rfl)) ⟨7, _, rfl, rfl⟩
      obtain ⟨x14, e14, l14, u14⟩ := h14
      have f14 := getD_opt e14
      obtain ⟨k14, rfl⟩ := Int.eq_ofNat_of_zero_le (show 0 ≤ x14 by omega)
      obtain ⟨z12, lz, uz, hz⟩ := hc12 k14 (by omega)
      have hlt : (k14 : Int) < 7 := by omega
      clear hc12
      have HK := Lib.hid hK
      have HN := Lib.hid hN
      clear hK hdep hfr hsz ho hN
      go_simp
      exact HK.out _ _ (fun d hd => by cases hd; exact ⟨g12, k14, z12, rfl, gR12, gS12, by omega, by omega, hz⟩) (Nx.refl _ _ _) (rdr_more hJ (by omega))
    · cases (show some _ = some o from ho)
      have h15 : tA R R (0) (4) (b.tmps.getD 15 undef) wb := hdep 15 (reads_of (by kernel_rfl)) ⟨8, _, rfl, rfl⟩
      obtain ⟨g15, j15, z15, e15, gR15, gS15, l15, u15, hz15⟩ := h15
      have HK := Lib.hid hK
      have HN := Lib.hid hN
      clear hK hdep hfr hsz ho hN
      go_simp
      exact HK.out _ _ (fun d hd => by cases hd; exact ⟨z15, rfl, by omega, by omega⟩) (Nx.refl _ _ _) (rdr_more hJ (by omega))
    · cases (show some _ = some o from ho)
      have h11 : tL R R 5 (0) (2000) (b.tmps.getD 11 undef) wb := hdep 11 (reads_of (by kernel_rfl)) ⟨4, _, rfl, rfl⟩
      obtain ⟨g11, e11, gR11, gS11, hc11⟩ := h11
      have h16 : tI (0) (4) (b.tmps.getD 16 undef) := hdep 16 (reads_of (by kernel_rfl)) ⟨9, _, rfl, rfl⟩
      obtain ⟨x16, e16, l16, u16⟩ := h16
      have f16 := getD_opt e16
      obtain ⟨k16, rfl⟩ := Int.eq_ofNat_of_zero_le (show 0 ≤ x16 by omega)
      obtain ⟨z11, lz, uz, hz⟩ := hc11 k16 (by omega)
      have hlt : (k16 : Int) < 5 := by omega
      clear hc11
      have HK := Lib.hid hK
      have HN := Lib.hid hN
      clear hK hdep hfr hsz ho hN
      go_simp
      exact HK.out _ _ (fun d hd => by cases hd; exact ⟨g11, k16, z11, rfl, gR11, gS11, by omega, by omega, hz⟩) (Nx.refl _ _ _) (rdr_more hJ (by omega))
    · cases (show some _ = some o from ho)
      have h17 : tA R R (0) (2000) (b.tmps.getD 17 undef) wb := hdep 17 (reads_of (by kernel_rfl)) ⟨10, _, rfl, rfl⟩
      obtain ⟨g17, j17, z17, e17, gR17, gS17, l17, u17, hz17⟩ := h17
      have HK := Lib.hid hK
      have HN := Lib.hid hN
      clear hK hdep hfr hsz ho hN
      go_simp
      exact HK.out _ _ (fun d hd => by cases hd; exact ⟨z17, rfl, by omega, by omega⟩) (Nx.refl _ _ _) (rdr_more hJ (by omega))
    · cases (show some _ = some o from ho)
      have h4 : b.tmps.getD 4 undef = .pointer (some ⟨R, 0, none⟩) := hfr 4 (noDst_of (by kernel_rfl))
      have HK := Lib.hid hK
      have HN := Lib.hid hN
      clear hK hdep hfr hsz ho hN
      go_simp
      exact HK.out _ _ (fun d hd => by cases hd; exact rfl) (Nx.refl _ _ _) (rdr_more hJ (by omega))
    · cases (show some _ = some o from ho)
      have h19 : tP R (b.tmps.getD 19 undef) := hdep 19 (reads_of (by kernel_rfl)) ⟨12, _, rfl, rfl⟩
      unfold tP at h19
      have HK := Lib.hid hK
      have HN := Lib.hid hN
      clear hK hdep hfr hsz ho hN
      go_simp
      refine (pick_any _ R _ _ hJ (by omega)).mono ?_
      rintro e w' ⟨k, rfl, hk, hg, hr⟩
      exact HK.out _ _ (fun d hd => by cases hd; exact ⟨k, rfl, by omega, by omega⟩) (Nx.of_grown hg) hr
    · cases (show some _ = some o from ho)
      have h20 : tI (0) (1) (b.tmps.getD 20 undef) := hdep 20 (reads_of (by kernel_rfl)) ⟨13, _, rfl, rfl⟩
      obtain ⟨x20, e20, l20, u20⟩ := h20
      have f20 := getD_opt e20
      have HK := Lib.hid hK
      have HN := Lib.hid hN
      clear hK hdep hfr hsz ho hN
      go_simp
      exact HK.out _ _ (fun d hd => by cases hd; exact ⟨_, rfl⟩) (Nx.refl _ _ _) (rdr_more hJ (by omega))
    · cases (show some _ = some o from ho)
      have h18 : tI (0) (2000) (b.tmps.getD 18 undef) := hdep 18 (reads_of (by kernel_rfl)) ⟨11, _, rfl, rfl⟩
      obtain ⟨x18, e18, l18, u18⟩ := h18
      have f18 := getD_opt e18
      have HK := Lib.hid hK
      have HN := Lib.hid hN
      clear hK hdep hfr hsz ho hN
      go_simp
      exact HK.out _ _ (fun d hd => by cases hd; exact ⟨x18, rfl, by omega, by omega⟩) (Nx.refl _ _ _) (rdr_more hJ (by omega))
    · cases (show some _ = some o from ho)
      have h21 : tB (b.tmps.getD 21 undef) := hdep 21 (reads_of (by kernel_rfl)) ⟨14, _, rfl, rfl⟩
      obtain ⟨x21, e21⟩ := h21
      have HK := Lib.hid hK
      have HN := Lib.hid hN
      clear hK hdep hfr hsz ho hN
      go_simp
      exact HK.out _ _ (fun d hd => by cases hd; exact ⟨x21, rfl⟩) (Nx.refl _ _ _) (rdr_more hJ (by omega))
  · intro b wb hsz hdf hfr hty hN hJ
    obtain ⟨x2, e2, l2, u2⟩ : tI 0 2000 (b.tmps.getD 2 undef) := hty 15 _ 2 rfl rfl
    obtain ⟨x3, e3⟩ : tB (b.tmps.getD 3 undef) := hty 16 _ 3 rfl rfl
    have HN := Lib.hid hN
    have HD : Hid (b.defers = []) := Lib.hid hdf
    clear hsz hdf hfr hty hN hJ
    go_wp2
    refine bodyPost_ret (results_tmp2 rfl _ _ _) HD.out ?_
    rw [e2, e3]
    exact ⟨x2, x3, rfl, ⟨l2, u2⟩, below_of_grown HB1.out hR (Nx.grown HN.out)⟩
end Go.Proofs.Yteankmmmkdcaiaa
