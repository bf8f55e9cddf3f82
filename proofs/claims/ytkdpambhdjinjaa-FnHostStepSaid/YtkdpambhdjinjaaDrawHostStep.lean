/-
  The drawing of a host, a time and whether the try was good.
-/
import Derived.Test.YtkdpambhdjinjaaDrawMayTry
namespace Go.Proofs.Ytkdpambhdjinjaa
open Go.ChangeShapes Go.WideShapes Go.ChangeAt Go.RowKit Go.Joins
set_option linter.unusedVariables false
set_option linter.unusedSimpArgs false

def tNs (n : Int) (v : Value) : Prop := v = .int .i64 n
def dhsT (m : Int) (R S : Nat) (t : Tmp) (v : Value) (w : World) : Prop :=
  match t with
  | 3 => tNs m v
  | 4 => tB v
  | 23 => tSv v
  | 24 => tNs m v
  | 25 => tP R v
  | 26 => tI (0) (2) v
  | 27 => tB v
  | _ => True
theorem dhsT_keep (m : Int) (R S : Nat) (t : Tmp) (v : Value) (w w' : World) (hN : Nx R S w w') (h : dhsT m R S t v w) : dhsT m R S t v w' := by
  unfold dhsT at h ⊢
  split at h <;> first | exact h | exact tL_keep hN h | exact tA_keep hN h | trivial

set_option maxHeartbeats 4000000 in
theorem dhs_any (a : Option Addr) (len cap : Nat) (zs : List Int) (w0 w : World) (h : IsCode w0 a len cap zs) (hB : Below w0.heap.size w0 w) :
    Calls Try.prog 23 #[.slice a len cap] w fun e w' => ∃ (s : ByteArray) (f u n : Int) (g : Bool), e = .returned (.tuple #[sv s f u, .int .i64 n, .bool g]) ∧ hostSm s f u ∧ (-1 ≤ n ∧ n ≤ 1000001) ∧ Below w.heap.size w w' := by
  have H := Lib.hid h; clear h
  have HLS : Hid (w0.heap.size ≤ w.heap.size) := Lib.hid hB.size
  have HB := Lib.hid hB; clear hB
  go_enter Try.func23, Try.ntmps23
  go_wp2_with fail
  refine (open_any _ _ _ _ _ _ H.out (HB.out.alloc HB.out.size _)).mono ?_
  rintro e w1 ⟨R, rfl, hb, hR, hR2, hr⟩
  have HB1 := Lib.hid hb; have HR := Lib.hid hr; clear hb hr
  simp only [World.size_alloc] at hR
  go_wp2_with fail
  refine (l20h_any _ _ 0 _ HR.out (by omega) (by omega)).mono ?_
  rintro e w2 ⟨s, f, u, rfl, hs, hg, hr⟩
  have HB2 := Lib.hid (below_of_grown HB1.out (by simp only [World.size_alloc]; omega) hg)
  have HSM := Lib.hid hs
  have HR2 := Lib.hid hr
  have hR3 := rdr_lt hr
  clear hg hr hs
  have hRS : R ≠ w.heap.size := by omega
  have hBR : w2.heap.size ≠ R := by omega
  have hz2 := HB2.out.size
  simp only [World.size_alloc] at hz2
  have hBS : w2.heap.size ≠ w.heap.size := by omega
  go_wp2_with fail
  refine (pick_any _ _ 100 _ (rdr_alloc HR2.out _) (by omega)).mono ?_
  rintro e w3 ⟨k3, rfl, hk3, hg, hr⟩
  have H3 := Lib.hid hr
  have b0 := slotG hg (Ne.symm (Ne.symm hBR)) 0 _ rfl
  have b1 := slotG hg (Ne.symm (Ne.symm hBR)) 1 _ rfl
  have b2 := slotG hg (Ne.symm (Ne.symm hBR)) 2 _ rfl
  have S3 : Hid (SlotSv w3 w.heap.size) := Lib.hid (jslot_grown (jslot_alloc (jslot_below slotSv_new HB2.out (by simp)) _) hg hRS)
  have X3 : Hid (Below w.heap.size w w3) := Lib.hid (below_of_grown ((below_slot rfl HB2.out).alloc (below_slot rfl HB2.out).size _) (by omega) hg)
  have hz3 := hg.size
  simp only [World.size_alloc] at hz3
  have hR4 := rdr_lt hr
  clear hr hg
  have hn1 : ¬ w3.heap.size = R := by omega
  have hn2 : ¬ w3.heap.size + 1 = R := by omega
  go_wp2_with fail
  refine (pick_any _ _ 101 _ (rdr_alloc (rdr_alloc H3.out _) _) (by omega)).mono ?_
  rintro e w4 ⟨k4, rfl, hk4, hg, hr⟩
  have H4 := Lib.hid hr
  have S4 : Hid (SlotSv w4 w.heap.size) := Lib.hid (jslot_grown (jslot_alloc (jslot_alloc S3.out _) _) hg hRS)
  have X4 : Hid (Below w.heap.size w w4) := Lib.hid (below_of_grown ((X3.out.alloc X3.out.size _).alloc (by simp; have := X3.out.size; omega) _) (by omega) hg)
  obtain ⟨hc, hf, hz⟩ := gfacts hg
  have b0 := (hc _ _ (by simp; omega) hBR).trans (((World.cell?_alloc_lt _ _ _ (by simp; omega))).trans ((World.cell?_alloc_lt _ _ _ (by simp; omega)).trans b0))
  have b1 := (hc _ _ (by simp; omega) hBR).trans (((World.cell?_alloc_lt _ _ _ (by simp; omega))).trans ((World.cell?_alloc_lt _ _ _ (by simp; omega)).trans b1))
  have b2 := (hc _ _ (by simp; omega) hBR).trans (((World.cell?_alloc_lt _ _ _ (by simp; omega))).trans ((World.cell?_alloc_lt _ _ _ (by simp; omega)).trans b2))
  have hx : ∃ v : Nat, v ≤ 3 ∧ w4.cell? ⟨w3.heap.size + 1, k4, none⟩ = some (.int .i64 v) := by
    have : k4 = 0 ∨ k4 = 1 ∨ k4 = 2 ∨ k4 = 3 ∨ k4 = 4 ∨ k4 = 5 ∨ k4 = 6 ∨ k4 = 7 := by omega
    rw [hc _ _ (by simp) hn2]
    rcases this with rfl | rfl | rfl | rfl | rfl | rfl | rfl | rfl
    · exact ⟨0, by omega, by simp [go_sem]⟩
    · exact ⟨0, by omega, by simp [go_sem]⟩
    · exact ⟨0, by omega, by simp [go_sem]⟩
    · exact ⟨0, by omega, by simp [go_sem]⟩
    · exact ⟨0, by omega, by simp [go_sem]⟩
    · exact ⟨1, by omega, by simp [go_sem]⟩
    · exact ⟨2, by omega, by simp [go_sem]⟩
    · exact ⟨3, by omega, by simp [go_sem]⟩
  obtain ⟨v, hv, hx⟩ := hx
  have hy : ∃ m : Int, (-1 ≤ m ∧ m ≤ 1000001) ∧ w4.cell? ⟨w3.heap.size, v, none⟩ = some (.int .i64 m) := by
    have : v = 0 ∨ v = 1 ∨ v = 2 ∨ v = 3 := by omega
    rw [hc _ _ (by simp; omega) hn1]
    rcases this with rfl | rfl | rfl | rfl
    · exact ⟨(k3 : Int) * 8, by omega, by simp [go_sem]⟩
    · exact ⟨1000000, by omega, by simp [go_sem]⟩
    · exact ⟨1000001, by omega, by simp [go_sem]⟩
    · exact ⟨-1, by omega, by simp [go_sem]⟩
  obtain ⟨m, hm, hy⟩ := hy
  have HM := Lib.hid hm
  clear hc hf hz hg hr
  go_wp2_with fail
  refine wp_region_typed R w.heap.size (dhsT m R w.heap.size) (fun c w' => Rdr w' w0.heap.size R (102 + c) ∧ SlotSv w' w.heap.size) (by kernel_rfl) (regOk_of (by kernel_rfl)) (dhsT_keep m R w.heap.size) ⟨rdr_drew H4.out, jslot_drew S4.out⟩ ?_ ?_
  · intro i o c b wb ho hc hJ hN hsz hfr hdep K hK
    have hi := (Array.getElem?_eq_some_iff.1 ho).1
    simp only [List.size_toArray, List.length_cons, List.length_nil] at hi hc
    have hcases : i = 0 ∨ i = 1 ∨ i = 2 ∨ i = 3 ∨ i = 4 ∨ i = 5 ∨ i = 6 ∨ i = 7 := by omega
    rcases hcases with rfl | rfl | rfl | rfl | rfl | rfl | rfl | rfl
    · cases (show some _ = some o from ho)
      have h6 : b.tmps.getD 6 undef = .pointer (some ⟨w2.heap.size, 0, none⟩) := hfr 6 (noDst_of (by kernel_rfl))
      have c0 := hN.cell b0 hBR hBS; have c1 := hN.cell b1 hBR hBS; have c2 := hN.cell b2 hBR hBS
      have HK := Lib.hid hK
      clear hK hdep hfr hsz ho hN
      go_simp
      exact HK.out _ _ (fun d hd => by cases hd; exact ⟨_, _, _, rfl, HSM.out⟩) (Nx.refl _ _ _) ⟨rdr_more hJ.1 (by omega), hJ.2⟩
    · cases (show some _ = some o from ho)
      have h7 : b.tmps.getD 7 undef = .int .i64 m := hfr 7 (noDst_of (by kernel_rfl))
      have HK := Lib.hid hK
      clear hK hdep hfr hsz ho hN
      go_simp
      exact HK.out _ _ (fun d hd => by cases hd; exact (rfl : tNs m _)) (Nx.refl _ _ _) ⟨rdr_more hJ.1 (by omega), hJ.2⟩
    · cases (show some _ = some o from ho)
      have h5 : b.tmps.getD 5 undef = .pointer (some ⟨R, 0, none⟩) := hfr 5 (noDst_of (by kernel_rfl))
      have HK := Lib.hid hK
      have HN := Lib.hid hN
      clear hK hdep hfr hsz ho hN
      go_simp
      exact HK.out _ _ (fun d hd => by cases hd; exact rfl) (Nx.refl _ _ _) ⟨rdr_more hJ.1 (by omega), hJ.2⟩
    · cases (show some _ = some o from ho)
      have h25 : tP R (b.tmps.getD 25 undef) := hdep 25 (reads_of (by kernel_rfl)) ⟨2, _, rfl, rfl⟩
      unfold tP at h25
      have HK := Lib.hid hK
      have HN := Lib.hid hN
      clear hK hdep hfr hsz ho hN
      go_simp
      refine (pick_any _ R _ _ hJ.1 (by omega)).mono ?_
      rintro e w' ⟨k, rfl, hk, hg, hr⟩
      exact HK.out _ _ (fun d hd => by cases hd; exact ⟨k, rfl, by omega, by omega⟩) (Nx.of_grown hg) ⟨hr, jslot_grown hJ.2 hg hRS⟩
    · cases (show some _ = some o from ho)
      have h26 : tI (0) (2) (b.tmps.getD 26 undef) := hdep 26 (reads_of (by kernel_rfl)) ⟨3, _, rfl, rfl⟩
      obtain ⟨x26, e26, l26, u26⟩ := h26
      have f26 := getD_opt e26
      have HK := Lib.hid hK
      have HN := Lib.hid hN
      clear hK hdep hfr hsz ho hN
      go_simp
      exact HK.out _ _ (fun d hd => by cases hd; exact ⟨_, rfl⟩) (Nx.refl _ _ _) ⟨rdr_more hJ.1 (by omega), hJ.2⟩
    · cases (show some _ = some o from ho)
      have h2 : b.tmps.getD 2 undef = .pointer (some ⟨w.heap.size, 0, none⟩) := hfr 2 (noDst_of (by kernel_rfl))
      have h23 : tSv (b.tmps.getD 23 undef) := hdep 23 (reads_of (by kernel_rfl)) ⟨0, _, rfl, rfl⟩
      obtain ⟨s', f', u', e10, hs10⟩ := h23
      obtain ⟨s0, f0, u0, hs0, ⟨d0, d1, d2⟩, g0, g1, g2⟩ := slotSv_open hJ.2
      have HS10 := Lib.hid hs10
      have HK := Lib.hid hK
      clear hK hdep hfr hsz ho hN hs0 hs10
      go_simp
      exact HK.out undef _ (fun d hd => by cases hd) (nx_store3 _ _ _ _ _ _) ⟨rdr_more (rdr_setCell' (rdr_setCell' (rdr_setCell' hJ.1 HLS.out (Ne.symm hRS) _) HLS.out (Ne.symm hRS) _) HLS.out (Ne.symm hRS) _) (by omega), slotSv_store hJ.2 HS10.out⟩
    · cases (show some _ = some o from ho)
      have h24 : tNs m (b.tmps.getD 24 undef) := hdep 24 (reads_of (by kernel_rfl)) ⟨1, _, rfl, rfl⟩
      unfold tNs at h24
      have f24 := getD_opt h24
      have HK := Lib.hid hK
      clear hK hdep hfr hsz ho hN
      go_simp
      exact HK.out _ _ (fun d hd => by cases hd; exact (rfl : tNs m _)) (Nx.refl _ _ _) ⟨rdr_more hJ.1 (by omega), hJ.2⟩
    · cases (show some _ = some o from ho)
      have h27 : tB (b.tmps.getD 27 undef) := hdep 27 (reads_of (by kernel_rfl)) ⟨4, _, rfl, rfl⟩
      obtain ⟨x27, e27⟩ := h27
      have HK := Lib.hid hK
      have HN := Lib.hid hN
      clear hK hdep hfr hsz ho hN
      go_simp
      exact HK.out _ _ (fun d hd => by cases hd; exact ⟨x27, rfl⟩) (Nx.refl _ _ _) ⟨rdr_more hJ.1 (by omega), hJ.2⟩
  · intro b wb hsz hdf hfr hty hN hJ
    have h2 : b.tmps.getD 2 undef = .pointer (some ⟨w.heap.size, 0, none⟩) := hfr 2 (noDst_of (by kernel_rfl))
    have e3 : tNs m (b.tmps.getD 3 undef) := hty 6 _ 3 rfl rfl
    unfold tNs at e3
    obtain ⟨x4, e4⟩ : tB (b.tmps.getD 4 undef) := hty 7 _ 4 rfl rfl
    obtain ⟨c, hc, hJ1, hJ2⟩ := hJ
    obtain ⟨s0, f0, u0, hs0, ⟨d0, d1, d2⟩, g0, g1, g2⟩ := slotSv_open hJ2
    have HN := Lib.hid hN
    have HD : Hid (b.defers = []) := Lib.hid hdf
    have HS0 := Lib.hid hs0
    have k2 := getD_opt h2
    have k3' := getD_opt e3
    have k4' := getD_opt e4
    clear hsz hdf hfr hty hN hJ1 hJ2 hs0
    go_wp2
    refine bodyPost_ret (v := .tuple #[sv _ _ _, .int .i64 _, .bool _]) (by simp [results, Try.results23, go_sem, k2, k3', k4', d0, d1, d2]; exact ⟨⟨rfl, rfl, rfl⟩, rfl, rfl⟩) HD.out ?_
    exact ⟨_, _, _, _, _, rfl, HS0.out, HM.out, below_of_nx X4.out (by omega) (Nat.le_refl _) HN.out⟩
end Go.Proofs.Ytkdpambhdjinjaa
