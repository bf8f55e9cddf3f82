/-
  The drawing of texts.
-/
import Derived.Test.YtpbnbekkmifbpaaDoorDrawWord
import Derived.Test.YtpbnbekkmifbpaaDoorTypedS
import Derived.Test.YtpbnbekkmifbpaaDoorMem
import Derived.Laws.BytesArg
import Derived.Deep.OwnRows
namespace Go.Proofs.YtpbnbekkmifbpaaDoor
open Go.ChangeShapes Go.WideShapes Go.ChangeAt Go.RowKit Go.Joins
set_option linter.unusedVariables false
variable {L : Nat}

def tMk (R : Nat) (v : Value) (w : World) : Prop := ∃ g : Nat, v = .slice (some ⟨g, 0, none⟩) 81 81 ∧ g ≠ R ∧ ∀ j, j < 81 → w.cell? ⟨g, j, none⟩ = some (.int .u8 0)
theorem tMk_keep {R : Nat} {v : Value} {w w' : World} (hN : Nx R R w w') (h : tMk R v w) : tMk R v w' := by
  obtain ⟨g, hv, h1, hc⟩ := h
  exact ⟨g, hv, h1, fun j hj => hN.cell (hc j hj) h1 h1⟩
theorem tMk_new {R : Nat} {w : World} {T : TypeId} (h1 : w.heap.size ≠ R) : tMk R (.slice (some ⟨w.heap.size, 0, none⟩) 81 81) (w.alloc (.cells (madeCells #[.int .u8 0] 81) T)) :=
  ⟨w.heap.size, rfl, h1, fun j hj => (Bk.new w T _).cell j (by simp [madeCells, hj, Nat.mod_one])⟩
def dtT (R : Nat) (t : Tmp) (v : Value) (w : World) : Prop := match t with
  | 8 => tMk R v w
  | 9 => tS 81 v
  | 10 => tLS R R 3 81 v w
  | 11 => tP R v
  | 12 => tI 0 2 v
  | 13 => tAS R R 81 v w
  | 14 => tS 81 v
  | 4 => tS 81 v
  | _ => True
theorem dtT_keep (R : Nat) (t : Tmp) (v : Value) (w w' : World) (hN : Nx R R w w') (h : dtT R t v w) : dtT R t v w' := by
  unfold dtT at h ⊢
  split at h <;> first | exact h | exact tMk_keep hN h | exact tLS_keep hN h | exact tAS_keep hN h | trivial

set_option maxRecDepth 100000 in
set_option maxHeartbeats 4000000 in
theorem l20tx_any (w : World) (R q : Nat) (n : Int) (h : Rdr w L R q) (hq : q ≤ 800) (hn : n ≤ 1000000) :
    Calls Tryd.prog 56 #[.pointer (some ⟨R, 0, none⟩), .int .i64 n] w fun e w' => ∃ s : ByteArray, e = .returned (.string s) ∧ s.size ≤ 81 ∧ w.grownBy w' (some R) ∧ Rdr w' L R (q + 30) := by
  have H := Lib.hid h; clear h
  have hR := rdr_lt H.out
  go_enter Tryd.func56, Tryd.ntmps56
  go_wp2_with fail
  refine (odd_any _ _ _ _ H.out (by omega) hn).mono ?_
  rintro e w1 ⟨b, rfl, hb, hg, hr⟩
  have G1 := Lib.hid hg; have H1 := Lib.hid hr; clear hr hg
  have hR1 := rdr_lt H1.out
  have hn1 : ¬ w1.heap.size = R := by omega
  cases b
  · go_wp2_with fail
    refine (pick_any _ _ (q + 1) _ (rdr_alloc H1.out _) (by omega)).mono ?_
    rintro e w2 ⟨k2, rfl, hk2, hg, hr⟩
    have G2 := Lib.hid (grown_trans' G1.out (grown_trans' (World.grownBy_alloc _ _ _) hg)); have H2 := Lib.hid (rdr_more hr (q' := q + 30) (by omega)); clear hr
    obtain ⟨hc2, hf2, hz2⟩ := gfacts hg
    clear hg
    have hk2' : k2 = 0 ∨ k2 = 1 ∨ k2 = 2 ∨ k2 = 3 ∨ k2 = 4 ∨ k2 = 5 ∨ k2 = 6 := by omega
    rcases hk2' with rfl | rfl | rfl | rfl | rfl | rfl | rfl
    all_goals
      go_wp2
      go_ret
      exact ⟨_, rfl, by decide, G2.out, H2.out⟩
  · go_wp2_with fail
    refine wp_region_typed R R (dtT R) (fun c w' => Rdr w' L R (q + 1 + 3 * c)) (by kernel_rfl) (regOk_of (by kernel_rfl)) (dtT_keep R) (rdr_more (rdr_drew H1.out) (by omega)) ?_ ?_
    · intro i o c b wb ho hc hJ hN hsz hfr hdep K hK
      have hi := (Array.getElem?_eq_some_iff.1 ho).1
      simp only [List.size_toArray, List.length_cons, List.length_nil] at hi hc
      have hRb := rdr_lt hJ
      have hcases : i = 0 ∨ i = 1 ∨ i = 2 ∨ i = 3 ∨ i = 4 ∨ i = 5 ∨ i = 6 ∨ i = 7 := by omega
      rcases hcases with rfl | rfl | rfl | rfl | rfl | rfl | rfl | rfl
      · cases (show some _ = some o from ho)
        have hmk := run_make_row' (P := Tryd.prog) 22 5 (.int .u8 0) 1 Tryd.underlying22 (by kernel_rfl) rfl .i64 .i64 81 (by decide) (by decide) wb
        have HK := Lib.hid hK
        clear hK hdep hfr hsz ho hN
        go_simp
        exact HK.out _ _ (fun d hd => by cases hd; exact tMk_new (by omega)) (Nx.alloc _ _ _ _) (rdr_more (rdr_alloc hJ _) (by omega))
      · cases (show some _ = some o from ho)
        obtain ⟨g8, e8, gR8, hc8⟩ : tMk R (b.tmps.getD 8 undef) wb := hdep 8 (reads_of (by kernel_rfl)) ⟨0, _, rfl, rfl⟩
        have f8 := getD_opt e8
        have hcv := run_convert_bytes_arg (P := Tryd.prog) wb 22 5 Tryd.underlying22 Tryd.underlying5 g8 0 81 81 (List.replicate 81 0) (by simp) (fun i hi => by rw [Nat.zero_add, hc8 i hi, List.getD_eq_getElem?_getD, List.getElem?_replicate, if_pos hi]; rfl) 9 Tryd.underlying9
        have hsz81 : (strOfNums (List.replicate 81 0)).size ≤ 81 := by rw [strOfNums_size]; simp
        generalize strOfNums (List.replicate 81 0) = y at *
        have HK := Lib.hid hK
        clear hK hdep hfr hsz ho hN
        go_simp
        exact HK.out _ _ (fun d hd => by cases hd; exact ⟨y, rfl, hsz81⟩) (Nx.refl _ _ _) (rdr_more hJ (by omega))
      · cases (show some _ = some o from ho)
        obtain ⟨x9, e9, u9⟩ : tS 81 (b.tmps.getD 9 undef) := hdep 9 (reads_of (by kernel_rfl)) ⟨1, _, rfl, rfl⟩
        have f9 := getD_opt e9
        have HK := Lib.hid hK
        clear hK hdep hfr hsz ho hN
        go_simp
        refine HK.out _ _ (fun d hd => ?_) (Nx.alloc _ _ _ _) (rdr_more (rdr_alloc hJ _) (by omega))
        cases hd
        refine tLS_new rfl (by omega) (by omega) ?_
        intro v hv
        simp only [List.mem_cons, List.not_mem_nil, or_false] at hv
        rcases hv with rfl | rfl | rfl <;> first | exact ⟨_, u9, rfl⟩ | exact ⟨_, by decide, rfl⟩
      · cases (show some _ = some o from ho)
        have h0 : b.tmps.getD 0 undef = .pointer (some ⟨R, 0, none⟩) := hfr 0 (noDst_of (by kernel_rfl))
        have HK := Lib.hid hK
        clear hK hdep hfr hsz ho hN
        go_simp
        exact HK.out _ _ (fun d hd => by cases hd; exact rfl) (Nx.refl _ _ _) (rdr_more hJ (by omega))
      · cases (show some _ = some o from ho)
        have h11 : tP R (b.tmps.getD 11 undef) := hdep 11 (reads_of (by kernel_rfl)) ⟨3, _, rfl, rfl⟩
        unfold tP at h11
        have HK := Lib.hid hK
        clear hK hdep hfr hsz ho hN
        go_simp
        refine (pick_any _ R _ _ hJ (by omega)).mono ?_
        rintro e w' ⟨k2, rfl, hk2, hg, hr⟩
        exact HK.out _ _ (fun d hd => by cases hd; exact ⟨_, rfl, by omega, by omega⟩) (Nx.of_grown hg) (rdr_more hr (by omega))
      · cases (show some _ = some o from ho)
        obtain ⟨g10, e10, gR10, gS10, hc10⟩ : tLS R R 3 81 (b.tmps.getD 10 undef) wb := hdep 10 (reads_of (by kernel_rfl)) ⟨2, _, rfl, rfl⟩
        obtain ⟨x12, e12, l12, u12⟩ : tI 0 2 (b.tmps.getD 12 undef) := hdep 12 (reads_of (by kernel_rfl)) ⟨4, _, rfl, rfl⟩
        have f10 := getD_opt e10
        have f12 := getD_opt e12
        obtain ⟨m, rfl⟩ : ∃ m : Nat, x12 = m := ⟨x12.toNat, by omega⟩
        obtain ⟨z, hz, hcell⟩ := hc10 m (by omega)
        have HK := Lib.hid hK
        clear hK hdep hfr hsz ho hN
        go_simp
        try rw [if_pos (by omega)]
        exact HK.out _ _ (fun d hd => by cases hd; exact ⟨g10, m, z, rfl, gR10, gS10, hz, hcell⟩) (Nx.refl _ _ _) (rdr_more hJ (by omega))
      · cases (show some _ = some o from ho)
        obtain ⟨g13, j13, z13, e13, gR13, gS13, u13, hz13⟩ : tAS R R 81 (b.tmps.getD 13 undef) wb := hdep 13 (reads_of (by kernel_rfl)) ⟨5, _, rfl, rfl⟩
        have f13 := getD_opt e13
        have HK := Lib.hid hK
        clear hK hdep hfr hsz ho hN
        go_simp
        exact HK.out _ _ (fun d hd => by cases hd; exact ⟨z13, rfl, u13⟩) (Nx.refl _ _ _) (rdr_more hJ (by omega))
      · cases (show some _ = some o from ho)
        obtain ⟨x14, e14, u14⟩ : tS 81 (b.tmps.getD 14 undef) := hdep 14 (reads_of (by kernel_rfl)) ⟨6, _, rfl, rfl⟩
        have f14 := getD_opt e14
        have HK := Lib.hid hK
        clear hK hdep hfr hsz ho hN
        go_simp
        exact HK.out _ _ (fun d hd => by cases hd; exact ⟨x14, rfl, u14⟩) (Nx.refl _ _ _) (rdr_more hJ (by omega))
    · intro b wb hsz hdf hfr hty hN hJ
      obtain ⟨c, hc, hr⟩ := hJ
      simp only [List.size_toArray, List.length_cons, List.length_nil] at hc
      obtain ⟨tm, df⟩ := b
      obtain rfl : df = [] := hdf
      obtain ⟨y, q4, hy⟩ : tS 81 (tm.getD 4 undef) := hty 7 _ 4 rfl rfl
      have hlit := lit_of tm 20 hsz
      simp only [List.range, List.range.loop, List.map, q4] at hlit
      have HQ := Lib.hid hlit
      have G2 := Lib.hid (grown_trans' G1.out hN.grown); have H2 := Lib.hid (rdr_more hr (q' := q + 30) (by omega))
      clear hlit hsz hfr hty hN hr
      rw [HQ.out]
      go_wp2
      go_ret
      exact ⟨_, rfl, hy, G2.out, H2.out⟩
end Go.Proofs.YtpbnbekkmifbpaaDoor
