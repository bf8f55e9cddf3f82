/-
  The drawing of a block and a host.
-/
import Derived.Test.YtajfglcoigklnaaDrawBlock
import Derived.Test.YtajfglcoigklnaaMem
namespace Go.Proofs.Ytajfglcoigklnaa
open Go.ChangeShapes Go.WideShapes Go.ChangeAt Go.RowKit Go.Joins
set_option linter.unusedVariables false
set_option linter.unusedSimpArgs false

def dbhT (R S : Nat) (t : Tmp) (v : Value) (w : World) : Prop :=
  match t with
  | 3 => tS 9 v
  | 10 => tBl v
  | 11 => tP R v
  | 12 => tS 9 v
  | 13 => tLS R S 5 9 v w
  | 14 => tP R v
  | 15 => tI (0) (4) v
  | 16 => tAS R S 9 v w
  | 17 => tS 9 v
  | _ => True
theorem dbhT_keep (R S : Nat) (t : Tmp) (v : Value) (w w' : World) (hN : Nx R S w w') (h : dbhT R S t v w) : dbhT R S t v w' := by
  unfold dbhT at h ⊢
  split at h <;> first | exact h | exact tLS_keep hN h | exact tAS_keep hN h | trivial

set_option maxHeartbeats 4000000 in
theorem dbh_any (a : Option Addr) (len cap : Nat) (zs : List Int) (w0 w : World) (h : IsCode w0 a len cap zs) (hB : Below w0.heap.size w0 w) :
    Calls Try.prog 15 #[.slice a len cap] w fun e w' => ∃ (s : ByteArray) (x y : Bool) (d : ByteArray), e = .returned (.tuple #[bv s x y, .string d]) ∧ s.size ≤ 9 ∧ d.size ≤ 9 ∧ Below w.heap.size w w' := by
  have H := Lib.hid h; clear h
  have HLS : Hid (w0.heap.size ≤ w.heap.size) := Lib.hid hB.size
  have HB := Lib.hid hB; clear hB
  go_enter Try.func15, Try.ntmps15
  go_wp2_with fail
  refine (open_any _ _ _ _ _ _ H.out (HB.out.alloc HB.out.size _)).mono ?_
  rintro e w1 ⟨R, rfl, hb, hR, hR2, hr⟩
  have HB1 := Lib.hid hb; have HR := Lib.hid hr; clear hb hr
  simp only [World.size_alloc] at hR
  go_wp2_with fail
  refine (l20bl_any _ _ 0 _ HR.out (by omega) (by omega)).mono ?_
  rintro e w2 ⟨s, x, y, rfl, hs, hg, hr⟩
  have HB2 := Lib.hid (below_of_grown HB1.out (by simp only [World.size_alloc]; omega) hg)
  have HSM := Lib.hid hs
  have HR2 := Lib.hid hr
  have hR3 := rdr_lt hr
  clear hg hr hs
  have hRS : R ≠ w.heap.size := by omega
  have hBR : w2.heap.size ≠ R := by omega
  have hz2 := HB2.out.size
  simp only [World.size_alloc] at hz2
  have hBS : w2.heap.size ≠ w.heap.size := by omega
  have b0 := (Bk.new w2 26 #[.string s, .bool x, .bool y]).cell 0 (v := .string s) rfl
  have b1 := (Bk.new w2 26 #[.string s, .bool x, .bool y]).cell 1 (v := .bool x) rfl
  have b2 := (Bk.new w2 26 #[.string s, .bool x, .bool y]).cell 2 (v := .bool y) rfl
  have S4 : Hid (SlotBl (w2.alloc (.cells #[.string s, .bool x, .bool y] 26)) w.heap.size) := Lib.hid (jslot_alloc (jslot_below (slotBl_mk (by decide)) HB2.out (by simp)) _)
  have X4 : Hid (Below w.heap.size w (w2.alloc (.cells #[.string s, .bool x, .bool y] 26))) := Lib.hid ((below_slot rfl HB2.out).alloc (below_slot rfl HB2.out).size _)
  have H4 : Hid (Rdr (w2.alloc (.cells #[.string s, .bool x, .bool y] 26)) w0.heap.size R 40) := Lib.hid (rdr_more (rdr_alloc HR2.out _) (by omega))
  have hz4 : w2.heap.size < (w2.alloc (.cells #[.string s, .bool x, .bool y] 26)).heap.size := by simp
  go_wp2_with fail
  refine wp_region_typed R w.heap.size (dbhT R w.heap.size) (fun c w' => Rdr w' w0.heap.size R (40 + 4 * c) ∧ SlotBl w' w.heap.size) (by kernel_rfl) (regOk_of (by kernel_rfl)) (dbhT_keep R w.heap.size) ⟨rdr_drew H4.out, jslot_drew S4.out⟩ ?_ ?_
  · intro i o c b wb ho hc hJ hN hsz hfr hdep K hK
    have hi := (Array.getElem?_eq_some_iff.1 ho).1
    simp only [List.size_toArray, List.length_cons, List.length_nil] at hi hc
    have hcases : i = 0 ∨ i = 1 ∨ i = 2 ∨ i = 3 ∨ i = 4 ∨ i = 5 ∨ i = 6 ∨ i = 7 ∨ i = 8 ∨ i = 9 := by omega
    rcases hcases with rfl | rfl | rfl | rfl | rfl | rfl | rfl | rfl | rfl | rfl
    · cases (show some _ = some o from ho)
      have h5 : b.tmps.getD 5 undef = .pointer (some ⟨w2.heap.size, 0, none⟩) := hfr 5 (noDst_of (by kernel_rfl))
      have c0 := hN.cell b0 hBR hBS; have c1 := hN.cell b1 hBR hBS; have c2 := hN.cell b2 hBR hBS
      have HK := Lib.hid hK
      clear hK hdep hfr hsz ho hN
      go_simp
      exact HK.out _ _ (fun d hd => by cases hd; exact ⟨_, _, _, rfl, HSM.out⟩) (Nx.refl _ _ _) ⟨rdr_more hJ.1 (by omega), hJ.2⟩
    · cases (show some _ = some o from ho)
      have h4 : b.tmps.getD 4 undef = .pointer (some ⟨R, 0, none⟩) := hfr 4 (noDst_of (by kernel_rfl))
      have HK := Lib.hid hK
      have HN := Lib.hid hN
      clear hK hdep hfr hsz ho hN
      go_simp
      exact HK.out _ _ (fun d hd => by cases hd; exact rfl) (Nx.refl _ _ _) ⟨rdr_more hJ.1 (by omega), hJ.2⟩
    · cases (show some _ = some o from ho)
      have h11 : tP R (b.tmps.getD 11 undef) := hdep 11 (reads_of (by kernel_rfl)) ⟨1, _, rfl, rfl⟩
      unfold tP at h11
      have HK := Lib.hid hK
      have HN := Lib.hid hN
      clear hK hdep hfr hsz ho hN
      go_simp
      refine (l20wd_any _ R _ _ hJ.1 (by omega) (by omega)).mono ?_
      rintro e w' ⟨s, rfl, hs, hg, hr⟩
      exact HK.out _ _ (fun d hd => by cases hd; exact ⟨s, rfl, hs⟩) (Nx.of_grown hg) ⟨rdr_more hr (by omega), jslot_grown hJ.2 hg hRS⟩
    · cases (show some _ = some o from ho)
      have h12 : tS 9 (b.tmps.getD 12 undef) := hdep 12 (reads_of (by kernel_rfl)) ⟨2, _, rfl, rfl⟩
      obtain ⟨x12, e12, u12⟩ := h12
      have f12 := getD_opt e12
      have HK := Lib.hid hK
      have HN := Lib.hid hN
      clear hK hdep hfr hsz ho hN
      go_simp
      refine HK.out _ _ (fun d hd => ?_) (Nx.alloc _ _ _ _) ⟨rdr_more (rdr_alloc hJ.1 _) (by omega), jslot_alloc hJ.2 _⟩
      cases hd
      refine tLS_new rfl (by have := rdr_lt hJ.1; omega) (by have := jslot_lt hJ.2; omega) ?_
      intro v hv
      simp only [List.mem_cons, List.not_mem_nil, or_false] at hv
      rcases hv with rfl | rfl | rfl | rfl | rfl <;> first | exact ⟨_, by decide, rfl⟩ | exact ⟨_, by omega, rfl⟩
    · cases (show some _ = some o from ho)
      have h4 : b.tmps.getD 4 undef = .pointer (some ⟨R, 0, none⟩) := hfr 4 (noDst_of (by kernel_rfl))
      have HK := Lib.hid hK
      have HN := Lib.hid hN
      clear hK hdep hfr hsz ho hN
      go_simp
      exact HK.out _ _ (fun d hd => by cases hd; exact rfl) (Nx.refl _ _ _) ⟨rdr_more hJ.1 (by omega), hJ.2⟩
    · cases (show some _ = some o from ho)
      have h14 : tP R (b.tmps.getD 14 undef) := hdep 14 (reads_of (by kernel_rfl)) ⟨4, _, rfl, rfl⟩
      unfold tP at h14
      have HK := Lib.hid hK
      have HN := Lib.hid hN
      clear hK hdep hfr hsz ho hN
      go_simp
      refine (pick_any _ R _ _ hJ.1 (by omega)).mono ?_
      rintro e w' ⟨k, rfl, hk, hg, hr⟩
      exact HK.out _ _ (fun d hd => by cases hd; exact ⟨k, rfl, by omega, by omega⟩) (Nx.of_grown hg) ⟨rdr_more hr (by omega), jslot_grown hJ.2 hg hRS⟩
    · cases (show some _ = some o from ho)
      have h13 : tLS R w.heap.size 5 9 (b.tmps.getD 13 undef) wb := hdep 13 (reads_of (by kernel_rfl)) ⟨3, _, rfl, rfl⟩
      obtain ⟨g13, e13, gR13, gS13, hc13⟩ := h13
      have h15 : tI (0) (4) (b.tmps.getD 15 undef) := hdep 15 (reads_of (by kernel_rfl)) ⟨5, _, rfl, rfl⟩
      obtain ⟨x15, e15, l15, u15⟩ := h15
      have f15 := getD_opt e15
      obtain ⟨k15, rfl⟩ := Int.eq_ofNat_of_zero_le (show 0 ≤ x15 by omega)
      obtain ⟨z13, uz, hz⟩ := hc13 k15 (by omega)
      have hlt : (k15 : Int) < 5 := by omega
      clear hc13
      have HK := Lib.hid hK
      have HN := Lib.hid hN
      clear hK hdep hfr hsz ho hN
      go_simp
      exact HK.out _ _ (fun d hd => by cases hd; exact ⟨g13, k15, z13, rfl, gR13, gS13, by omega, hz⟩) (Nx.refl _ _ _) ⟨rdr_more hJ.1 (by omega), hJ.2⟩
    · cases (show some _ = some o from ho)
      have h16 : tAS R w.heap.size 9 (b.tmps.getD 16 undef) wb := hdep 16 (reads_of (by kernel_rfl)) ⟨6, _, rfl, rfl⟩
      obtain ⟨g16, j16, z16, e16, gR16, gS16, u16, hz16⟩ := h16
      have HK := Lib.hid hK
      have HN := Lib.hid hN
      clear hK hdep hfr hsz ho hN
      go_simp
      exact HK.out _ _ (fun d hd => by cases hd; exact ⟨z16, rfl, by omega⟩) (Nx.refl _ _ _) ⟨rdr_more hJ.1 (by omega), hJ.2⟩
    · cases (show some _ = some o from ho)
      have h2 : b.tmps.getD 2 undef = .pointer (some ⟨w.heap.size, 0, none⟩) := hfr 2 (noDst_of (by kernel_rfl))
      obtain ⟨s', x', y', e10, hs10⟩ : tBl (b.tmps.getD 10 undef) := hdep 10 (reads_of (by kernel_rfl)) ⟨0, _, rfl, rfl⟩
      obtain ⟨s0, x0, y0, hs0, ⟨d0, d1, d2⟩, g0, g1, g2⟩ := slotBl_open hJ.2
      have HS10 := Lib.hid hs10
      have HK := Lib.hid hK
      have HN := Lib.hid hN
      clear hK hdep hfr hsz ho hN hs0 hs10
      go_simp
      exact HK.out undef _ (fun d hd => by cases hd) (nx_store3 _ _ _ _ _ _) ⟨rdr_more (rdr_setCell' (rdr_setCell' (rdr_setCell' hJ.1 HLS.out (Ne.symm hRS) _) HLS.out (Ne.symm hRS) _) HLS.out (Ne.symm hRS) _) (by omega), slotBl_store hJ.2 HS10.out⟩
    · cases (show some _ = some o from ho)
      have h17 : tS 9 (b.tmps.getD 17 undef) := hdep 17 (reads_of (by kernel_rfl)) ⟨7, _, rfl, rfl⟩
      obtain ⟨x17, e17, u17⟩ := h17
      have f17 := getD_opt e17
      have HK := Lib.hid hK
      have HN := Lib.hid hN
      clear hK hdep hfr hsz ho hN
      go_simp
      exact HK.out _ _ (fun d hd => by cases hd; exact ⟨x17, rfl, by omega⟩) (Nx.refl _ _ _) ⟨rdr_more hJ.1 (by omega), hJ.2⟩
  · intro b wb hsz hdf hfr hty hN hJ
    have h2 : b.tmps.getD 2 undef = .pointer (some ⟨w.heap.size, 0, none⟩) := hfr 2 (noDst_of (by kernel_rfl))
    obtain ⟨x3, e3, u3⟩ : tS 9 (b.tmps.getD 3 undef) := hty 9 _ 3 rfl rfl
    obtain ⟨c, hc, hJ1, hJ2⟩ := hJ
    obtain ⟨s0, x0, y0, hs0, ⟨d0, d1, d2⟩, g0, g1, g2⟩ := slotBl_open hJ2
    have HN := Lib.hid hN
    have HD : Hid (b.defers = []) := Lib.hid hdf
    have HS0 := Lib.hid hs0
    have k2 := getD_opt h2
    have k3' := getD_opt e3
    have HU := Lib.hid u3
    clear hsz hdf hfr hty hN hJ1 hJ2 hs0 u3
    go_wp2
    refine bodyPost_ret (v := .tuple #[bv _ _ _, .string _]) (by simp [results, Try.results15, go_sem, k2, k3', d0, d1, d2]; exact ⟨⟨rfl, rfl, rfl⟩, rfl⟩) HD.out ?_
    exact ⟨_, _, _, _, rfl, HS0.out, HU.out, below_of_nx X4.out (by omega) (Nat.le_refl _) HN.out⟩
end Go.Proofs.Ytajfglcoigklnaa
