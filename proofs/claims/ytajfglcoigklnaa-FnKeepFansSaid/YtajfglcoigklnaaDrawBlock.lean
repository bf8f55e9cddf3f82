/-
  The drawing of blocks.
-/
import Derived.Test.YtajfglcoigklnaaDrawWord
import Derived.Test.YtajfglcoigklnaaTypedS
import Derived.Test.YtajfglcoigklnaaHits
namespace Go.Proofs.Ytajfglcoigklnaa
open Go.ChangeShapes Go.WideShapes Go.ChangeAt Go.RowKit Go.Joins
set_option linter.unusedVariables false
set_option linter.unusedSimpArgs false
variable {L : Nat}

def tNs (n : Int) (v : Value) : Prop := v = .int .i64 n
def tBl (v : Value) : Prop := ∃ (s : ByteArray) (e o : Bool), v = bv s e o ∧ s.size ≤ 9
def PcBl (cs : Array Value) : Prop := ∃ (s : ByteArray) (e o : Bool), cs = #[.string s, .bool e, .bool o] ∧ s.size ≤ 9
abbrev SlotBl (w : World) (S : Nat) : Prop := SlotIs 26 PcBl w S
theorem slotBl_open {w : World} {S : Nat} (h : SlotBl w S) : ∃ (s : ByteArray) (e o : Bool), s.size ≤ 9 ∧
    (w.cell? ⟨S, 0, none⟩ = some (.string s) ∧ w.cell? ⟨S, 1, none⟩ = some (.bool e) ∧ w.cell? ⟨S, 2, none⟩ = some (.bool o)) ∧
    (w.frozen? ⟨S, 0, none⟩ = false ∧ w.frozen? ⟨S, 1, none⟩ = false ∧ w.frozen? ⟨S, 2, none⟩ = false) := by
  obtain ⟨cs, hb, s, e, o, rfl, hs⟩ := h
  refine ⟨s, e, o, hs, ⟨?_, ?_, ?_⟩, ?_, ?_, ?_⟩ <;> simp [World.cell?, World.frozen?, hb]
theorem slotBl_mk {w : World} {s : ByteArray} {e o : Bool} (hs : s.size ≤ 9) : SlotBl (w.alloc (.cells #[.string s, .bool e, .bool o] 26)) w.heap.size :=
  ⟨_, heap_alloc_new w _, s, e, o, rfl, hs⟩
theorem slotBl_store {w : World} {S : Nat} (h : SlotBl w S) {s : ByteArray} {e o : Bool} (hs : s.size ≤ 9) :
    SlotBl (((w.setCell ⟨S, 0, none⟩ (.string s)).setCell ⟨S, 1, none⟩ (.bool e)).setCell ⟨S, 2, none⟩ (.bool o)) S := by
  obtain ⟨cs, hb, s', e', o', rfl, _⟩ := h
  refine ⟨#[.string s, .bool e, .bool o], ?_, s, e, o, rfl, hs⟩
  simp [World.setCell, Array.getElem?_modify, hb]
theorem nx_store3 (R S : Nat) (w : World) (a b c : Value) : Nx R S w (((w.setCell ⟨S, 0, none⟩ a).setCell ⟨S, 1, none⟩ b).setCell ⟨S, 2, none⟩ c) :=
  ((Nx.setCell R S w 0 a).trans (Nx.setCell R S _ 1 b)).trans (Nx.setCell R S _ 2 c)

def l20bT (n : Int) (R S : Nat) (t : Tmp) (v : Value) (w : World) : Prop :=
  match t with
  | 5 => tP R v
  | 6 => tNs n v
  | 7 => tS 9 v
  | 8 => tLS R S 5 9 v w
  | 9 => tP R v
  | 10 => tI (0) (4) v
  | 11 => tAS R S 9 v w
  | 12 => tS 9 v
  | 13 => tP R v
  | 14 => tI (0) (1) v
  | 15 => tB v
  | 16 => tP R v
  | 17 => tI (0) (2) v
  | 18 => tB v
  | 19 => tBl v
  | _ => True
theorem l20bT_keep (n : Int) (R S : Nat) (t : Tmp) (v : Value) (w w' : World) (hN : Nx R S w w') (h : l20bT n R S t v w) : l20bT n R S t v w' := by
  unfold l20bT at h ⊢
  split at h <;> first | exact h | exact tLS_keep hN h | exact tAS_keep hN h | trivial

set_option maxHeartbeats 4000000 in
theorem l20bl_any (w : World) (R q : Nat) (n : Int) (h : Rdr w L R q) (hq : q ≤ 500) (hn : n ≤ 1000000) :
    Calls Try.prog 41 #[.pointer (some ⟨R, 0, none⟩), .int .i64 n] w fun e w' => ∃ (s : ByteArray) (x y : Bool), e = .returned (bv s x y) ∧ s.size ≤ 9 ∧ w.grownBy w' (some R) ∧ Rdr w' L R (q + 40) := by
  have H := Lib.hid h
  have hLR : L ≤ R := by obtain ⟨A, m, c, p, hb, hp, hm, hmc, hc, hLR, hby⟩ := h; exact hLR
  clear h
  have hR := rdr_lt H.out
  have hRS : R ≠ w.heap.size := by omega
  have HLS : Hid (L ≤ w.heap.size) := Lib.hid (by omega)
  go_enter Try.func41, Try.ntmps41
  go_wp2_with fail
  refine wp_region_typed R w.heap.size (l20bT n R w.heap.size) (fun c w' => Rdr w' L R (q + 2 * c) ∧ SlotBl w' w.heap.size) (by kernel_rfl) (regOk_of (by kernel_rfl)) (l20bT_keep n R w.heap.size) ⟨rdr_drew (rdr_alloc H.out _), jslot_drew (slotBl_mk (by decide))⟩ ?_ ?_
  · intro i o c b wb ho hc hJ hN hsz hfr hdep K hK
    have hi := (Array.getElem?_eq_some_iff.1 ho).1
    simp only [List.size_toArray, List.length_cons, List.length_nil] at hi hc
    have hcases : i = 0 ∨ i = 1 ∨ i = 2 ∨ i = 3 ∨ i = 4 ∨ i = 5 ∨ i = 6 ∨ i = 7 ∨ i = 8 ∨ i = 9 ∨ i = 10 ∨ i = 11 ∨ i = 12 ∨ i = 13 ∨ i = 14 ∨ i = 15 := by omega
    rcases hcases with rfl | rfl | rfl | rfl | rfl | rfl | rfl | rfl | rfl | rfl | rfl | rfl | rfl | rfl | rfl | rfl
    · cases (show some _ = some o from ho)
      have h0 : b.tmps.getD 0 undef = .pointer (some ⟨R, 0, none⟩) := hfr 0 (noDst_of (by kernel_rfl))
      have HK := Lib.hid hK
      have HN := Lib.hid hN
      clear hK hdep hfr hsz ho hN
      go_simp
      exact HK.out _ _ (fun d hd => by cases hd; exact rfl) (Nx.refl _ _ _) ⟨rdr_more hJ.1 (by omega), hJ.2⟩
    · cases (show some _ = some o from ho)
      have h1 : b.tmps.getD 1 undef = .int .i64 n := hfr 1 (noDst_of (by kernel_rfl))
      have HK := Lib.hid hK
      have HN := Lib.hid hN
      clear hK hdep hfr hsz ho hN
      go_simp
      exact HK.out _ _ (fun d hd => by cases hd; exact (rfl : tNs n _)) (Nx.refl _ _ _) ⟨rdr_more hJ.1 (by omega), hJ.2⟩
    · cases (show some _ = some o from ho)
      have h5 : tP R (b.tmps.getD 5 undef) := hdep 5 (reads_of (by kernel_rfl)) ⟨0, _, rfl, rfl⟩
      unfold tP at h5
      have h6 : tNs n (b.tmps.getD 6 undef) := hdep 6 (reads_of (by kernel_rfl)) ⟨1, _, rfl, rfl⟩
      unfold tNs at h6
      have HK := Lib.hid hK
      have HN := Lib.hid hN
      clear hK hdep hfr hsz ho hN
      go_simp
      refine (l20wd_any _ R _ _ hJ.1 (by omega) hn).mono ?_
      rintro e w' ⟨s, rfl, hs, hg, hr⟩
      exact HK.out _ _ (fun d hd => by cases hd; exact ⟨s, rfl, hs⟩) (Nx.of_grown hg) ⟨rdr_more hr (by omega), jslot_grown hJ.2 hg hRS⟩
    · cases (show some _ = some o from ho)
      have h7 : tS 9 (b.tmps.getD 7 undef) := hdep 7 (reads_of (by kernel_rfl)) ⟨2, _, rfl, rfl⟩
      obtain ⟨x7, e7, u7⟩ := h7
      have f7 := getD_opt e7
      have HK := Lib.hid hK
      have HN := Lib.hid hN
      clear hK hdep hfr hsz ho hN
      go_simp
      refine HK.out _ _ (fun d hd => ?_) (Nx.alloc _ _ _ _) ⟨rdr_more (rdr_alloc hJ.1 _) (by omega), jslot_alloc hJ.2 _⟩
      cases hd
      refine tLS_new rfl (by have := rdr_lt hJ.1; omega) (by have := jslot_lt hJ.2; omega) ?_
      intro v hv
      simp only [List.mem_cons, List.not_mem_nil, or_false] at hv
      rcases hv with rfl | rfl | rfl | rfl | rfl <;> first | exact ⟨_, by decide, rfl⟩ | exact ⟨_, by omega, rfl⟩
    · cases (show some _ = some o from ho)
      have h0 : b.tmps.getD 0 undef = .pointer (some ⟨R, 0, none⟩) := hfr 0 (noDst_of (by kernel_rfl))
      have HK := Lib.hid hK
      have HN := Lib.hid hN
      clear hK hdep hfr hsz ho hN
      go_simp
      exact HK.out _ _ (fun d hd => by cases hd; exact rfl) (Nx.refl _ _ _) ⟨rdr_more hJ.1 (by omega), hJ.2⟩
    · cases (show some _ = some o from ho)
      have h9 : tP R (b.tmps.getD 9 undef) := hdep 9 (reads_of (by kernel_rfl)) ⟨4, _, rfl, rfl⟩
      unfold tP at h9
      have HK := Lib.hid hK
      have HN := Lib.hid hN
      clear hK hdep hfr hsz ho hN
      go_simp
      refine (pick_any _ R _ _ hJ.1 (by omega)).mono ?_
      rintro e w' ⟨k, rfl, hk, hg, hr⟩
      exact HK.out _ _ (fun d hd => by cases hd; exact ⟨k, rfl, by omega, by omega⟩) (Nx.of_grown hg) ⟨rdr_more hr (by omega), jslot_grown hJ.2 hg hRS⟩
    · cases (show some _ = some o from ho)
      have h8 : tLS R w.heap.size 5 9 (b.tmps.getD 8 undef) wb := hdep 8 (reads_of (by kernel_rfl)) ⟨3, _, rfl, rfl⟩
      obtain ⟨g8, e8, gR8, gS8, hc8⟩ := h8
      have h10 : tI (0) (4) (b.tmps.getD 10 undef) := hdep 10 (reads_of (by kernel_rfl)) ⟨5, _, rfl, rfl⟩
      obtain ⟨x10, e10, l10, u10⟩ := h10
      have f10 := getD_opt e10
      obtain ⟨k10, rfl⟩ := Int.eq_ofNat_of_zero_le (show 0 ≤ x10 by omega)
      obtain ⟨z8, uz, hz⟩ := hc8 k10 (by omega)
      have hlt : (k10 : Int) < 5 := by omega
      clear hc8
      have HK := Lib.hid hK
      have HN := Lib.hid hN
      clear hK hdep hfr hsz ho hN
      go_simp
      exact HK.out _ _ (fun d hd => by cases hd; exact ⟨g8, k10, z8, rfl, gR8, gS8, by omega, hz⟩) (Nx.refl _ _ _) ⟨rdr_more hJ.1 (by omega), hJ.2⟩
    · cases (show some _ = some o from ho)
      have h11 : tAS R w.heap.size 9 (b.tmps.getD 11 undef) wb := hdep 11 (reads_of (by kernel_rfl)) ⟨6, _, rfl, rfl⟩
      obtain ⟨g11, j11, z11, e11, gR11, gS11, u11, hz11⟩ := h11
      have HK := Lib.hid hK
      have HN := Lib.hid hN
      clear hK hdep hfr hsz ho hN
      go_simp
      exact HK.out _ _ (fun d hd => by cases hd; exact ⟨z11, rfl, by omega⟩) (Nx.refl _ _ _) ⟨rdr_more hJ.1 (by omega), hJ.2⟩
    · cases (show some _ = some o from ho)
      have h0 : b.tmps.getD 0 undef = .pointer (some ⟨R, 0, none⟩) := hfr 0 (noDst_of (by kernel_rfl))
      have HK := Lib.hid hK
      have HN := Lib.hid hN
      clear hK hdep hfr hsz ho hN
      go_simp
      exact HK.out _ _ (fun d hd => by cases hd; exact rfl) (Nx.refl _ _ _) ⟨rdr_more hJ.1 (by omega), hJ.2⟩
    · cases (show some _ = some o from ho)
      have h13 : tP R (b.tmps.getD 13 undef) := hdep 13 (reads_of (by kernel_rfl)) ⟨8, _, rfl, rfl⟩
      unfold tP at h13
      have HK := Lib.hid hK
      have HN := Lib.hid hN
      clear hK hdep hfr hsz ho hN
      go_simp
      refine (pick_any _ R _ _ hJ.1 (by omega)).mono ?_
      rintro e w' ⟨k, rfl, hk, hg, hr⟩
      exact HK.out _ _ (fun d hd => by cases hd; exact ⟨k, rfl, by omega, by omega⟩) (Nx.of_grown hg) ⟨rdr_more hr (by omega), jslot_grown hJ.2 hg hRS⟩
    · cases (show some _ = some o from ho)
      have h14 : tI (0) (1) (b.tmps.getD 14 undef) := hdep 14 (reads_of (by kernel_rfl)) ⟨9, _, rfl, rfl⟩
      obtain ⟨x14, e14, l14, u14⟩ := h14
      have f14 := getD_opt e14
      have HK := Lib.hid hK
      have HN := Lib.hid hN
      clear hK hdep hfr hsz ho hN
      go_simp
      exact HK.out _ _ (fun d hd => by cases hd; exact ⟨_, rfl⟩) (Nx.refl _ _ _) ⟨rdr_more hJ.1 (by omega), hJ.2⟩
    · cases (show some _ = some o from ho)
      have h0 : b.tmps.getD 0 undef = .pointer (some ⟨R, 0, none⟩) := hfr 0 (noDst_of (by kernel_rfl))
      have HK := Lib.hid hK
      have HN := Lib.hid hN
      clear hK hdep hfr hsz ho hN
      go_simp
      exact HK.out _ _ (fun d hd => by cases hd; exact rfl) (Nx.refl _ _ _) ⟨rdr_more hJ.1 (by omega), hJ.2⟩
    · cases (show some _ = some o from ho)
      have h16 : tP R (b.tmps.getD 16 undef) := hdep 16 (reads_of (by kernel_rfl)) ⟨11, _, rfl, rfl⟩
      unfold tP at h16
      have HK := Lib.hid hK
      have HN := Lib.hid hN
      clear hK hdep hfr hsz ho hN
      go_simp
      refine (pick_any _ R _ _ hJ.1 (by omega)).mono ?_
      rintro e w' ⟨k, rfl, hk, hg, hr⟩
      exact HK.out _ _ (fun d hd => by cases hd; exact ⟨k, rfl, by omega, by omega⟩) (Nx.of_grown hg) ⟨rdr_more hr (by omega), jslot_grown hJ.2 hg hRS⟩
    · cases (show some _ = some o from ho)
      have h17 : tI (0) (2) (b.tmps.getD 17 undef) := hdep 17 (reads_of (by kernel_rfl)) ⟨12, _, rfl, rfl⟩
      obtain ⟨x17, e17, l17, u17⟩ := h17
      have f17 := getD_opt e17
      have HK := Lib.hid hK
      have HN := Lib.hid hN
      clear hK hdep hfr hsz ho hN
      go_simp
      exact HK.out _ _ (fun d hd => by cases hd; exact ⟨_, rfl⟩) (Nx.refl _ _ _) ⟨rdr_more hJ.1 (by omega), hJ.2⟩
    · cases (show some _ = some o from ho)
      obtain ⟨s, e12, u12⟩ : tS 9 (b.tmps.getD 12 undef) := hdep 12 (reads_of (by kernel_rfl)) ⟨7, _, rfl, rfl⟩
      obtain ⟨x, e15⟩ : tB (b.tmps.getD 15 undef) := hdep 15 (reads_of (by kernel_rfl)) ⟨10, _, rfl, rfl⟩
      obtain ⟨y, e18⟩ : tB (b.tmps.getD 18 undef) := hdep 18 (reads_of (by kernel_rfl)) ⟨13, _, rfl, rfl⟩
      have f12 := getD_opt e12
      have f15 := getD_opt e15
      have f18 := getD_opt e18
      have HK := Lib.hid hK
      have HN := Lib.hid hN
      clear hK hdep hfr hsz ho hN
      go_simp
      exact HK.out _ _ (fun d hd => by cases hd; exact ⟨_, _, _, rfl, u12⟩) (Nx.refl _ _ _) ⟨rdr_more hJ.1 (by omega), hJ.2⟩
    · cases (show some _ = some o from ho)
      have h4 : b.tmps.getD 4 undef = .pointer (some ⟨w.heap.size, 0, none⟩) := hfr 4 (noDst_of (by kernel_rfl))
      obtain ⟨s', x', y', e19, hs19⟩ : tBl (b.tmps.getD 19 undef) := hdep 19 (reads_of (by kernel_rfl)) ⟨14, _, rfl, rfl⟩
      obtain ⟨s0, x0, y0, hs0, ⟨d0, d1, d2⟩, g0, g1, g2⟩ := slotBl_open hJ.2
      have HS10 := Lib.hid hs19
      have HK := Lib.hid hK
      have HN := Lib.hid hN
      clear hK hdep hfr hsz ho hN hs0 hs19
      go_simp
      exact HK.out undef _ (fun d hd => by cases hd) (nx_store3 _ _ _ _ _ _) ⟨rdr_more (rdr_setCell' (rdr_setCell' (rdr_setCell' hJ.1 HLS.out (Ne.symm hRS) _) HLS.out (Ne.symm hRS) _) HLS.out (Ne.symm hRS) _) (by omega), slotBl_store hJ.2 HS10.out⟩
  · intro b wb hsz hdf hfr hty hN hJ
    have h4 : b.tmps.getD 4 undef = .pointer (some ⟨w.heap.size, 0, none⟩) := hfr 4 (noDst_of (by kernel_rfl))
    obtain ⟨c, hc, hJ1, hJ2⟩ := hJ
    simp only [List.size_toArray, List.length_cons, List.length_nil] at hc
    obtain ⟨s0, x0, y0, hs0, ⟨d0, d1, d2⟩, f0, f1, f2⟩ := slotBl_open hJ2
    have HN := Lib.hid hN
    have HD : Hid (b.defers = []) := Lib.hid hdf
    have HS0 := Lib.hid hs0
    have HJ := Lib.hid hJ1
    have g4 := getD_opt h4
    clear hsz hdf hfr hty hN hJ1 hJ2 hs0
    go_wp2
    refine bodyPost_ret (v := bv _ _ _) (by simp [results, Try.results41, go_sem, g4, d0, d1, d2]; exact ⟨rfl, rfl, rfl⟩) HD.out ?_
    exact ⟨_, _, _, rfl, HS0.out, grown_nx (World.grownBy_alloc w _ _) HN.out (Nat.le_refl _), rdr_more HJ.out (by omega)⟩
end Go.Proofs.Ytajfglcoigklnaa
