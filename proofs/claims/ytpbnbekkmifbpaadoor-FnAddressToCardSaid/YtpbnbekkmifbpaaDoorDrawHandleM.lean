/-
  The drawing of handles.
-/
import Derived.Test.YtpbnbekkmifbpaaDoorDrawWord
import Derived.Test.YtpbnbekkmifbpaaDoorTypedS
import Derived.Test.YtpbnbekkmifbpaaDoorListHandle
namespace Go.Proofs.YtpbnbekkmifbpaaDoor
open Go.ChangeShapes Go.WideShapes Go.ChangeAt Go.RowKit Go.Joins
set_option linter.unusedVariables false
set_option linter.unusedSimpArgs false
variable {L : Nat}

def tNs (n : Int) (v : Value) : Prop := v = .int .i64 n
def tHa (v : Value) : Prop := ∃ z : Ha, v = hav z ∧ z.a.size ≤ 9 ∧ z.b.size ≤ 9
def PcHa (cs : Array Value) : Prop := ∃ z : Ha, cs = #[.string z.a, .string z.b] ∧ z.a.size ≤ 9 ∧ z.b.size ≤ 9
abbrev SlotHa (w : World) (S : Nat) : Prop := SlotIs 29 PcHa w S
theorem slotHa_open {w : World} {S : Nat} (h : SlotHa w S) : ∃ z : Ha, (z.a.size ≤ 9 ∧ z.b.size ≤ 9) ∧
    (w.cell? ⟨S, 0, none⟩ = some (.string z.a) ∧ w.cell? ⟨S, 1, none⟩ = some (.string z.b)) ∧ (w.frozen? ⟨S, 0, none⟩ = false ∧ w.frozen? ⟨S, 1, none⟩ = false) := by
  obtain ⟨cs, hb, z, rfl, hs⟩ := h
  refine ⟨z, hs, ⟨?_, ?_⟩, ?_, ?_⟩ <;> simp [World.cell?, World.frozen?, hb]
theorem slotHa_mk {w : World} (z : Ha) (hs : z.a.size ≤ 9 ∧ z.b.size ≤ 9) : SlotHa (w.alloc (.cells #[.string z.a, .string z.b] 29)) w.heap.size :=
  ⟨_, heap_alloc_new w _, z, rfl, hs⟩
theorem slotHa_store {w : World} {S : Nat} (h : SlotHa w S) {z : Ha} (hs : z.a.size ≤ 9 ∧ z.b.size ≤ 9) :
    SlotHa ((w.setCell ⟨S, 0, none⟩ (.string z.a)).setCell ⟨S, 1, none⟩ (.string z.b)) S := by
  obtain ⟨cs, hb, z', rfl, _⟩ := h
  refine ⟨#[.string z.a, .string z.b], ?_, z, rfl, hs⟩
  simp [World.setCell, Array.getElem?_modify, hb]
theorem nx_store2 (R S : Nat) (w : World) (a b : Value) : Nx R S w ((w.setCell ⟨S, 0, none⟩ a).setCell ⟨S, 1, none⟩ b) :=
  (Nx.setCell R S w 0 a).trans (Nx.setCell R S _ 1 b)

def l20haT (n : Int) (R S : Nat) (t : Tmp) (v : Value) (w : World) : Prop :=
  match t with
  | 5 => tP R v
  | 6 => tNs n v
  | 7 => tS 9 v
  | 8 => tLS R S 4 9 v w
  | 9 => tP R v
  | 10 => tI (0) (3) v
  | 11 => tAS R S 9 v w
  | 12 => tS 9 v
  | 13 => tP R v
  | 14 => tNs n v
  | 15 => tS 9 v
  | 16 => tLS R S 3 9 v w
  | 17 => tP R v
  | 18 => tI (0) (2) v
  | 19 => tAS R S 9 v w
  | 20 => tS 9 v
  | 21 => tHa v
  | _ => True
theorem l20haT_keep (n : Int) (R S : Nat) (t : Tmp) (v : Value) (w w' : World) (hN : Nx R S w w') (h : l20haT n R S t v w) : l20haT n R S t v w' := by
  unfold l20haT at h ⊢
  split at h <;> first | exact h | exact tLS_keep hN h | exact tAS_keep hN h | trivial

set_option maxRecDepth 100000 in
set_option maxHeartbeats 8000000 in
theorem l20ha_any (w : World) (R q : Nat) (n : Int) (h : Rdr w L R q) (hq : q ≤ 800) (hn : n ≤ 1000000) :
    Calls Tryd.prog 64 #[.pointer (some ⟨R, 0, none⟩), .int .i64 n] w fun e w' => ∃ z : Ha, e = .returned (hav z) ∧ (z.a.size ≤ 9 ∧ z.b.size ≤ 9) ∧ w.grownBy w' (some R) ∧ Rdr w' L R (q + 60) := by
  have H := Lib.hid h
  have hLR : L ≤ R := by obtain ⟨A, m, c, p, hb, hp, hm, hmc, hc, hLR, hby⟩ := h; exact hLR
  clear h
  have hR := rdr_lt H.out
  have hRS : R ≠ w.heap.size := by omega
  have HLS : Hid (L ≤ w.heap.size) := Lib.hid (by omega)
  go_enter Tryd.func64, Tryd.ntmps64
  go_wp2_with fail
  refine wp_region_typed R w.heap.size (l20haT n R w.heap.size) (fun c w' => Rdr w' L R (q + 3 * c) ∧ SlotHa w' w.heap.size) (by kernel_rfl) (regOk_of (by kernel_rfl)) (l20haT_keep n R w.heap.size) ⟨rdr_drew (rdr_alloc H.out _), jslot_drew (slotHa_mk ⟨⟨#[]⟩, ⟨#[]⟩⟩ (by decide))⟩ ?_ ?_
  · intro i o c b wb ho hc hJ hN hsz hfr hdep K hK
    have hi := (Array.getElem?_eq_some_iff.1 ho).1
    simp only [List.size_toArray, List.length_cons, List.length_nil] at hi hc
    have hcases : i = 0 ∨ i = 1 ∨ i = 2 ∨ i = 3 ∨ i = 4 ∨ i = 5 ∨ i = 6 ∨ i = 7 ∨ i = 8 ∨ i = 9 ∨ i = 10 ∨ i = 11 ∨ i = 12 ∨ i = 13 ∨ i = 14 ∨ i = 15 ∨ i = 16 ∨ i = 17 := by omega
    rcases hcases with rfl | rfl | rfl | rfl | rfl | rfl | rfl | rfl | rfl | rfl | rfl | rfl | rfl | rfl | rfl | rfl | rfl | rfl
    · cases (show some _ = some o from ho)
      have h0 : b.tmps.getD 0 undef = .pointer (some ⟨R, 0, none⟩) := hfr 0 (noDst_of (by kernel_rfl))
      have HK := Lib.hid hK
      have HN := Lib.hid hN
      clear hK hdep hfr hsz ho hN
      go_simp
      exact HK.out _ _ (fun d hd => by cases hd; exact rfl) (Nx.refl _ _ _) ⟨rdr_more hJ.1 (by omega), hJ.2⟩
    · cases (show some _ = some o from ho)
      have h1 : b.tmps.getD 1 undef = .int .i64 n := hfr 1 (noDst_of (by kernel_rfl))
      have HK := Lib.hid hK
      have HN := Lib.hid hN
      clear hK hdep hfr hsz ho hN
      go_simp
      exact HK.out _ _ (fun d hd => by cases hd; exact (rfl : tNs n _)) (Nx.refl _ _ _) ⟨rdr_more hJ.1 (by omega), hJ.2⟩
    · cases (show some _ = some o from ho)
      have h5 : tP R (b.tmps.getD 5 undef) := hdep 5 (reads_of (by kernel_rfl)) ⟨0, _, rfl, rfl⟩
      unfold tP at h5
      have h6 : tNs n (b.tmps.getD 6 undef) := hdep 6 (reads_of (by kernel_rfl)) ⟨1, _, rfl, rfl⟩
      unfold tNs at h6
      have HK := Lib.hid hK
      have HN := Lib.hid hN
      clear hK hdep hfr hsz ho hN
      go_simp
      refine (l20wd_any _ R _ _ hJ.1 (by omega) hn).mono ?_
      rintro e w' ⟨s, rfl, hs, hg, hr⟩
      exact HK.out _ _ (fun d hd => by cases hd; exact ⟨s, rfl, hs⟩) (Nx.of_grown hg) ⟨rdr_more hr (by omega), jslot_grown hJ.2 hg hRS⟩
    · cases (show some _ = some o from ho)
      have h7 : tS 9 (b.tmps.getD 7 undef) := hdep 7 (reads_of (by kernel_rfl)) ⟨2, _, rfl, rfl⟩
      obtain ⟨x7, e7, u7⟩ := h7
      have f7 := getD_opt e7
      have HK := Lib.hid hK
      have HN := Lib.hid hN
      clear hK hdep hfr hsz ho hN
      go_simp
      refine HK.out _ _ (fun d hd => ?_) (Nx.alloc _ _ _ _) ⟨rdr_more (rdr_alloc hJ.1 _) (by omega), jslot_alloc hJ.2 _⟩
      cases hd
      refine tLS_new rfl (by have := rdr_lt hJ.1; omega) (by have := jslot_lt hJ.2; omega) ?_
      intro v hv
      simp only [List.mem_cons, List.not_mem_nil, or_false] at hv
      rcases hv with rfl | rfl | rfl | rfl <;> first | exact ⟨_, by decide, rfl⟩ | exact ⟨_, by omega, rfl⟩
    · cases (show some _ = some o from ho)
      have h0 : b.tmps.getD 0 undef = .pointer (some ⟨R, 0, none⟩) := hfr 0 (noDst_of (by kernel_rfl))
      have HK := Lib.hid hK
      have HN := Lib.hid hN
      clear hK hdep hfr hsz ho hN
      go_simp
      exact HK.out _ _ (fun d hd => by cases hd; exact rfl) (Nx.refl _ _ _) ⟨rdr_more hJ.1 (by omega), hJ.2⟩
    · cases (show some _ = some o from ho)
      have h9 : tP R (b.tmps.getD 9 undef) := hdep 9 (reads_of (by kernel_rfl)) ⟨4, _, rfl, rfl⟩
      unfold tP at h9
      have HK := Lib.hid hK
      have HN := Lib.hid hN
      clear hK hdep hfr hsz ho hN
      go_simp
      refine (pick_any _ R _ _ hJ.1 (by omega)).mono ?_
      rintro e w' ⟨k, rfl, hk, hg, hr⟩
      exact HK.out _ _ (fun d hd => by cases hd; exact ⟨k, rfl, by omega, by omega⟩) (Nx.of_grown hg) ⟨rdr_more hr (by omega), jslot_grown hJ.2 hg hRS⟩
    · cases (show some _ = some o from ho)
      have h8 : tLS R w.heap.size 4 9 (b.tmps.getD 8 undef) wb := hdep 8 (reads_of (by kernel_rfl)) ⟨3, _, rfl, rfl⟩
      obtain ⟨g8, e8, gR8, gS8, hc8⟩ := h8
      have h10 : tI (0) (3) (b.tmps.getD 10 undef) := hdep 10 (reads_of (by kernel_rfl)) ⟨5, _, rfl, rfl⟩
      obtain ⟨x10, e10, l10, u10⟩ := h10
      have f10 := getD_opt e10
      obtain ⟨k10, rfl⟩ := Int.eq_ofNat_of_zero_le (show 0 ≤ x10 by omega)
      obtain ⟨z8, uz, hz⟩ := hc8 k10 (by omega)
      have hlt : (k10 : Int) < 4 := by omega
      clear hc8
      have HK := Lib.hid hK
      have HN := Lib.hid hN
      clear hK hdep hfr hsz ho hN
      go_simp
      exact HK.out _ _ (fun d hd => by cases hd; exact ⟨g8, k10, z8, rfl, gR8, gS8, by omega, hz⟩) (Nx.refl _ _ _) ⟨rdr_more hJ.1 (by omega), hJ.2⟩
    · cases (show some _ = some o from ho)
      have h11 : tAS R w.heap.size 9 (b.tmps.getD 11 undef) wb := hdep 11 (reads_of (by kernel_rfl)) ⟨6, _, rfl, rfl⟩
      obtain ⟨g11, j11, z11, e11, gR11, gS11, u11, hz11⟩ := h11
      have HK := Lib.hid hK
      have HN := Lib.hid hN
      clear hK hdep hfr hsz ho hN
      go_simp
      exact HK.out _ _ (fun d hd => by cases hd; exact ⟨z11, rfl, by omega⟩) (Nx.refl _ _ _) ⟨rdr_more hJ.1 (by omega), hJ.2⟩
    · cases (show some _ = some o from ho)
      have h0 : b.tmps.getD 0 undef = .pointer (some ⟨R, 0, none⟩) := hfr 0 (noDst_of (by kernel_rfl))
      have HK := Lib.hid hK
      have HN := Lib.hid hN
      clear hK hdep hfr hsz ho hN
      go_simp
      exact HK.out _ _ (fun d hd => by cases hd; exact rfl) (Nx.refl _ _ _) ⟨rdr_more hJ.1 (by omega), hJ.2⟩
    · cases (show some _ = some o from ho)
      have h1 : b.tmps.getD 1 undef = .int .i64 n := hfr 1 (noDst_of (by kernel_rfl))
      have HK := Lib.hid hK
      have HN := Lib.hid hN
      clear hK hdep hfr hsz ho hN
      go_simp
      exact HK.out _ _ (fun d hd => by cases hd; exact (rfl : tNs n _)) (Nx.refl _ _ _) ⟨rdr_more hJ.1 (by omega), hJ.2⟩
    · cases (show some _ = some o from ho)
      have h13 : tP R (b.tmps.getD 13 undef) := hdep 13 (reads_of (by kernel_rfl)) ⟨8, _, rfl, rfl⟩
      unfold tP at h13
      have h14 : tNs n (b.tmps.getD 14 undef) := hdep 14 (reads_of (by kernel_rfl)) ⟨9, _, rfl, rfl⟩
      unfold tNs at h14
      have HK := Lib.hid hK
      have HN := Lib.hid hN
      clear hK hdep hfr hsz ho hN
      go_simp
      refine (l20wd_any _ R _ _ hJ.1 (by omega) hn).mono ?_
      rintro e w' ⟨s, rfl, hs, hg, hr⟩
      exact HK.out _ _ (fun d hd => by cases hd; exact ⟨s, rfl, hs⟩) (Nx.of_grown hg) ⟨rdr_more hr (by omega), jslot_grown hJ.2 hg hRS⟩
    · cases (show some _ = some o from ho)
      have h15 : tS 9 (b.tmps.getD 15 undef) := hdep 15 (reads_of (by kernel_rfl)) ⟨10, _, rfl, rfl⟩
      obtain ⟨x15, e15, u15⟩ := h15
      have f15 := getD_opt e15
      have HK := Lib.hid hK
      have HN := Lib.hid hN
      clear hK hdep hfr hsz ho hN
      go_simp
      refine HK.out _ _ (fun d hd => ?_) (Nx.alloc _ _ _ _) ⟨rdr_more (rdr_alloc hJ.1 _) (by omega), jslot_alloc hJ.2 _⟩
      cases hd
      refine tLS_new rfl (by have := rdr_lt hJ.1; omega) (by have := jslot_lt hJ.2; omega) ?_
      intro v hv
      simp only [List.mem_cons, List.not_mem_nil, or_false] at hv
      rcases hv with rfl | rfl | rfl <;> first | exact ⟨_, by decide, rfl⟩ | exact ⟨_, by omega, rfl⟩
    · cases (show some _ = some o from ho)
      have h0 : b.tmps.getD 0 undef = .pointer (some ⟨R, 0, none⟩) := hfr 0 (noDst_of (by kernel_rfl))
      have HK := Lib.hid hK
      have HN := Lib.hid hN
      clear hK hdep hfr hsz ho hN
      go_simp
      exact HK.out _ _ (fun d hd => by cases hd; exact rfl) (Nx.refl _ _ _) ⟨rdr_more hJ.1 (by omega), hJ.2⟩
    · cases (show some _ = some o from ho)
      have h17 : tP R (b.tmps.getD 17 undef) := hdep 17 (reads_of (by kernel_rfl)) ⟨12, _, rfl, rfl⟩
      unfold tP at h17
      have HK := Lib.hid hK
      have HN := Lib.hid hN
      clear hK hdep hfr hsz ho hN
      go_simp
      refine (pick_any _ R _ _ hJ.1 (by omega)).mono ?_
      rintro e w' ⟨k, rfl, hk, hg, hr⟩
      exact HK.out _ _ (fun d hd => by cases hd; exact ⟨k, rfl, by omega, by omega⟩) (Nx.of_grown hg) ⟨rdr_more hr (by omega), jslot_grown hJ.2 hg hRS⟩
    · cases (show some _ = some o from ho)
      have h16 : tLS R w.heap.size 3 9 (b.tmps.getD 16 undef) wb := hdep 16 (reads_of (by kernel_rfl)) ⟨11, _, rfl, rfl⟩
      obtain ⟨g16, e16, gR16, gS16, hc16⟩ := h16
      have h18 : tI (0) (2) (b.tmps.getD 18 undef) := hdep 18 (reads_of (by kernel_rfl)) ⟨13, _, rfl, rfl⟩
      obtain ⟨x18, e18, l18, u18⟩ := h18
      have f18 := getD_opt e18
      obtain ⟨k18, rfl⟩ := Int.eq_ofNat_of_zero_le (show 0 ≤ x18 by omega)
      obtain ⟨z16, uz, hz⟩ := hc16 k18 (by omega)
      have hlt : (k18 : Int) < 3 := by omega
      clear hc16
      have HK := Lib.hid hK
      have HN := Lib.hid hN
      clear hK hdep hfr hsz ho hN
      go_simp
      exact HK.out _ _ (fun d hd => by cases hd; exact ⟨g16, k18, z16, rfl, gR16, gS16, by omega, hz⟩) (Nx.refl _ _ _) ⟨rdr_more hJ.1 (by omega), hJ.2⟩
    · cases (show some _ = some o from ho)
      have h19 : tAS R w.heap.size 9 (b.tmps.getD 19 undef) wb := hdep 19 (reads_of (by kernel_rfl)) ⟨14, _, rfl, rfl⟩
      obtain ⟨g19, j19, z19, e19, gR19, gS19, u19, hz19⟩ := h19
      have HK := Lib.hid hK
      have HN := Lib.hid hN
      clear hK hdep hfr hsz ho hN
      go_simp
      exact HK.out _ _ (fun d hd => by cases hd; exact ⟨z19, rfl, by omega⟩) (Nx.refl _ _ _) ⟨rdr_more hJ.1 (by omega), hJ.2⟩
    · cases (show some _ = some o from ho)
      obtain ⟨x12, e12, u12⟩ : tS 9 (b.tmps.getD 12 undef) := hdep 12 (reads_of (by kernel_rfl)) ⟨7, _, rfl, rfl⟩
      obtain ⟨x20, e20, u20⟩ : tS 9 (b.tmps.getD 20 undef) := hdep 20 (reads_of (by kernel_rfl)) ⟨15, _, rfl, rfl⟩
      have f12 := getD_opt e12
      have f20 := getD_opt e20
      have HK := Lib.hid hK
      have HN := Lib.hid hN
      clear hK hdep hfr hsz ho hN
      go_simp
      exact HK.out _ _ (fun d hd => by cases hd; exact ⟨⟨x12, x20⟩, rfl, u12, u20⟩) (Nx.refl _ _ _) ⟨rdr_more hJ.1 (by omega), hJ.2⟩
    · cases (show some _ = some o from ho)
      have h4 : b.tmps.getD 4 undef = .pointer (some ⟨w.heap.size, 0, none⟩) := hfr 4 (noDst_of (by kernel_rfl))
      obtain ⟨z', e21, hs21⟩ : tHa (b.tmps.getD 21 undef) := hdep 21 (reads_of (by kernel_rfl)) ⟨16, _, rfl, rfl⟩
      obtain ⟨z0, hs0, ⟨d0, d1⟩, g0, g1⟩ := slotHa_open hJ.2
      have f21 := getD_opt e21
      have f4 := getD_opt h4
      have HS10 := Lib.hid hs21
      have HK := Lib.hid hK
      have HN := Lib.hid hN
      clear hK hdep hfr hsz ho hN hs0 hs21
      go_simp
      exact HK.out undef _ (fun d hd => by cases hd) (nx_store2 _ _ _ _ _) ⟨rdr_more (rdr_setCell' (rdr_setCell' hJ.1 HLS.out (Ne.symm hRS) _) HLS.out (Ne.symm hRS) _) (by omega), slotHa_store hJ.2 HS10.out⟩
  · intro b wb hsz hdf hfr hty hN hJ
    have h4 : b.tmps.getD 4 undef = .pointer (some ⟨w.heap.size, 0, none⟩) := hfr 4 (noDst_of (by kernel_rfl))
    obtain ⟨c, hc, hJ1, hJ2⟩ := hJ
    simp only [List.size_toArray, List.length_cons, List.length_nil] at hc
    obtain ⟨z0, hs0, ⟨d0, d1⟩, f0, f1⟩ := slotHa_open hJ2
    have HN := Lib.hid hN
    have HD : Hid (b.defers = []) := Lib.hid hdf
    have HS0 := Lib.hid hs0
    have HJ := Lib.hid hJ1
    have g4 := getD_opt h4
    clear hsz hdf hfr hty hN hJ1 hJ2 hs0
    go_wp2
    refine bodyPost_ret (v := hav z0) (by simp [results, Tryd.results64, go_sem, g4, d0, d1]) HD.out ?_
    exact ⟨z0, rfl, HS0.out, grown_nx (World.grownBy_alloc w _ _) HN.out (Nat.le_refl _), rdr_more HJ.out (by omega)⟩
end Go.Proofs.YtpbnbekkmifbpaaDoor
