/-
  The drawing of deliveries: one.
-/
import Derived.Test.YtadgmncngkkdnaaDraw
import Derived.Test.YtadgmncngkkdnaaDrawMore
import Derived.Test.YtadgmncngkkdnaaTypedS
import Derived.Test.YtadgmncngkkdnaaAddSpec
namespace Go.Proofs.Ytadgmncngkkdnaa
open Go.ChangeShapes Go.WideShapes Go.ChangeAt Go.RowKit Go.Joins
set_option linter.unusedVariables false
set_option linter.unusedSimpArgs false
variable {L : Nat}

def tDe (v : Value) : Prop := ∃ z : De, v = dev z ∧ z.b.size ≤ 9
def PcDe (cs : Array Value) : Prop := ∃ z : De, cs = #[.int .i64 z.a, .string z.b, .int .i64 z.c, .int .i64 z.d] ∧ z.b.size ≤ 9
abbrev SlotDe (w : World) (S : Nat) : Prop := SlotIs 25 PcDe w S
theorem slotDe_open {w : World} {S : Nat} (h : SlotDe w S) : ∃ z : De, z.b.size ≤ 9 ∧
    (w.cell? ⟨S, 0, none⟩ = some (.int .i64 z.a) ∧ w.cell? ⟨S, 1, none⟩ = some (.string z.b) ∧ w.cell? ⟨S, 2, none⟩ = some (.int .i64 z.c) ∧ w.cell? ⟨S, 3, none⟩ = some (.int .i64 z.d)) ∧
    (w.frozen? ⟨S, 0, none⟩ = false ∧ w.frozen? ⟨S, 1, none⟩ = false ∧ w.frozen? ⟨S, 2, none⟩ = false ∧ w.frozen? ⟨S, 3, none⟩ = false) := by
  obtain ⟨cs, hb, z, rfl, hs⟩ := h
  refine ⟨z, hs, ⟨?_, ?_, ?_, ?_⟩, ?_, ?_, ?_, ?_⟩ <;> simp [World.cell?, World.frozen?, hb]
theorem slotDe_mk {w : World} (z : De) (hs : z.b.size ≤ 9) : SlotDe (w.alloc (.cells #[.int .i64 z.a, .string z.b, .int .i64 z.c, .int .i64 z.d] 25)) w.heap.size :=
  ⟨_, heap_alloc_new w _, z, rfl, hs⟩
theorem slotDe_store {w : World} {S : Nat} (h : SlotDe w S) {z : De} (hs : z.b.size ≤ 9) :
    SlotDe ((((w.setCell ⟨S, 0, none⟩ (.int .i64 z.a)).setCell ⟨S, 1, none⟩ (.string z.b)).setCell ⟨S, 2, none⟩ (.int .i64 z.c)).setCell ⟨S, 3, none⟩ (.int .i64 z.d)) S := by
  obtain ⟨cs, hb, z', rfl, _⟩ := h
  refine ⟨#[.int .i64 z.a, .string z.b, .int .i64 z.c, .int .i64 z.d], ?_, z, rfl, hs⟩
  simp [World.setCell, Array.getElem?_modify, hb]
theorem nx_store4 (R S : Nat) (w : World) (a b c d : Value) : Nx R S w ((((w.setCell ⟨S, 0, none⟩ a).setCell ⟨S, 1, none⟩ b).setCell ⟨S, 2, none⟩ c).setCell ⟨S, 3, none⟩ d) :=
  (((Nx.setCell R S w 0 a).trans (Nx.setCell R S _ 1 b)).trans (Nx.setCell R S _ 2 c)).trans (Nx.setCell R S _ 3 d)

def l20deT (R S : Nat) (t : Tmp) (v : Value) (w : World) : Prop :=
  match t with
  | 18 => tP R v
  | 19 => tI (0) (4) v
  | 20 => tLS R S 3 9 v w
  | 21 => tP R v
  | 22 => tI (0) (2) v
  | 23 => tAS R S 9 v w
  | 24 => tS 9 v
  | 25 => tP R v
  | 26 => tI (0) (5) v
  | 27 => tP R v
  | 28 => tI (0) (199) v
  | 29 => tDe v
  | _ => True
theorem l20deT_keep (R S : Nat) (t : Tmp) (v : Value) (w w' : World) (hN : Nx R S w w') (h : l20deT R S t v w) : l20deT R S t v w' := by
  unfold l20deT at h ⊢
  split at h <;> first | exact h | exact tLS_keep hN h | exact tAS_keep hN h | trivial

set_option maxHeartbeats 8000000 in
theorem l20de_any (w : World) (R q : Nat) (n : Int) (h : Rdr w L R q) (hq : q ≤ 900) (hn : n ≤ 1000000) :
    Calls Try.prog 28 #[.pointer (some ⟨R, 0, none⟩), .int .i64 n] w fun e w' => ∃ z : De, e = .returned (dev z) ∧ z.b.size ≤ 9 ∧ w.grownBy w' (some R) ∧ Rdr w' L R (q + 40) := by
  have H := Lib.hid h
  have hLR : L ≤ R := by obtain ⟨A, m, c, p, hb, hp, hm, hmc, hc, hLR, hby⟩ := h; exact hLR
  clear h
  have hR := rdr_lt H.out
  have hRS : R ≠ w.heap.size := by omega
  have HLS : Hid (L ≤ w.heap.size) := Lib.hid (by omega)
  go_enter Try.func28, Try.ntmps28
  go_wp2_with fail
  refine (odd_any _ R q _ (rdr_alloc H.out _) (by omega) hn).mono ?_
  rintro e w1 ⟨bo, rfl, _, hg1, hr1⟩
  have HS1 : Hid (SlotDe w1 w.heap.size) := Lib.hid (jslot_grown (slotDe_mk ⟨0, ⟨#[]⟩, 0, 0⟩ (by decide)) hg1 hRS)
  have HG1 : Hid (w.grownBy w1 (some R)) := Lib.hid (grown_after_alloc hg1)
  have HR1 := Lib.hid hr1
  have hws : w.heap.size < w1.heap.size := jslot_lt HS1.out
  clear hg1 hr1
  cases bo
  case true =>
    go_wp2_with fail
    have CS : ∃ cs : List Value, True := ⟨[], trivial⟩
    have hkb : Bk (w1.alloc (.cells #[.int .i64 0, .string ⟨#[]⟩, .int .i64 0, .int .i64 0, .int .i64 (-1), .string ⟨#[97]⟩, .int .i64 0, .int .i64 0, .int .i64 0, .string ⟨#[97]⟩, .int .i64 6, .int .i64 1000000000, .int .i64 0, .string ⟨#[97]⟩, .int .i64 0, .int .i64 1000000001, .int .i64 0, .string ⟨#[65]⟩, .int .i64 0, .int .i64 1000000000] 25)) w1.heap.size 25 #[.int .i64 0, .string ⟨#[]⟩, .int .i64 0, .int .i64 0, .int .i64 (-1), .string ⟨#[97]⟩, .int .i64 0, .int .i64 0, .int .i64 0, .string ⟨#[97]⟩, .int .i64 6, .int .i64 1000000000, .int .i64 0, .string ⟨#[97]⟩, .int .i64 0, .int .i64 1000000001, .int .i64 0, .string ⟨#[65]⟩, .int .i64 0, .int .i64 1000000000] := Bk.new w1 _ _
    refine (pick_any _ R (q + 1) _ (rdr_alloc HR1.out _) (by omega)).mono ?_
    rintro e w2 ⟨k5, rfl, hk5, hg2, hr2⟩
    have hkb2 := hkb.grown hg2 (by intro e; injection e with e; have := rdr_lt HR1.out; omega)
    have HS2 : Hid (SlotDe w2 w.heap.size) := Lib.hid (jslot_grown (jslot_alloc HS1.out _) hg2 hRS)
    have HG2 : Hid (w.grownBy w2 (some R)) := Lib.hid (grown_trans' HG1.out (grown_after_alloc hg2))
    have HR2 := Lib.hid hr2
    obtain ⟨z0, hs0, ⟨d0, d1, d2, d3⟩, f0, f1, f2, f3⟩ := slotDe_open HS2.out
    have hl2 := hkb2.lt
    have hl3 := jslot_lt HS2.out
    have hk : k5 = 0 ∨ k5 = 1 ∨ k5 = 2 ∨ k5 = 3 ∨ k5 = 4 := by omega
    clear CS hg2 hr2 hkb hk5
    rcases hk with rfl | rfl | rfl | rfl | rfl
    · have z0' := hkb2.cell 0 (v := .int .i64 0) rfl
      have z1' := hkb2.cell 1 (v := .string ⟨#[]⟩) rfl
      have z2' := hkb2.cell 2 (v := .int .i64 0) rfl
      have z3' := hkb2.cell 3 (v := .int .i64 0) rfl
      clear hkb2
      go_wp2_with fail
      have hk : Bk ((((w2.setCell ⟨w.heap.size, 0, none⟩ (.int .i64 0)).setCell ⟨w.heap.size, 1, none⟩ (.string ⟨#[]⟩)).setCell ⟨w.heap.size, 2, none⟩ (.int .i64 0)).setCell ⟨w.heap.size, 3, none⟩ (.int .i64 0)) w.heap.size 25 #[.int .i64 0, .string ⟨#[]⟩, .int .i64 0, .int .i64 0] := by
        obtain ⟨cs, hb, z', rfl, _⟩ := HS2.out
        have hb : Bk w2 w.heap.size 25 #[.int .i64 z'.a, .string z'.b, .int .i64 z'.c, .int .i64 z'.d] := hb
        exact (((hb.set_ 0 _).set_ 1 _).set_ 2 _).set_ 3 _
      have c0 := hk.cell 0 (v := .int .i64 0) rfl
      have c1 := hk.cell 1 (v := .string ⟨#[]⟩) rfl
      have c2 := hk.cell 2 (v := .int .i64 0) rfl
      have c3 := hk.cell 3 (v := .int .i64 0) rfl
      refine bodyPost_ret (v := dev ⟨0, ⟨#[]⟩, 0, 0⟩) (by simp [results, Try.results28, go_sem, c0, c1, c2, c3]) rfl ?_
      exact ⟨⟨0, ⟨#[]⟩, 0, 0⟩, rfl, by decide, (((only_setCell HG2.out (Nat.le_refl _) _ |> fun h => only_setCell h (Nat.le_refl _) _) |> fun h => only_setCell h (Nat.le_refl _) _) |> fun h => only_setCell h (Nat.le_refl _) _), rdr_more (rdr_setCell' (rdr_setCell' (rdr_setCell' (rdr_setCell' HR2.out HLS.out (Ne.symm hRS) _) HLS.out (Ne.symm hRS) _) HLS.out (Ne.symm hRS) _) HLS.out (Ne.symm hRS) _) (by omega)⟩
    · have z0' := hkb2.cell 4 (v := .int .i64 (-1)) rfl
      have z1' := hkb2.cell 5 (v := .string ⟨#[97]⟩) rfl
      have z2' := hkb2.cell 6 (v := .int .i64 0) rfl
      have z3' := hkb2.cell 7 (v := .int .i64 0) rfl
      clear hkb2
      go_wp2_with fail
      have hk : Bk ((((w2.setCell ⟨w.heap.size, 0, none⟩ (.int .i64 (-1))).setCell ⟨w.heap.size, 1, none⟩ (.string ⟨#[97]⟩)).setCell ⟨w.heap.size, 2, none⟩ (.int .i64 0)).setCell ⟨w.heap.size, 3, none⟩ (.int .i64 0)) w.heap.size 25 #[.int .i64 (-1), .string ⟨#[97]⟩, .int .i64 0, .int .i64 0] := by
        obtain ⟨cs, hb, z', rfl, _⟩ := HS2.out
        have hb : Bk w2 w.heap.size 25 #[.int .i64 z'.a, .string z'.b, .int .i64 z'.c, .int .i64 z'.d] := hb
        exact (((hb.set_ 0 _).set_ 1 _).set_ 2 _).set_ 3 _
      have c0 := hk.cell 0 (v := .int .i64 (-1)) rfl
      have c1 := hk.cell 1 (v := .string ⟨#[97]⟩) rfl
      have c2 := hk.cell 2 (v := .int .i64 0) rfl
      have c3 := hk.cell 3 (v := .int .i64 0) rfl
      refine bodyPost_ret (v := dev ⟨(-1), ⟨#[97]⟩, 0, 0⟩) (by simp [results, Try.results28, go_sem, c0, c1, c2, c3]) rfl ?_
      exact ⟨⟨(-1), ⟨#[97]⟩, 0, 0⟩, rfl, by decide, (((only_setCell HG2.out (Nat.le_refl _) _ |> fun h => only_setCell h (Nat.le_refl _) _) |> fun h => only_setCell h (Nat.le_refl _) _) |> fun h => only_setCell h (Nat.le_refl _) _), rdr_more (rdr_setCell' (rdr_setCell' (rdr_setCell' (rdr_setCell' HR2.out HLS.out (Ne.symm hRS) _) HLS.out (Ne.symm hRS) _) HLS.out (Ne.symm hRS) _) HLS.out (Ne.symm hRS) _) (by omega)⟩
    · have z0' := hkb2.cell 8 (v := .int .i64 0) rfl
      have z1' := hkb2.cell 9 (v := .string ⟨#[97]⟩) rfl
      have z2' := hkb2.cell 10 (v := .int .i64 6) rfl
      have z3' := hkb2.cell 11 (v := .int .i64 1000000000) rfl
      clear hkb2
      go_wp2_with fail
      have hk : Bk ((((w2.setCell ⟨w.heap.size, 0, none⟩ (.int .i64 0)).setCell ⟨w.heap.size, 1, none⟩ (.string ⟨#[97]⟩)).setCell ⟨w.heap.size, 2, none⟩ (.int .i64 6)).setCell ⟨w.heap.size, 3, none⟩ (.int .i64 1000000000)) w.heap.size 25 #[.int .i64 0, .string ⟨#[97]⟩, .int .i64 6, .int .i64 1000000000] := by
        obtain ⟨cs, hb, z', rfl, _⟩ := HS2.out
        have hb : Bk w2 w.heap.size 25 #[.int .i64 z'.a, .string z'.b, .int .i64 z'.c, .int .i64 z'.d] := hb
        exact (((hb.set_ 0 _).set_ 1 _).set_ 2 _).set_ 3 _
      have c0 := hk.cell 0 (v := .int .i64 0) rfl
      have c1 := hk.cell 1 (v := .string ⟨#[97]⟩) rfl
      have c2 := hk.cell 2 (v := .int .i64 6) rfl
      have c3 := hk.cell 3 (v := .int .i64 1000000000) rfl
      refine bodyPost_ret (v := dev ⟨0, ⟨#[97]⟩, 6, 1000000000⟩) (by simp [results, Try.results28, go_sem, c0, c1, c2, c3]) rfl ?_
      exact ⟨⟨0, ⟨#[97]⟩, 6, 1000000000⟩, rfl, by decide, (((only_setCell HG2.out (Nat.le_refl _) _ |> fun h => only_setCell h (Nat.le_refl _) _) |> fun h => only_setCell h (Nat.le_refl _) _) |> fun h => only_setCell h (Nat.le_refl _) _), rdr_more (rdr_setCell' (rdr_setCell' (rdr_setCell' (rdr_setCell' HR2.out HLS.out (Ne.symm hRS) _) HLS.out (Ne.symm hRS) _) HLS.out (Ne.symm hRS) _) HLS.out (Ne.symm hRS) _) (by omega)⟩
    · have z0' := hkb2.cell 12 (v := .int .i64 0) rfl
      have z1' := hkb2.cell 13 (v := .string ⟨#[97]⟩) rfl
      have z2' := hkb2.cell 14 (v := .int .i64 0) rfl
      have z3' := hkb2.cell 15 (v := .int .i64 1000000001) rfl
      clear hkb2
      go_wp2_with fail
      have hk : Bk ((((w2.setCell ⟨w.heap.size, 0, none⟩ (.int .i64 0)).setCell ⟨w.heap.size, 1, none⟩ (.string ⟨#[97]⟩)).setCell ⟨w.heap.size, 2, none⟩ (.int .i64 0)).setCell ⟨w.heap.size, 3, none⟩ (.int .i64 1000000001)) w.heap.size 25 #[.int .i64 0, .string ⟨#[97]⟩, .int .i64 0, .int .i64 1000000001] := by
        obtain ⟨cs, hb, z', rfl, _⟩ := HS2.out
        have hb : Bk w2 w.heap.size 25 #[.int .i64 z'.a, .string z'.b, .int .i64 z'.c, .int .i64 z'.d] := hb
        exact (((hb.set_ 0 _).set_ 1 _).set_ 2 _).set_ 3 _
      have c0 := hk.cell 0 (v := .int .i64 0) rfl
      have c1 := hk.cell 1 (v := .string ⟨#[97]⟩) rfl
      have c2 := hk.cell 2 (v := .int .i64 0) rfl
      have c3 := hk.cell 3 (v := .int .i64 1000000001) rfl
      refine bodyPost_ret (v := dev ⟨0, ⟨#[97]⟩, 0, 1000000001⟩) (by simp [results, Try.results28, go_sem, c0, c1, c2, c3]) rfl ?_
      exact ⟨⟨0, ⟨#[97]⟩, 0, 1000000001⟩, rfl, by decide, (((only_setCell HG2.out (Nat.le_refl _) _ |> fun h => only_setCell h (Nat.le_refl _) _) |> fun h => only_setCell h (Nat.le_refl _) _) |> fun h => only_setCell h (Nat.le_refl _) _), rdr_more (rdr_setCell' (rdr_setCell' (rdr_setCell' (rdr_setCell' HR2.out HLS.out (Ne.symm hRS) _) HLS.out (Ne.symm hRS) _) HLS.out (Ne.symm hRS) _) HLS.out (Ne.symm hRS) _) (by omega)⟩
    · have z0' := hkb2.cell 16 (v := .int .i64 0) rfl
      have z1' := hkb2.cell 17 (v := .string ⟨#[65]⟩) rfl
      have z2' := hkb2.cell 18 (v := .int .i64 0) rfl
      have z3' := hkb2.cell 19 (v := .int .i64 1000000000) rfl
      clear hkb2
      go_wp2_with fail
      have hk : Bk ((((w2.setCell ⟨w.heap.size, 0, none⟩ (.int .i64 0)).setCell ⟨w.heap.size, 1, none⟩ (.string ⟨#[65]⟩)).setCell ⟨w.heap.size, 2, none⟩ (.int .i64 0)).setCell ⟨w.heap.size, 3, none⟩ (.int .i64 1000000000)) w.heap.size 25 #[.int .i64 0, .string ⟨#[65]⟩, .int .i64 0, .int .i64 1000000000] := by
        obtain ⟨cs, hb, z', rfl, _⟩ := HS2.out
        have hb : Bk w2 w.heap.size 25 #[.int .i64 z'.a, .string z'.b, .int .i64 z'.c, .int .i64 z'.d] := hb
        exact (((hb.set_ 0 _).set_ 1 _).set_ 2 _).set_ 3 _
      have c0 := hk.cell 0 (v := .int .i64 0) rfl
      have c1 := hk.cell 1 (v := .string ⟨#[65]⟩) rfl
      have c2 := hk.cell 2 (v := .int .i64 0) rfl
      have c3 := hk.cell 3 (v := .int .i64 1000000000) rfl
      refine bodyPost_ret (v := dev ⟨0, ⟨#[65]⟩, 0, 1000000000⟩) (by simp [results, Try.results28, go_sem, c0, c1, c2, c3]) rfl ?_
      exact ⟨⟨0, ⟨#[65]⟩, 0, 1000000000⟩, rfl, by decide, (((only_setCell HG2.out (Nat.le_refl _) _ |> fun h => only_setCell h (Nat.le_refl _) _) |> fun h => only_setCell h (Nat.le_refl _) _) |> fun h => only_setCell h (Nat.le_refl _) _), rdr_more (rdr_setCell' (rdr_setCell' (rdr_setCell' (rdr_setCell' HR2.out HLS.out (Ne.symm hRS) _) HLS.out (Ne.symm hRS) _) HLS.out (Ne.symm hRS) _) HLS.out (Ne.symm hRS) _) (by omega)⟩
  go_wp2_with fail
  refine wp_region_typed R w.heap.size (l20deT R w.heap.size) (fun c w' => Rdr w' L R (q + 1 + 2 * c) ∧ SlotDe w' w.heap.size) (by kernel_rfl) (regOk_of (by kernel_rfl)) (l20deT_keep R w.heap.size) ⟨rdr_drew HR1.out, jslot_drew HS1.out⟩ ?_ ?_
  · intro i o c b wb ho hc hJ hN hsz hfr hdep K hK
    have hi := (Array.getElem?_eq_some_iff.1 ho).1
    simp only [List.size_toArray, List.length_cons, List.length_nil] at hi hc
    have hcases : i = 0 ∨ i = 1 ∨ i = 2 ∨ i = 3 ∨ i = 4 ∨ i = 5 ∨ i = 6 ∨ i = 7 ∨ i = 8 ∨ i = 9 ∨ i = 10 ∨ i = 11 ∨ i = 12 := by omega
    rcases hcases with rfl | rfl | rfl | rfl | rfl | rfl | rfl | rfl | rfl | rfl | rfl | rfl | rfl
    · cases (show some _ = some o from ho)
      have h0 : b.tmps.getD 0 undef = .pointer (some ⟨R, 0, none⟩) := hfr 0 (noDst_of (by kernel_rfl))
      have HK := Lib.hid hK
      have HN := Lib.hid hN
      clear hK hdep hfr hsz ho hN
      go_simp
      exact HK.out _ _ (fun d hd => by cases hd; exact rfl) (Nx.refl _ _ _) ⟨rdr_more hJ.1 (by omega), hJ.2⟩
    · cases (show some _ = some o from ho)
      have h18 : tP R (b.tmps.getD 18 undef) := hdep 18 (reads_of (by kernel_rfl)) ⟨0, _, rfl, rfl⟩
      unfold tP at h18
      have HK := Lib.hid hK
      have HN := Lib.hid hN
      clear hK hdep hfr hsz ho hN
      go_simp
      refine (pick_any _ R _ _ hJ.1 (by omega)).mono ?_
      rintro e w' ⟨k, rfl, hk, hg, hr⟩
      exact HK.out _ _ (fun d hd => by cases hd; exact ⟨k, rfl, by omega, by omega⟩) (Nx.of_grown hg) ⟨rdr_more hr (by omega), jslot_grown hJ.2 hg hRS⟩
    · cases (show some _ = some o from ho)
      have HK := Lib.hid hK
      have HN := Lib.hid hN
      clear hK hdep hfr hsz ho hN
      go_simp
      refine HK.out _ _ (fun d hd => ?_) (Nx.alloc _ _ _ _) ⟨rdr_more (rdr_alloc hJ.1 _) (by omega), jslot_alloc hJ.2 _⟩
      cases hd
      refine tLS_new rfl (by have := rdr_lt hJ.1; omega) (by have := jslot_lt hJ.2; omega) ?_
      intro v hv
      simp only [List.mem_cons, List.not_mem_nil, or_false] at hv
      rcases hv with rfl | rfl | rfl <;> first | exact ⟨_, by decide, rfl⟩ | exact ⟨_, by omega, rfl⟩
    · cases (show some _ = some o from ho)
      have h0 : b.tmps.getD 0 undef = .pointer (some ⟨R, 0, none⟩) := hfr 0 (noDst_of (by kernel_rfl))
      have HK := Lib.hid hK
      have HN := Lib.hid hN
      clear hK hdep hfr hsz ho hN
      go_simp
      exact HK.out _ _ (fun d hd => by cases hd; exact rfl) (Nx.refl _ _ _) ⟨rdr_more hJ.1 (by omega), hJ.2⟩
    · cases (show some _ = some o from ho)
      have h21 : tP R (b.tmps.getD 21 undef) := hdep 21 (reads_of (by kernel_rfl)) ⟨3, _, rfl, rfl⟩
      unfold tP at h21
      have HK := Lib.hid hK
      have HN := Lib.hid hN
      clear hK hdep hfr hsz ho hN
      go_simp
      refine (pick_any _ R _ _ hJ.1 (by omega)).mono ?_
      rintro e w' ⟨k, rfl, hk, hg, hr⟩
      exact HK.out _ _ (fun d hd => by cases hd; exact ⟨k, rfl, by omega, by omega⟩) (Nx.of_grown hg) ⟨rdr_more hr (by omega), jslot_grown hJ.2 hg hRS⟩
    · cases (show some _ = some o from ho)
      have h20 : tLS R w.heap.size 3 9 (b.tmps.getD 20 undef) wb := hdep 20 (reads_of (by kernel_rfl)) ⟨2, _, rfl, rfl⟩
      obtain ⟨g20, e20, gR20, gS20, hc20⟩ := h20
      have h22 : tI (0) (2) (b.tmps.getD 22 undef) := hdep 22 (reads_of (by kernel_rfl)) ⟨4, _, rfl, rfl⟩
      obtain ⟨x22, e22, l22, u22⟩ := h22
      have f22 := getD_opt e22
      obtain ⟨k22, rfl⟩ := Int.eq_ofNat_of_zero_le (show 0 ≤ x22 by omega)
      obtain ⟨z20, uz, hz⟩ := hc20 k22 (by omega)
      have hlt : (k22 : Int) < 3 := by omega
      clear hc20
      have HK := Lib.hid hK
      have HN := Lib.hid hN
      clear hK hdep hfr hsz ho hN
      go_simp
      exact HK.out _ _ (fun d hd => by cases hd; exact ⟨g20, k22, z20, rfl, gR20, gS20, by omega, hz⟩) (Nx.refl _ _ _) ⟨rdr_more hJ.1 (by omega), hJ.2⟩
    · cases (show some _ = some o from ho)
      have h23 : tAS R w.heap.size 9 (b.tmps.getD 23 undef) wb := hdep 23 (reads_of (by kernel_rfl)) ⟨5, _, rfl, rfl⟩
      obtain ⟨g23, j23, z23, e23, gR23, gS23, u23, hz23⟩ := h23
      have HK := Lib.hid hK
      have HN := Lib.hid hN
      clear hK hdep hfr hsz ho hN
      go_simp
      exact HK.out _ _ (fun d hd => by cases hd; exact ⟨z23, rfl, by omega⟩) (Nx.refl _ _ _) ⟨rdr_more hJ.1 (by omega), hJ.2⟩
    · cases (show some _ = some o from ho)
      have h0 : b.tmps.getD 0 undef = .pointer (some ⟨R, 0, none⟩) := hfr 0 (noDst_of (by kernel_rfl))
      have HK := Lib.hid hK
      have HN := Lib.hid hN
      clear hK hdep hfr hsz ho hN
      go_simp
      exact HK.out _ _ (fun d hd => by cases hd; exact rfl) (Nx.refl _ _ _) ⟨rdr_more hJ.1 (by omega), hJ.2⟩
    · cases (show some _ = some o from ho)
      have h25 : tP R (b.tmps.getD 25 undef) := hdep 25 (reads_of (by kernel_rfl)) ⟨7, _, rfl, rfl⟩
      unfold tP at h25
      have HK := Lib.hid hK
      have HN := Lib.hid hN
      clear hK hdep hfr hsz ho hN
      go_simp
      refine (pick_any _ R _ _ hJ.1 (by omega)).mono ?_
      rintro e w' ⟨k, rfl, hk, hg, hr⟩
      exact HK.out _ _ (fun d hd => by cases hd; exact ⟨k, rfl, by omega, by omega⟩) (Nx.of_grown hg) ⟨rdr_more hr (by omega), jslot_grown hJ.2 hg hRS⟩
    · cases (show some _ = some o from ho)
      have h0 : b.tmps.getD 0 undef = .pointer (some ⟨R, 0, none⟩) := hfr 0 (noDst_of (by kernel_rfl))
      have HK := Lib.hid hK
      have HN := Lib.hid hN
      clear hK hdep hfr hsz ho hN
      go_simp
      exact HK.out _ _ (fun d hd => by cases hd; exact rfl) (Nx.refl _ _ _) ⟨rdr_more hJ.1 (by omega), hJ.2⟩
    · cases (show some _ = some o from ho)
      have h27 : tP R (b.tmps.getD 27 undef) := hdep 27 (reads_of (by kernel_rfl)) ⟨9, _, rfl, rfl⟩
      unfold tP at h27
      have HK := Lib.hid hK
      have HN := Lib.hid hN
      clear hK hdep hfr hsz ho hN
      go_simp
      refine (pick_any _ R _ _ hJ.1 (by omega)).mono ?_
      rintro e w' ⟨k, rfl, hk, hg, hr⟩
      exact HK.out _ _ (fun d hd => by cases hd; exact ⟨k, rfl, by omega, by omega⟩) (Nx.of_grown hg) ⟨rdr_more hr (by omega), jslot_grown hJ.2 hg hRS⟩
    · cases (show some _ = some o from ho)
      obtain ⟨x19, e19, l19, u19⟩ : tI 0 4 (b.tmps.getD 19 undef) := hdep 19 (reads_of (by kernel_rfl)) ⟨1, _, rfl, rfl⟩
      obtain ⟨x24, e24, u24⟩ : tS 9 (b.tmps.getD 24 undef) := hdep 24 (reads_of (by kernel_rfl)) ⟨6, _, rfl, rfl⟩
      obtain ⟨x26, e26, l26, u26⟩ : tI 0 5 (b.tmps.getD 26 undef) := hdep 26 (reads_of (by kernel_rfl)) ⟨8, _, rfl, rfl⟩
      obtain ⟨x28, e28, l28, u28⟩ : tI 0 199 (b.tmps.getD 28 undef) := hdep 28 (reads_of (by kernel_rfl)) ⟨10, _, rfl, rfl⟩
      have f19 := getD_opt e19
      have f24 := getD_opt e24
      have f26 := getD_opt e26
      have f28 := getD_opt e28
      have HK := Lib.hid hK
      have HN := Lib.hid hN
      clear hK hdep hfr hsz ho hN
      go_simp
      exact HK.out _ _ (fun d hd => by cases hd; exact ⟨⟨x19, x24, x26, x28⟩, rfl, u24⟩) (Nx.refl _ _ _) ⟨rdr_more hJ.1 (by omega), hJ.2⟩
    · cases (show some _ = some o from ho)
      have h4 : b.tmps.getD 4 undef = .pointer (some ⟨w.heap.size, 0, none⟩) := hfr 4 (noDst_of (by kernel_rfl))
      obtain ⟨z', e29, hs29⟩ : tDe (b.tmps.getD 29 undef) := hdep 29 (reads_of (by kernel_rfl)) ⟨11, _, rfl, rfl⟩
      obtain ⟨z0, hs0, ⟨d0, d1, d2, d3⟩, g0, g1, g2, g3⟩ := slotDe_open hJ.2
      have f29 := getD_opt e29
      have f4 := getD_opt h4
      have HS10 := Lib.hid hs29
      have HK := Lib.hid hK
      have HN := Lib.hid hN
      clear hK hdep hfr hsz ho hN hs0 hs29
      go_simp
      exact HK.out undef _ (fun d hd => by cases hd) (nx_store4 _ _ _ _ _ _ _) ⟨rdr_more (rdr_setCell' (rdr_setCell' (rdr_setCell' (rdr_setCell' hJ.1 HLS.out (Ne.symm hRS) _) HLS.out (Ne.symm hRS) _) HLS.out (Ne.symm hRS) _) HLS.out (Ne.symm hRS) _) (by omega), slotDe_store hJ.2 HS10.out⟩
  · intro b wb hsz hdf hfr hty hN hJ
    have h4 : b.tmps.getD 4 undef = .pointer (some ⟨w.heap.size, 0, none⟩) := hfr 4 (noDst_of (by kernel_rfl))
    obtain ⟨c, hc, hJ1, hJ2⟩ := hJ
    simp only [List.size_toArray, List.length_cons, List.length_nil] at hc
    obtain ⟨z0, hs0, ⟨d0, d1, d2, d3⟩, f0, f1, f2, f3⟩ := slotDe_open hJ2
    have HN := Lib.hid hN
    have HD : Hid (b.defers = []) := Lib.hid hdf
    have HS0 := Lib.hid hs0
    have HJ := Lib.hid hJ1
    have g4 := getD_opt h4
    clear hsz hdf hfr hty hN hJ1 hJ2 hs0
    go_wp2
    refine bodyPost_ret (v := dev z0) (by simp [results, Try.results28, go_sem, g4, d0, d1, d2, d3]) HD.out ?_
    exact ⟨z0, rfl, HS0.out, grown_nx HG1.out HN.out (Nat.le_refl _), rdr_more HJ.out (by omega)⟩
end Go.Proofs.Ytadgmncngkkdnaa
