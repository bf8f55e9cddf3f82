/-
  Marks of lists of Handle.
-/
import Derived.Test.YtpbnbekkmifbpaaDoorMarkT
import Derived.Test.YtpbnbekkmifbpaaDoorListHandle
namespace Go.Proofs.YtpbnbekkmifbpaaDoor
open Go.ChangeShapes Go.WideShapes Go.ChangeAt Go.RowKit Go.Joins
set_option linter.unusedVariables false

/-- The marks from k0 on. -/
def mkHa (k0 : Int) (n : Nat) : List Ha := (List.range n).map fun (k : Nat) => ⟨mtx (k0 + (k : Int) * 2), mtx (k0 + (k : Int) * 2 + 1)⟩
theorem mkHa_get {k0 : Int} {n k : Nat} (h : k < n) : (mkHa k0 n)[k]? = some ⟨mtx (k0 + (k : Int) * 2), mtx (k0 + (k : Int) * 2 + 1)⟩ := by simp [mkHa, h]
theorem mkHa_len (k0 : Int) (n : Nat) : (mkHa k0 n).length = n := by simp [mkHa]

set_option maxRecDepth 100000 in
set_option maxHeartbeats 2000000 in
theorem markHa_any (A : Option Addr) (n c base : Nat) (xs : List Value) (k0 : Int) (w : World) (h : w.ownsRow base 29 2 (.slice A n c) n xs) (hn : n ≤ 1048576) (h0 : 0 < k0) (h1 : k0 ≤ 10000000) :
    Calls Tryd.prog 17 #[.slice A n c, .int .i64 k0] w fun e w' => e = .returned (.int .i64 (k0 + (n : Int) * 2)) ∧ w'.ownsRow base 29 2 (.slice A n c) n (has (mkHa k0 n)) ∧ w.grownBy w' (Value.slice A n c).ownBlock := by
  have H := Lib.hid h; clear h
  go_enter Tryd.func17, Tryd.ntmps17
  go_wp2
  go_loopw [1, 5] (fun m i wr => ∃ k : Nat, k ≤ n ∧ i = .int .i64 k ∧ m = .int .i64 (k0 + (k : Int) * 2) ∧ ∃ ys : List Value, wr.ownsRow base 29 2 (.slice A n c) n ys ∧ Fill (has (mkHa k0 n)) ys (n * 2) (k * 2) ∧ w.grownBy wr (Value.slice A n c).ownBlock)
    (fun _ i _ => n - (intOf i).toNat)
  case atStart => exact ⟨0, Nat.zero_le _, rfl, by simp, _, H.out, (by have := H.out.1; rw [Nat.zero_mul]; exact fill_0 this), World.grownBy.refl _ _⟩
  case round =>
    obtain ⟨k, hk, rfl, rfl, ys, ho, hf, hg⟩ := hrel
    by_cases hlt : k < n
    · obtain ⟨g, rfl, hgb, hgl⟩ := own_at ho hlt
      have hmk := mkHa_get (k0 := k0) hlt
      generalize hmt0 : mtx (k0 + (k : Int) * 2) = mt0 at *
      have HMT0 := Lib.hid hmt0; clear hmt0
      generalize hmt1 : mtx (k0 + (k : Int) * 2 + 1) = mt1 at *
      have HMT1 := Lib.hid hmt1; clear hmt1
      have HMK := Lib.hid hmk
      have HO := Lib.hid ho; have HF := Lib.hid hf; have HG := Lib.hid hg
      clear hmk ho hf hg
      go_wp2_with fail
      refine (mt_any _ _ (by omega) (by omega)).mono ?_
      rw [HMT0.out]
      rintro e w0 ⟨rfl, hb2⟩
      have HO0 := Lib.hid (own_below HO.out hb2); have HG0 := Lib.hid (grown_tr HG.out (grown_of_below hb2)); have HF0 := Lib.hid HF.out
      clear hb2
      obtain ⟨old0, hold0⟩ : ∃ u, w0.cell? ⟨g, k * 2, none⟩ = some u := ⟨_, (HO0.out.cellAt (k * 2) (by omega)).trans (List.getElem?_eq_getElem (by rw [HF0.out.1]; omega))⟩
      have hfr0 := HO0.out.frozenAt (k * 2)
      obtain ⟨old1, hold1⟩ : ∃ u, w0.cell? ⟨g, k * 2 + 1, none⟩ = some u := ⟨_, (HO0.out.cellAt (k * 2 + 1) (by omega)).trans (List.getElem?_eq_getElem (by rw [HF0.out.1]; omega))⟩
      have hfr1 := HO0.out.frozenAt (k * 2 + 1)
      go_wp2_with fail
      refine (mt_any _ _ (by omega) (by omega)).mono ?_
      rw [HMT1.out]
      rintro e w1 ⟨rfl, hb2⟩
      have HO1 := Lib.hid (own_below (HO0.out.stored (k * 2) _).1 hb2); have HG1 := Lib.hid (grown_tr (grown_tr HG0.out (HO0.out.stored (k * 2) _).2) (grown_of_below hb2)); have HF1 := Lib.hid (fill_step HF0.out (by omega) ((has_get HMK.out 0 (by omega)).trans rfl))
      clear hb2
      clear hold0 hfr0 hold1 hfr1
      obtain ⟨old1, hold1⟩ : ∃ u, w1.cell? ⟨g, k * 2 + 1, none⟩ = some u := ⟨_, (HO1.out.cellAt (k * 2 + 1) (by omega)).trans (List.getElem?_eq_getElem (by rw [HF1.out.1]; omega))⟩
      have hfr1 := HO1.out.frozenAt (k * 2 + 1)
      go_wp2
      go_roundw
      case rel => exact ⟨k + 1, by omega, by go_num, by congr 1; omega, _, (HO1.out.stored (k * 2 + 1) _).1, (by have := (fill_step HF1.out (by omega) ((has_get HMK.out 1 (by omega)).trans rfl)); rwa [show (k + 1) * 2 = k * 2 + 1 + 1 by omega]), (grown_tr HG1.out (HO1.out.stored (k * 2 + 1) _).2)⟩
      case measure => simp [intOf]; omega
    · obtain rfl : k = n := by omega
      have e := fill_end hf (by rw [has_len, mkHa_len])
      have HE := Lib.hid e; clear e
      have HO := Lib.hid ho; have HG := Lib.hid hg
      clear ho hf hg
      go_wp2
      go_ret
      exact ⟨rfl, by rw [← HE.out]; exact HO.out, HG.out⟩

set_option maxRecDepth 100000 in
set_option maxHeartbeats 2000000 in
theorem heldHa_any (A : Option Addr) (n c : Nat) (k0 : Int) (w : World) (h : Rd w 2 A n (has (mkHa k0 n))) (hn : n ≤ 1048576) (h0 : 0 < k0) (h1 : k0 ≤ 10000000) :
    Calls Tryd.prog 18 #[.slice A n c, .int .i64 k0] w fun e w' => e = .returned (.int .i64 (k0 + (n : Int) * 2)) ∧ Below w.heap.size w w' := by
  have H := Lib.hid h; clear h
  go_enter Tryd.func18, Tryd.ntmps18
  go_wp2
  go_loopw [1, 5] (fun m i wr => ∃ k : Nat, k ≤ n ∧ i = .int .i64 k ∧ m = .int .i64 (k0 + (k : Int) * 2) ∧ Below w.heap.size w wr) (fun _ i _ => n - (intOf i).toNat)
  case atStart => exact ⟨0, Nat.zero_le _, rfl, by simp, Below.refl _ _⟩
  case round =>
    obtain ⟨k, hk, rfl, rfl, hb⟩ := hrel
    by_cases hlt : k < n
    · obtain ⟨b, off, z, rfl, hbl, hz, hc0, hc1⟩ := (H.out.below hb).ha hlt
      rw [mkHa_get hlt] at hz
      injection hz with hz
      subst hz
      have HB := Lib.hid hb; clear hb
      simp only at hc0 hc1
      generalize hmt0 : mtx (k0 + (k : Int) * 2) = mt0 at *
      have HMT0 := Lib.hid hmt0; clear hmt0
      generalize hmt1 : mtx (k0 + (k : Int) * 2 + 1) = mt1 at *
      have HMT1 := Lib.hid hmt1; clear hmt1
      go_wp2_with fail
      go_region_held3 (fun w' => w'.cell? ⟨b, off + k * 2, none⟩ = some (.string mt0)) (first | assumption | (refine drew_some ?_; assumption))
        (first | (go_at_call 42; refine (mt_any _ _ (by omega) (by omega)).mono ?_; rw [HMT0.out]; rintro e w0 ⟨rfl, hb2⟩; have hd0 := (hb2.cell (p := ⟨b, off + k * 2, none⟩) hbl).trans hc0))
      have hb2 := beld hb2
      have HB0 := Lib.hid (belB HB.out HB.out.size hb2)
      have hbl0 : b < w0.heap.size := Nat.lt_of_lt_of_le hbl hb2.size
      have he0_1 := (hb2.cell (p := ⟨b, off + k * 2 + 1, none⟩) hbl).trans hc1
      clear hb2 hc1
      go_wp2_with fail
      go_region_held3 (fun w' => w'.cell? ⟨b, off + k * 2 + 1, none⟩ = some (.string mt1)) (first | assumption | (refine drew_some ?_; assumption))
        (first | (go_at_call 42; refine (mt_any _ _ (by omega) (by omega)).mono ?_; rw [HMT1.out]; rintro e w1 ⟨rfl, hb2⟩; have hd1 := (hb2.cell (p := ⟨b, off + k * 2 + 1, none⟩) hbl0).trans he0_1))
      have hb2 := beld hb2
      have HB1 := Lib.hid (belB HB0.out HB0.out.size hb2)
      have hbl1 : b < w1.heap.size := Nat.lt_of_lt_of_le hbl0 hb2.size
      clear hb2 
      go_wp2
      go_roundw
      case rel => exact ⟨k + 1, by omega, by go_num, by congr 1; omega, by first | exact HB1.out | exact HB1.out.drew⟩
      case measure => simp [intOf]; omega
    · obtain rfl : k = n := by omega
      have HB := Lib.hid hb; clear hb
      go_wp2
      go_ret
      exact ⟨rfl, HB.out⟩
end Go.Proofs.YtpbnbekkmifbpaaDoor
