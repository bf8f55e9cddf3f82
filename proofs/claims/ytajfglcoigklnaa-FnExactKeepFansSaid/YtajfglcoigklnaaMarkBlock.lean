/-
  Marks of lists of Block.
-/
import Derived.Test.YtajfglcoigklnaaMarkT
import Derived.Test.YtajfglcoigklnaaListBlock
namespace Go.Proofs.Ytajfglcoigklnaa
open Go.ChangeShapes Go.WideShapes Go.ChangeAt Go.RowKit Go.Joins
set_option linter.unusedVariables false

/-- The marks from k0 on. -/
def mkBl (k0 : Int) (n : Nat) : List Bl := (List.range n).map fun (k : Nat) => ⟨mtx (k0 + (k : Int) * 3), ((k0 + (k : Int) * 3 + 1) % 3 == 0), ((k0 + (k : Int) * 3 + 1 + 1) % 3 == 0)⟩
theorem mkBl_get {k0 : Int} {n k : Nat} (h : k < n) : (mkBl k0 n)[k]? = some ⟨mtx (k0 + (k : Int) * 3), ((k0 + (k : Int) * 3 + 1) % 3 == 0), ((k0 + (k : Int) * 3 + 1 + 1) % 3 == 0)⟩ := by simp [mkBl, h]
theorem mkBl_len (k0 : Int) (n : Nat) : (mkBl k0 n).length = n := by simp [mkBl]

set_option maxRecDepth 100000 in
set_option maxHeartbeats 2000000 in
theorem markBl_any (A : Option Addr) (n c base : Nat) (xs : List Value) (k0 : Int) (w : World) (h : w.ownsRow base 26 3 (.slice A n c) n xs) (hn : n ≤ 1048576) (h0 : 0 < k0) (h1 : k0 ≤ 10000000) :
    Calls Try.prog 36 #[.slice A n c, .int .i64 k0] w fun e w' => e = .returned (.int .i64 (k0 + (n : Int) * 3)) ∧ w'.ownsRow base 26 3 (.slice A n c) n (bls (mkBl k0 n)) ∧ w.grownBy w' (Value.slice A n c).ownBlock := by
  have H := Lib.hid h; clear h
  go_enter Try.func36, Try.ntmps36
  go_wp2
  go_loopw [1, 5] (fun m i wr => ∃ k : Nat, k ≤ n ∧ i = .int .i64 k ∧ m = .int .i64 (k0 + (k : Int) * 3) ∧ ∃ ys : List Value, wr.ownsRow base 26 3 (.slice A n c) n ys ∧ Fill (bls (mkBl k0 n)) ys (n * 3) (k * 3) ∧ w.grownBy wr (Value.slice A n c).ownBlock)
    (fun _ i _ => n - (intOf i).toNat)
  case atStart => exact ⟨0, Nat.zero_le _, rfl, by simp, _, H.out, (by have := H.out.1; rw [Nat.zero_mul]; exact fill_0 this), World.grownBy.refl _ _⟩
  case round =>
    obtain ⟨k, hk, rfl, rfl, ys, ho, hf, hg⟩ := hrel
    by_cases hlt : k < n
    · obtain ⟨g, rfl, hgb, hgl⟩ := own_at ho hlt
      have hmk := mkBl_get (k0 := k0) hlt
      generalize hmt0 : mtx (k0 + (k : Int) * 3) = mt0 at *
      have HMT0 := Lib.hid hmt0; clear hmt0
      have HMK := Lib.hid hmk
      have HO := Lib.hid ho; have HF := Lib.hid hf; have HG := Lib.hid hg
      clear hmk ho hf hg
      go_wp2_with fail
      refine (mt_any _ _ (by omega) (by omega)).mono ?_
      rw [HMT0.out]
      rintro e w0 ⟨rfl, hb2⟩
      have HO0 := Lib.hid (own_below HO.out hb2); have HG0 := Lib.hid (grown_tr HG.out (grown_of_below hb2)); have HF0 := Lib.hid HF.out
      clear hb2
      obtain ⟨old0, hold0⟩ : ∃ u, w0.cell? ⟨g, k * 3, none⟩ = some u := ⟨_, (HO0.out.cellAt (k * 3) (by omega)).trans (List.getElem?_eq_getElem (by rw [HF0.out.1]; omega))⟩
      have hfr0 := HO0.out.frozenAt (k * 3)
      obtain ⟨old1, hold1⟩ : ∃ u, w0.cell? ⟨g, k * 3 + 1, none⟩ = some u := ⟨_, (HO0.out.cellAt (k * 3 + 1) (by omega)).trans (List.getElem?_eq_getElem (by rw [HF0.out.1]; omega))⟩
      have hfr1 := HO0.out.frozenAt (k * 3 + 1)
      obtain ⟨old2, hold2⟩ : ∃ u, w0.cell? ⟨g, k * 3 + 2, none⟩ = some u := ⟨_, (HO0.out.cellAt (k * 3 + 2) (by omega)).trans (List.getElem?_eq_getElem (by rw [HF0.out.1]; omega))⟩
      have hfr2 := HO0.out.frozenAt (k * 3 + 2)
      go_wp2
      go_roundw
      case rel => exact ⟨k + 1, by omega, by go_num, by congr 1; omega, _, (((HO0.out.stored (k * 3) _).1.stored (k * 3 + 1) _).1.stored (k * 3 + 2) _).1, (by have := (fill_step (fill_step (fill_step HF0.out (by omega) ((bls_get HMK.out 0 (by omega)).trans rfl)) (by omega) ((bls_get HMK.out 1 (by omega)).trans rfl)) (by omega) ((bls_get HMK.out 2 (by omega)).trans rfl)); rwa [show (k + 1) * 3 = k * 3 + 2 + 1 by omega]), (grown_tr (grown_tr (grown_tr HG0.out (HO0.out.stored (k * 3) _).2) ((HO0.out.stored (k * 3) _).1.stored (k * 3 + 1) _).2) (((HO0.out.stored (k * 3) _).1.stored (k * 3 + 1) _).1.stored (k * 3 + 2) _).2)⟩
      case measure => simp [intOf]; omega
    · obtain rfl : k = n := by omega
      have e := fill_end hf (by rw [bls_len, mkBl_len])
      have HE := Lib.hid e; clear e
      have HO := Lib.hid ho; have HG := Lib.hid hg
      clear ho hf hg
      go_wp2
      go_ret
      exact ⟨rfl, by rw [← HE.out]; exact HO.out, HG.out⟩
end Go.Proofs.Ytajfglcoigklnaa
