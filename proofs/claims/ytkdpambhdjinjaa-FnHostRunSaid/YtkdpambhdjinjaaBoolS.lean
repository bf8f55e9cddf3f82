/-
  The contracts of toBoolS and eqBoolS.
-/
import Derived.Test.YtkdpambhdjinjaaIntS
namespace Go.Proofs.Ytkdpambhdjinjaa
open Go.ChangeShapes Go.WideShapes Go.ChangeAt Go.RowKit Go.Joins
set_option linter.unusedVariables false

/-- Truths as cells. -/
def bvs (zs : List Bool) : List Value := zs.map Value.bool
theorem bvs_len (zs : List Bool) : (bvs zs).length = zs.length := by simp [bvs]
theorem Rd.bv {w : World} {A : Option Addr} {n k : Nat} {zs : List Bool} (h : Rd w 1 A n (bvs zs)) (hk : k < n) :
    ∃ (b off : Nat) (z : Bool), A = some ⟨b, off, none⟩ ∧ b < w.heap.size ∧ zs[k]? = some z ∧ w.cell? ⟨b, off + k, none⟩ = some (.bool z) := Rd.bool h hk
theorem rd_blen {w : World} {A : Option Addr} {n : Nat} {zs : List Bool} (h : Rd w 1 A n (bvs zs)) : zs.length = n := by have := h.1; rw [bvs_len] at this; omega
theorem bool_info : (Try.prog.info? 4).map (fun i => (i.zero, i.size, i.bytes)) = some (some (.bool false), 1, 1) := by kernel_rfl

theorem toB_any (A : Option Addr) (n c : Nat) (zs : List Bool) (w : World) (h : Rd w 1 A n (bvs zs)) (hn : n ≤ 1048576) :
    Calls Try.prog 28 #[.slice A n c] w fun e w' => ∃ v, e = .returned v ∧ w'.ownsRow w.heap.size 4 1 v n (bvs zs) ∧ Below w.heap.size w w' := by
  have H := Lib.hid h; clear h
  obtain ⟨i0, hi, hz0, hz1, hz2⟩ := info_parts bool_info
  have HI := Lib.hid hi; have HZ0 := Lib.hid hz0; have HZ1 := Lib.hid hz1; have HZ2 := Lib.hid hz2
  clear hi hz0 hz1 hz2
  go_enter Try.func28, Try.ntmps28
  go_wp2_with (refine wpList_make_full _ rfl _ _ 43 rfl w.heap.size 4 i0 (.bool false) 1 Try.underlying43 HI.out HZ0.out HZ1.out _ _ _ _ n rfl rfl rfl rfl (by rw [HZ2.out]; omega) (by simp only [maxLen]; omega) (Nat.le_refl _) ?_; intro w1 hown hg)
  go_loopw [4] (fun i wr => ∃ k : Nat, k ≤ n ∧ i = .int .i64 k ∧ ∃ ys : List Value, wr.ownsRow w.heap.size 4 1 (.slice (some ⟨w.heap.size, 0, none⟩) n n) n ys ∧ Fill (bvs zs) ys n k ∧ Below w.heap.size w wr)
    (fun i _ => n - (intOf i).toNat)
  case atStart => exact ⟨0, Nat.zero_le _, rfl, _, hown, fill_0 (by have := hown.1; omega), (Below.refl _ _).grown hg (Nat.le_refl _) (fun k hk => by cases hk)⟩
  case round =>
    obtain ⟨k, hk, rfl, ys, ho, hf, hb⟩ := hrel
    by_cases hlt : k < n
    · obtain ⟨b, off, z, rfl, hbl, hz, hc⟩ := (H.out.below hb).bv hlt
      have hbw : b ≠ w.heap.size := by
        obtain ⟨b', off', z', e', hbl', _⟩ := H.out.bv hlt
        injection e' with e'; injection e' with e1 e2; omega
      obtain ⟨old, hold⟩ : ∃ u, wr.cell? ⟨w.heap.size, k, none⟩ = some u := ⟨_, (ho.cellAt k (by omega)).trans (List.getElem?_eq_getElem (by rw [hf.1]; exact hlt))⟩
      have hfr := ho.frozenAt k
      have HO := Lib.hid ho; have HF := Lib.hid hf; have HB := Lib.hid hb; have HZ := Lib.hid hz; have HBW := Lib.hid hbw
      clear ho hf hb hz hbw hg hown
      go_wp2
      go_roundw
      case rel => exact ⟨k + 1, by omega, by go_num, _, (HO.out.stored k _).1, fill_step HF.out hlt (by rw [bvs, List.getElem?_map, HZ.out]; rfl), HB.out.setCell (Nat.le_refl _) _⟩
      case measure => simp [intOf]; omega
    · obtain rfl : k = n := by omega
      have e := fill_end hf (by have := H.out.1; omega)
      have HE := Lib.hid e; clear e
      have HO := Lib.hid ho; have HB := Lib.hid hb
      clear ho hf hb hg hown
      go_wp2
      go_ret
      exact ⟨_, rfl, by rw [← HE.out]; exact HO.out, HB.out⟩
theorem eqB_same (A B : Option Addr) (n c d : Nat) (zs : List Bool) (w : World) (h1 : Rd w 1 A n (bvs zs)) (h2 : Rd w 1 B n (bvs zs)) (hn : n ≤ 1048576) :
    Calls Try.prog 30 #[.slice A n c, .slice B n d] w fun e w' => e = .returned (.bool true) ∧ ∃ q, w.drewN q = w' := by
  have H1 := Lib.hid h1; have H2 := Lib.hid h2; clear h1 h2
  go_enter Try.func30, Try.ntmps30
  go_wp2
  go_loopw [5] (fun i wr => ∃ k : Nat, k ≤ n ∧ i = .int .i64 k ∧ ∃ q, w.drewN q = wr) (fun i _ => n - (intOf i).toNat)
  case atStart => exact ⟨0, Nat.zero_le _, rfl, 0, rfl⟩
  case round =>
    obtain ⟨k, hk, rfl, q, rfl⟩ := hrel
    by_cases hlt : k < n
    · obtain ⟨b, off, z, rfl, hbl, hz, hc⟩ := H1.out.bv hlt
      obtain ⟨b2, off2, z2, rfl, hbl2, hz2, hc2⟩ := H2.out.bv hlt
      obtain rfl : z = z2 := by rw [hz] at hz2; injection hz2
      clear hz hz2
      go_wp2
      go_quiet (fail)
      go_wp2
      go_roundw
      case rel => exact ⟨k + 1, by omega, by go_num, _, rfl⟩
      case measure => simp [intOf]; omega
    · obtain rfl : k = n := by omega
      go_wp2
      go_ret
      exact ⟨rfl, q, rfl⟩
end Go.Proofs.Ytkdpambhdjinjaa
