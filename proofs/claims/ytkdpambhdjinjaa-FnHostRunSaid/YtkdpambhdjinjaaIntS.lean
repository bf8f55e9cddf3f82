/-
  The contracts of toIntS, eqIntS, markIntS, heldIntS and sameInts.
-/
import Derived.Test.YtkdpambhdjinjaaMem
namespace Go.Proofs.Ytkdpambhdjinjaa
open Go.ChangeShapes Go.WideShapes Go.ChangeAt Go.RowKit Go.Joins
set_option linter.unusedVariables false

/-- Numbers as cells. -/
def iv (zs : List Int) : List Value := zs.map (Value.int .i64)
theorem iv_len (zs : List Int) : (iv zs).length = zs.length := by simp [iv]
theorem iv_nil : iv [] = [] := rfl
theorem iv_app (a b : List Int) : iv (a ++ b) = iv a ++ iv b := by simp [iv]
theorem rd_ilen {w : World} {A : Option Addr} {n : Nat} {zs : List Int} (h : Rd w 1 A n (iv zs)) : zs.length = n := by have := h.1; rw [iv_len] at this; omega
theorem Rd.iv {w : World} {A : Option Addr} {n k : Nat} {zs : List Int} (h : Rd w 1 A n (iv zs)) (hk : k < n) :
    ∃ (b off : Nat) (z : Int), A = some ⟨b, off, none⟩ ∧ b < w.heap.size ∧ zs[k]? = some z ∧ w.cell? ⟨b, off + k, none⟩ = some (.int .i64 z) := Rd.int h hk

theorem toI_any (A : Option Addr) (n c : Nat) (zs : List Int) (w : World) (h : Rd w 1 A n (iv zs)) (hn : n ≤ 1048576) :
    Calls Try.prog 27 #[.slice A n c] w fun e w' => ∃ v, e = .returned v ∧ w'.ownsRow w.heap.size 3 1 v n (iv zs) ∧ Below w.heap.size w w' := by
  have H := Lib.hid h; clear h
  obtain ⟨i0, hi, hz0, hz1, hz2⟩ := info_parts i64_info
  have HI := Lib.hid hi; have HZ0 := Lib.hid hz0; have HZ1 := Lib.hid hz1; have HZ2 := Lib.hid hz2
  clear hi hz0 hz1 hz2
  go_enter Try.func27, Try.ntmps27
  go_wp2_with (refine wpList_make_full _ rfl _ _ 42 rfl w.heap.size 3 i0 (.int .i64 0) 1 Try.underlying42 HI.out HZ0.out HZ1.out _ _ _ _ n rfl rfl rfl rfl (by rw [HZ2.out]; omega) (by simp only [maxLen]; omega) (Nat.le_refl _) ?_; intro w1 hown hg)
  go_loopw [4] (fun i wr => ∃ k : Nat, k ≤ n ∧ i = .int .i64 k ∧ ∃ ys : List Value, wr.ownsRow w.heap.size 3 1 (.slice (some ⟨w.heap.size, 0, none⟩) n n) n ys ∧ Fill (iv zs) ys n k ∧ Below w.heap.size w wr)
    (fun i _ => n - (intOf i).toNat)
  case atStart => exact ⟨0, Nat.zero_le _, rfl, _, hown, fill_0 (by have := hown.1; omega), (Below.refl _ _).grown hg (Nat.le_refl _) (fun k hk => by cases hk)⟩
  case round =>
    obtain ⟨k, hk, rfl, ys, ho, hf, hb⟩ := hrel
    by_cases hlt : k < n
    · obtain ⟨b, off, z, rfl, hbl, hz, hc⟩ := (H.out.below hb).iv hlt
      have hbw : b ≠ w.heap.size := by
        obtain ⟨b', off', z', e', hbl', _⟩ := H.out.iv hlt
        injection e' with e'; injection e' with e1 e2; omega
      obtain ⟨old, hold⟩ : ∃ u, wr.cell? ⟨w.heap.size, k, none⟩ = some u := ⟨_, (ho.cellAt k (by omega)).trans (List.getElem?_eq_getElem (by rw [hf.1]; exact hlt))⟩
      have hfr := ho.frozenAt k
      have HO := Lib.hid ho; have HF := Lib.hid hf; have HB := Lib.hid hb; have HZ := Lib.hid hz; have HBW := Lib.hid hbw
      clear ho hf hb hz hbw hg hown
      go_wp2
      go_roundw
      case rel => exact ⟨k + 1, by omega, by go_num, _, (HO.out.stored k _).1, fill_step HF.out hlt (by rw [iv, List.getElem?_map, HZ.out]; rfl), HB.out.setCell (Nat.le_refl _) _⟩
      case measure => simp [intOf]; omega
    · obtain rfl : k = n := by omega
      have e := fill_end hf (by have := H.out.1; omega)
      have HE := Lib.hid e; clear e
      have HO := Lib.hid ho; have HB := Lib.hid hb
      clear ho hf hb hg hown
      go_wp2
      go_ret
      exact ⟨_, rfl, by rw [← HE.out]; exact HO.out, HB.out⟩
theorem eqI_same (A B : Option Addr) (n c d : Nat) (zs : List Int) (w : World) (h1 : Rd w 1 A n (iv zs)) (h2 : Rd w 1 B n (iv zs)) (hn : n ≤ 1048576) :
    Calls Try.prog 29 #[.slice A n c, .slice B n d] w fun e w' => e = .returned (.bool true) ∧ ∃ q, w.drewN q = w' := by
  have H1 := Lib.hid h1; have H2 := Lib.hid h2; clear h1 h2
  go_enter Try.func29, Try.ntmps29
  go_wp2
  go_loopw [5] (fun i wr => ∃ k : Nat, k ≤ n ∧ i = .int .i64 k ∧ ∃ q, w.drewN q = wr) (fun i _ => n - (intOf i).toNat)
  case atStart => exact ⟨0, Nat.zero_le _, rfl, 0, rfl⟩
  case round =>
    obtain ⟨k, hk, rfl, q, rfl⟩ := hrel
    by_cases hlt : k < n
    · obtain ⟨b, off, z, rfl, hbl, hz, hc⟩ := H1.out.iv hlt
      obtain ⟨b2, off2, z2, rfl, hbl2, hz2, hc2⟩ := H2.out.iv hlt
      obtain rfl : z = z2 := by rw [hz] at hz2; injection hz2
      clear hz hz2
      go_wp2
      go_quiet (fail)
      go_wp2
      go_roundw
      case rel => exact ⟨k + 1, by omega, by go_num, _, rfl⟩
      case measure => simp [intOf]; omega
    · obtain rfl : k = n := by omega
      go_wp2
      go_ret
      exact ⟨rfl, q, rfl⟩
end Go.Proofs.Ytkdpambhdjinjaa
