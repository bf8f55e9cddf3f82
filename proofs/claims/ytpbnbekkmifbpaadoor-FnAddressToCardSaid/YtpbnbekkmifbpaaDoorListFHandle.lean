/-
  Lists of Handle: the contracts of toHandleS, szHandleS, eqHandleS.
-/
import Derived.Test.YtpbnbekkmifbpaaDoorListHandle
namespace Go.Proofs.YtpbnbekkmifbpaaDoor
open Go.ChangeShapes Go.WideShapes Go.ChangeAt Go.RowKit Go.Joins
set_option linter.unusedVariables false

set_option maxRecDepth 100000 in
set_option maxHeartbeats 2000000 in
theorem toHaS_any (A : Option Addr) (n c : Nat) (l : List Ha) (w : World) (h : Rd w 2 A n (has l)) (hn : n ≤ 1048576) :
    Calls Tryd.prog 23 #[.slice A n c] w fun e w' => ∃ v, e = .returned v ∧ w'.ownsRow w.heap.size 29 2 v n (has l) ∧ Below w.heap.size w w' := by
  have hll := rd_halen h
  have H := Lib.hid h; have HLL := Lib.hid hll; clear h hll
  obtain ⟨i0, hi, hz0, hz1, hz2⟩ := info_parts ha_info
  have HI := Lib.hid hi; have HZ0 := Lib.hid hz0; have HZ1 := Lib.hid hz1; have HZ2 := Lib.hid hz2
  clear hi hz0 hz1 hz2
  go_enter Tryd.func23, Tryd.ntmps23
  go_wp2_with (refine wpList_make_full _ rfl _ _ 24 rfl w.heap.size 29 i0 (.agg #[.string ⟨#[]⟩, .string ⟨#[]⟩]) 2 Tryd.underlying24 HI.out HZ0.out HZ1.out _ _ _ _ n rfl rfl rfl rfl (by rw [HZ2.out]; omega) (by simp only [maxLen]; omega) (Nat.le_refl _) ?_; intro w1 hown hg)
  go_loopw [4] (fun i wr => ∃ k : Nat, k ≤ n ∧ i = .int .i64 k ∧ ∃ ys : List Value, wr.ownsRow w.heap.size 29 2 (.slice (some ⟨w.heap.size, 0, none⟩) n n) n ys ∧ Fill (has l) ys (n * 2) (k * 2) ∧ Below w.heap.size w wr)
    (fun i _ => n - (intOf i).toNat)
  case atStart => exact ⟨0, Nat.zero_le _, rfl, _, hown, (by have := hown.1; rw [Nat.zero_mul]; exact fill_0 this), (Below.refl _ _).grown hg (Nat.le_refl _) (fun k hk => by cases hk)⟩
  case round =>
    obtain ⟨k, hk, rfl, ys, ho, hf, hb⟩ := hrel
    clear hown hg
    by_cases hlt : k < n
    · obtain ⟨b, off, z, rfl, hbl, hz, hc0, hc1⟩ := (H.out.below hb).ha hlt
      have HO := Lib.hid ho; have HF := Lib.hid hf; have HB := Lib.hid hb; have HZ := Lib.hid hz
      clear ho hf hb hz
      go_wp2_with fail
      refine (toha_b z _).mono ?_
      rintro e w2 ⟨rfl, hb2⟩
      have HO2 := Lib.hid (own_below HO.out hb2); have HB2 := Lib.hid (belB HB.out HB.out.size hb2)
      clear hb2 hc0 hc1
      obtain ⟨old0, hold0⟩ : ∃ u, w2.cell? ⟨w.heap.size, k * 2, none⟩ = some u := ⟨_, (HO2.out.cellAt (k * 2) (by omega)).trans (List.getElem?_eq_getElem (by rw [HF.out.1]; omega))⟩
      have hfr0 := HO2.out.frozenAt (k * 2)
      obtain ⟨old1, hold1⟩ : ∃ u, w2.cell? ⟨w.heap.size, k * 2 + 1, none⟩ = some u := ⟨_, (HO2.out.cellAt (k * 2 + 1) (by omega)).trans (List.getElem?_eq_getElem (by rw [HF.out.1]; omega))⟩
      have hfr1 := HO2.out.frozenAt (k * 2 + 1)
      go_wp2
      go_roundw
      case rel => exact ⟨k + 1, by omega, by go_num, _, ((HO2.out.stored (k * 2) _).1.stored (k * 2 + 1) _).1, (by have := (fill_step (fill_step HF.out (by omega) ((has_get HZ.out 0 (by omega)).trans rfl)) (by omega) ((has_get HZ.out 1 (by omega)).trans rfl)); rwa [show (k + 1) * 2 = k * 2 + 1 + 1 by omega]), ((HB2.out.setCell (Nat.le_refl _) _).setCell (Nat.le_refl _) _)⟩
      case measure => simp [intOf]; omega
    · obtain rfl : k = n := by omega
      have e := fill_end hf (by rw [has_len, HLL.out])
      have HE := Lib.hid e; clear e
      have HO := Lib.hid ho; have HB := Lib.hid hb
      clear ho hf hb
      go_wp2
      go_ret
      exact ⟨_, rfl, by rw [← HE.out]; exact HO.out, HB.out⟩

/-- What is left of so many bytes. -/
def haL (l : List Ha) (left : Int) : Int := if (l.length : Int) + (hat l l.length : Nat) ≤ left then left - l.length - (hat l l.length : Nat) else -1
set_option maxRecDepth 100000 in
set_option maxHeartbeats 2000000 in
theorem szHaS_any (A : Option Addr) (n c : Nat) (l : List Ha) (left : Int) (w : World) (h : Rd w 2 A n (has l)) (hn : n ≤ maxLen) (hs : ∀ z ∈ l, z.a.size ≤ maxLen ∧ z.b.size ≤ maxLen) (h0 : 0 ≤ left) (h1 : left ≤ 1048576) :
    Calls Tryd.prog 22 #[.slice A n c, .int .i64 left] w fun e w' => e = .returned (.int .i64 (haL l left)) ∧ Below w.heap.size w w' := by
  have hll := rd_halen h
  have H := Lib.hid h; have HLL := Lib.hid hll; have HS := Lib.hid hs; clear h hll hs
  unfold maxLen at hn
  generalize hr : haL l left = r
  have HR : Hid (r = if (n : Int) + (hat l n : Nat) ≤ left then left - n - (hat l n : Nat) else -1) := Lib.hid (by rw [← hr, haL, HLL.out])
  clear hr
  by_cases hnl : (n : Int) ≤ left
  · go_enter Tryd.func22, Tryd.ntmps22
    go_wp2
    go_loopw [1, 5] (fun m i wr => ∃ k : Nat, k ≤ n ∧ i = .int .i64 k ∧ m = .int .i64 (left - n - (hat l k : Nat)) ∧ (n : Int) + (hat l k : Nat) ≤ left ∧ Below w.heap.size w wr)
      (fun _ i _ => n - (intOf i).toNat)
    case atStart => exact ⟨0, Nat.zero_le _, rfl, by rw [hat_0]; simp, by rw [hat_0]; omega, Below.refl _ _⟩
    case round =>
      obtain ⟨k, hk, rfl, rfl, hle, hb⟩ := hrel
      by_cases hlt : k < n
      · obtain ⟨b, off, z, rfl, hbl, hz, hc0, hc1⟩ := (H.out.below hb).ha hlt
        have hsz := HS.out z (List.mem_of_getElem? hz)
        have hsucc := hat_succ hz
        have hmono := hat_mono l (k + 1) (n - (k + 1))
        rw [show k + 1 + (n - (k + 1)) = n by omega] at hmono
        have hzn : ((han z : Nat) : Int) = (z.a.size : Int) + (z.b.size : Int) := by simp [han]
        generalize hat l k = tk at *
        generalize ht1 : hat l (k + 1) = tk1 at *
        have HT1 := Lib.hid ht1; clear ht1
        generalize hat l n = tn at *
        have HB := Lib.hid hb; have HSZ := Lib.hid hsz; have HSU := Lib.hid hsucc; have HZN := Lib.hid hzn; have HMO := Lib.hid hmono
        clear hb hz hsz hsucc hzn hmono
        by_cases hfit : (han z : Int) ≤ left - n - tk
        · go_wp2_with fail
          refine (szha_b z _ _ (by have := HZN.out; omega) (by omega)).mono ?_
          rintro e w2 ⟨rfl, hb2⟩
          have HB2 := Lib.hid (belB HB.out HB.out.size hb2)
          clear hb2 hc0 hc1
          have hd : decide (left - (n : Int) - (tk : Int) - ((han z : Nat) : Int) < 0) = false := by simp; omega
          go_wp2
          go_roundw
          case rel => exact ⟨k + 1, by omega, by go_num, by have := HSU.out; rw [HT1.out]; congr 1; omega, by have := HSU.out; rw [HT1.out]; omega, HB2.out⟩
          case measure => simp [intOf]; omega
        · have HF : Hid (r = -1) := Lib.hid (by rw [HR.out, if_neg (by have := HSU.out; have := HMO.out; omega)])
          go_wp2_with fail
          refine (szha_no z _ _ (by have := HZN.out; omega) HSZ.out (by omega) (by omega)).mono ?_
          rintro e w2 ⟨rfl, hb2⟩
          have HB2 := Lib.hid (belB HB.out HB.out.size hb2)
          clear hb2 hc0 hc1
          go_wp2
          go_ret
          exact ⟨ret_int HF.out.symm, HB2.out⟩
      · obtain rfl : k = n := by omega
        have HB := Lib.hid hb
        have HF : Hid (r = left - k - (hat l k : Nat)) := Lib.hid (by rw [HR.out, if_pos hle])
        clear hb
        go_wp2
        go_ret
        exact ⟨ret_int HF.out.symm, HB.out⟩
  · have HF : Hid (r = -1) := Lib.hid (by rw [HR.out, if_neg (by omega)])
    go_enter Tryd.func22, Tryd.ntmps22
    go_wp2
    go_ret
    exact ⟨ret_int HF.out.symm, Below.refl _ _⟩

set_option maxRecDepth 100000 in
set_option maxHeartbeats 2000000 in
theorem eqHaS_same (A B : Option Addr) (n c d : Nat) (l : List Ha) (w : World) (h1 : Rd w 2 A n (has l)) (h2 : Rd w 2 B n (has l)) (hn : n ≤ 1048576) :
    Calls Tryd.prog 16 #[.slice A n c, .slice B n d] w fun e w' => e = .returned (.bool true) ∧ Below w.heap.size w w' := by
  have H1 := Lib.hid h1; have H2 := Lib.hid h2; clear h1 h2
  go_enter Tryd.func16, Tryd.ntmps16
  go_wp2
  go_loopw [5] (fun i wr => ∃ k : Nat, k ≤ n ∧ i = .int .i64 k ∧ Below w.heap.size w wr) (fun i _ => n - (intOf i).toNat)
  case atStart => exact ⟨0, Nat.zero_le _, rfl, Below.refl _ _⟩
  case round =>
    obtain ⟨k, hk, rfl, hb⟩ := hrel
    by_cases hlt : k < n
    · obtain ⟨b, off, z, rfl, hbl, hz, hc0, hc1⟩ := (H1.out.below hb).ha hlt
      obtain ⟨b2, off2, z2, rfl, hbl2, hz2, ghc0, ghc1⟩ := (H2.out.below hb).ha hlt
      obtain rfl : z = z2 := by rw [hz] at hz2; injection hz2
      have HB := Lib.hid hb
      clear hz hz2 hb
      go_wp2
      go_still_tail 8, (by kernel_rfl)
      change wpList _ _ _ _ _ wr.drew
      go_wp2_with fail
      refine (eqha_b z _).mono ?_
      rintro e w2 ⟨rfl, hb2⟩
      have HB2 := Lib.hid (belB HB.out HB.out.size (beld hb2))
      clear hb2
      go_wp2
      go_roundw
      case rel => exact ⟨k + 1, by omega, by go_num, HB2.out⟩
      case measure => simp [intOf]; omega
    · obtain rfl : k = n := by omega
      have HB := Lib.hid hb
      clear hb
      go_wp2
      go_ret
      exact ⟨rfl, HB.out⟩
end Go.Proofs.YtpbnbekkmifbpaaDoor
