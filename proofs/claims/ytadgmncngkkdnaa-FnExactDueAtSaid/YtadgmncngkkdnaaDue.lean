/-
  The contracts of DueAt.
-/
import Derived.Test.YtadgmncngkkdnaaDelivV
namespace Go.Proofs.Ytadgmncngkkdnaa
open Go.ChangeShapes Go.WideShapes Go.ChangeAt Go.RowKit Go.Joins
set_option linter.unusedVariables false

def duN (l : List De) (now : Int) (k : Nat) : Nat := ((l.take k).filter fun z => decide (z.d ≤ now)).length
theorem duN_0 (l : List De) (now : Int) : duN l now 0 = 0 := by simp [duN]
theorem duN_yes {l : List De} {now : Int} {k : Nat} {z : De} (hz : l[k]? = some z) (h : z.d ≤ now) : duN l now (k + 1) = duN l now k + 1 := by
  unfold duN; rw [take_snoc_get l k z hz, List.filter_append]; simp [h]
theorem duN_no {l : List De} {now : Int} {k : Nat} {z : De} (hz : l[k]? = some z) (h : now < z.d) : duN l now (k + 1) = duN l now k := by
  unfold duN; rw [take_snoc_get l k z hz, List.filter_append]; simp [h]
theorem duN_le (l : List De) (now : Int) (k : Nat) : duN l now k ≤ k := by
  unfold duN; have := List.length_filter_le (fun z : De => decide (z.d ≤ now)) (l.take k); have h2 := List.length_take_le k l; omega
def duR (l : List De) (now : Int) : Int := if deB l = true then (duN l now l.length : Nat) else -1

set_option maxRecDepth 100000 in
set_option maxHeartbeats 2000000 in
theorem idu_any (A : Option Addr) (n c : Nat) (l : List De) (now : Int) (w : World) (h : Rd w 4 A n (des l)) (hnc : n ≤ c) (hc : c ≤ maxLen) (hs : ∀ z ∈ l, z.b.size ≤ maxLen) :
    Calls Try.prog 25 #[.slice A n c, .int .i64 now] w fun e w' => e = .returned (.int .i64 (duR l now)) ∧ Below w.heap.size w w' := by
  have hll := rd_delen h
  have hnl : n ≤ maxLen := Nat.le_trans hnc hc
  have H := Lib.hid h; have HLL := Lib.hid hll; have HS := Lib.hid hs; have HNC := Lib.hid hnc; have HC := Lib.hid hc; have HNL := Lib.hid hnl; clear h hll hs
  unfold maxLen at hc hnl
  generalize hr : duR l now = r
  have HR := Lib.hid hr; clear hr
  cases hb : deB l
  · have HB0 := Lib.hid hb; clear hb
    have HE : Hid (r = -1) := Lib.hid (by rw [← HR.out, duR, HB0.out]; rfl)
    go_enter Try.func25, Try.ntmps25
    go_wp2_with fail
    refine (ide_any _ _ _ _ _ H.out HNC.out HC.out HS.out).mono ?_
    rw [HB0.out]
    rintro e w1 ⟨rfl, hb1⟩
    have HB1 := Lib.hid hb1; clear hb1
    go_wp2_with fail
    go_ret
    exact ⟨ret_int HE.out.symm, HB1.out⟩
  · have HB0 := Lib.hid hb; clear hb
    have HE : Hid (r = (duN l now n : Nat)) := Lib.hid (by rw [← HR.out, duR, HB0.out, HLL.out]; rfl)
    go_enter Try.func25, Try.ntmps25
    go_wp2_with fail
    refine (ide_any _ _ _ _ _ H.out HNC.out HC.out HS.out).mono ?_
    rw [HB0.out]
    rintro e w1 ⟨rfl, hb1⟩
    have HB1 := Lib.hid hb1; clear hb1
    go_wp2_with fail
    go_loopw [5, 13] (fun m i wr => ∃ k : Nat, k ≤ n ∧ i = .int .i64 k ∧ m = .int .i64 (duN l now k : Nat) ∧ Below w.heap.size w wr) (fun _ i _ => n - (intOf i).toNat)
    case atStart => exact ⟨0, Nat.zero_le _, rfl, by rw [duN_0]; rfl, HB1.out⟩
    case round =>
      obtain ⟨k, hk, rfl, rfl, hb⟩ := hrel
      have hdk := duN_le l now k
      by_cases hlt : k < n
      · obtain ⟨b, off, z, rfl, hbl, hz, hc0, hc1, hc2, hc3⟩ := (H.out.below hb).de hlt
        by_cases hd : z.d ≤ now
        · have hsu := duN_yes hz hd
          have HSU := Lib.hid hsu; have HB := Lib.hid hb
          clear hsu hb hz
          generalize duN l now k = dk at *
          go_wp2_with fail
          go_roundw
          case rel => exact ⟨k + 1, by omega, by go_num, by rw [HSU.out]; go_num, by first | exact HB.out.alloc HB.out.size _ | exact HB.out⟩
          case measure => simp [intOf]; omega
        · have hsu := duN_no (now := now) hz (by omega)
          have HSU := Lib.hid hsu; have HB := Lib.hid hb
          clear hsu hb hz
          generalize duN l now k = dk at *
          go_wp2_with fail
          go_roundw
          case rel => exact ⟨k + 1, by omega, by go_num, by rw [HSU.out], by first | exact HB.out.alloc HB.out.size _ | exact HB.out⟩
          case measure => simp [intOf]; omega
      · obtain rfl : k = n := by omega
        have HB := Lib.hid hb; clear hb
        go_wp2_with fail
        go_ret
        exact ⟨ret_int HE.out.symm, HB.out⟩
set_option maxRecDepth 100000 in
set_option maxHeartbeats 2000000 in
theorem sdu_any (A : Option Addr) (n c : Nat) (l : List De) (now : Int) (w : World) (h : Rd w 4 A n (des l)) (hnc : n ≤ c) (hc : c ≤ maxLen) (hs : ∀ z ∈ l, z.b.size ≤ maxLen) :
    Calls Try.prog 24 #[.slice A n c, .int .i64 now] w fun e w' => e = .returned (.int .i64 (duR l now)) ∧ Below w.heap.size w w' := by
  have hll := rd_delen h
  have hnl : n ≤ maxLen := Nat.le_trans hnc hc
  have H := Lib.hid h; have HLL := Lib.hid hll; have HS := Lib.hid hs; have HNC := Lib.hid hnc; have HC := Lib.hid hc; have HNL := Lib.hid hnl; clear h hll hs
  unfold maxLen at hc hnl
  generalize hr : duR l now = r
  have HR := Lib.hid hr; clear hr
  cases hb : deB l
  · have HB0 := Lib.hid hb; clear hb
    have HE : Hid (r = -1) := Lib.hid (by rw [← HR.out, duR, HB0.out]; rfl)
    go_enter Try.func24, Try.ntmps24
    go_wp2_with fail
    refine (sde_any _ _ _ _ _ H.out HNL.out HS.out).mono ?_
    rw [HB0.out]
    rintro e w1 ⟨rfl, hb1⟩
    have HB1 := Lib.hid hb1; clear hb1
    go_wp2_with fail
    go_ret
    exact ⟨ret_int HE.out.symm, HB1.out⟩
  · have HB0 := Lib.hid hb; clear hb
    have HE : Hid (r = (duN l now n : Nat)) := Lib.hid (by rw [← HR.out, duR, HB0.out, HLL.out]; rfl)
    go_enter Try.func24, Try.ntmps24
    go_wp2_with fail
    refine (sde_any _ _ _ _ _ H.out HNL.out HS.out).mono ?_
    rw [HB0.out]
    rintro e w1 ⟨rfl, hb1⟩
    have HB1 := Lib.hid hb1; clear hb1
    go_wp2_with fail
    go_loopw [5, 6] (fun m i wr => ∃ k : Nat, k ≤ n ∧ i = .int .i64 k ∧ m = .int .i64 (duN l now k : Nat) ∧ Below w.heap.size w wr) (fun _ i _ => n - (intOf i).toNat)
    case atStart => exact ⟨0, Nat.zero_le _, rfl, by rw [duN_0]; rfl, HB1.out⟩
    case round =>
      obtain ⟨k, hk, rfl, rfl, hb⟩ := hrel
      have hdk := duN_le l now k
      by_cases hlt : k < n
      · obtain ⟨b, off, z, rfl, hbl, hz, hc0, hc1, hc2, hc3⟩ := (H.out.below hb).de hlt
        by_cases hd : z.d ≤ now
        · have hsu := duN_yes hz hd
          have HSU := Lib.hid hsu; have HB := Lib.hid hb
          clear hsu hb hz
          generalize duN l now k = dk at *
          go_wp2_with fail
          go_roundw
          case rel => exact ⟨k + 1, by omega, by go_num, by rw [HSU.out]; go_num, by first | exact HB.out.alloc HB.out.size _ | exact HB.out⟩
          case measure => simp [intOf]; omega
        · have hsu := duN_no (now := now) hz (by omega)
          have HSU := Lib.hid hsu; have HB := Lib.hid hb
          clear hsu hb hz
          generalize duN l now k = dk at *
          go_wp2_with fail
          go_roundw
          case rel => exact ⟨k + 1, by omega, by go_num, by rw [HSU.out], by first | exact HB.out.alloc HB.out.size _ | exact HB.out⟩
          case measure => simp [intOf]; omega
      · obtain rfl : k = n := by omega
        have HB := Lib.hid hb; clear hb
        go_wp2_with fail
        go_ret
        exact ⟨ret_int HE.out.symm, HB.out⟩
end Go.Proofs.Ytadgmncngkkdnaa
