/-
  The contracts of Delivery lists' validity.
-/
import Derived.Test.YtadgmncngkkdnaaListDelivery
import Derived.Test.YtadgmncngkkdnaaValid
import Derived.Test.YtadgmncngkkdnaaWordS
namespace Go.Proofs.Ytadgmncngkkdnaa
open Go.ChangeShapes Go.WideShapes Go.ChangeAt Go.RowKit Go.Joins
set_option linter.unusedVariables false

def deOk (z : De) : Bool := wi z.a 0 1000000000 && wvB z.b && wi z.c 0 5 && wi z.d 0 1000000000
def dePr (y z : De) : Bool := decide (z.d < y.d)
def deSm (y z : De) : Bool := (y.a == z.a) && (y.b.toList == z.b.toList)
def deB (l : List De) : Bool := decide (l.length ≤ 10) && vAll deOk dePr deSm l
theorem deB_long {l : List De} (h : 10 < l.length) : false = deB l := by
  unfold deB; rw [decide_eq_false (by omega)]; rfl
theorem deB_bad {l : List De} (h : vAll deOk dePr deSm l = false) : false = deB l := by rw [deB, h, Bool.and_false]
theorem deB_good {l : List De} (h : VTo deOk dePr deSm l l.length) : decide (l.length ≤ 10) = deB l := by rw [deB, vAll_good h, Bool.and_true]
theorem l1In_q (n lo hi : Int) (w : World) : Calls Try.prog 39 #[.int .i64 n, .int .i64 lo, .int .i64 hi] w fun e w' => e = .returned (.bool (wi n lo hi)) ∧ w' = w :=
  (l1In_any n lo hi w).mono fun _ _ h => ⟨h.1, h.2.symm⟩
theorem swv_q (s : ByteArray) (w : World) (hs : s.size ≤ maxLen) : Calls Try.prog 42 #[.string s] w fun e w' => e = .returned (.bool (wvB s)) ∧ w' = w :=
  (swv_any s w hs).mono fun _ _ h => ⟨h.1, h.2.symm⟩


set_option maxRecDepth 100000 in
set_option maxHeartbeats 4000000 in
theorem ide_any (A : Option Addr) (n c : Nat) (l : List De) (w : World) (h : Rd w 4 A n (des l)) (hnc : n ≤ c) (hc : c ≤ maxLen) (hs : ∀ z ∈ l, z.b.size ≤ maxLen) :
    Calls Try.prog 13 #[.slice A n c] w fun e w' => e = .returned (.bool (deB l)) ∧ Below w.heap.size w w' := by
  have hll := rd_delen h
  have H := Lib.hid h; have HLL := Lib.hid hll; have HS := Lib.hid hs; clear h hll hs
  unfold maxLen at hc
  by_cases h8 : n ≤ 10
  · go_enter Try.func13, Try.ntmps13
    go_wp2
    go_loopw [12] (fun i wr => ∃ k : Nat, k ≤ n ∧ i = .int .i64 k ∧ VTo deOk dePr deSm l k ∧ Below w.heap.size w wr) (fun i _ => n - (intOf i).toNat)
    case atStart => exact ⟨0, Nat.zero_le _, rfl, VTo_0 _, Below.refl _ _⟩
    case round =>
      obtain ⟨k, hk, rfl, hv, hb⟩ := hrel
      by_cases hlt : k < n
      · obtain ⟨b, off, z, rfl, hbl, hz, hc0, hc1, hc2, hc3⟩ := (H.out.below hb).de hlt
        have HSZ := Lib.hid (HS.out z (List.mem_of_getElem? hz))
        have HV := Lib.hid hv; have HB := Lib.hid hb; have HZ := Lib.hid hz
        clear hv hb hz
        obtain ⟨wo, rfl⟩ : ∃ wo : World, wo = wr := ⟨_, rfl⟩
        cases h0 : wi z.a 0 1000000000
        · go_wp2_with (first | (go_at_call 32; refine (iwv_any _ _ HSZ.out).mono ?_; rintro e w' ⟨rfl, rfl⟩) | (go_at_call 33; refine (within_any _ _ _ _).mono ?_; rintro e w' ⟨rfl, rfl⟩))
          go_ret
          exact ⟨ret_bool (deB_bad (vAll_bad1 HZ.out (by simp [deOk, h0]))), HB.out.alloc HB.out.size _⟩
        · cases h1 : wvB z.b
          · go_wp2_with (first | (go_at_call 32; refine (iwv_any _ _ HSZ.out).mono ?_; rintro e w' ⟨rfl, rfl⟩) | (go_at_call 33; refine (within_any _ _ _ _).mono ?_; rintro e w' ⟨rfl, rfl⟩))
            go_ret
            exact ⟨ret_bool (deB_bad (vAll_bad1 HZ.out (by simp [deOk, h1]))), HB.out.alloc HB.out.size _⟩
          · cases h2 : wi z.c 0 5
            · go_wp2_with (first | (go_at_call 32; refine (iwv_any _ _ HSZ.out).mono ?_; rintro e w' ⟨rfl, rfl⟩) | (go_at_call 33; refine (within_any _ _ _ _).mono ?_; rintro e w' ⟨rfl, rfl⟩))
              go_ret
              exact ⟨ret_bool (deB_bad (vAll_bad1 HZ.out (by simp [deOk, h2]))), HB.out.alloc HB.out.size _⟩
            · cases h3 : wi z.d 0 1000000000
              · go_wp2_with (first | (go_at_call 32; refine (iwv_any _ _ HSZ.out).mono ?_; rintro e w' ⟨rfl, rfl⟩) | (go_at_call 33; refine (within_any _ _ _ _).mono ?_; rintro e w' ⟨rfl, rfl⟩))
                go_ret
                exact ⟨ret_bool (deB_bad (vAll_bad1 HZ.out (by simp [deOk, h3]))), HB.out.alloc HB.out.size _⟩
              · by_cases hk0 : k = 0
                · have hd0 : decide (0 < k) = false := by simp; omega
                  have HK00 := Lib.hid hk0; clear hk0
                  go_wp2_with (first | (go_at_call 32; refine (iwv_any _ _ HSZ.out).mono ?_; rintro e w' ⟨rfl, rfl⟩) | (go_at_call 33; refine (within_any _ _ _ _).mono ?_; rintro e w' ⟨rfl, rfl⟩))
                  go_quiet (fail)
                  go_wp2_with fail
                  have hk0 := Bk.new wo 25 #[.int .i64 z.a, .string z.b, .int .i64 z.c, .int .i64 z.d]
                  have HB0 : Hid (Below w.heap.size w (wo.alloc (.cells #[.int .i64 z.a, .string z.b, .int .i64 z.c, .int .i64 z.d] 25))) := Lib.hid (HB.out.alloc HB.out.size _)
                  generalize wo.alloc (.cells #[.int .i64 z.a, .string z.b, .int .i64 z.c, .int .i64 z.d] 25) = w1 at *
                  have hk0 : Bk (w1.drewN nq) wo.heap.size 25 #[.int .i64 z.a, .string z.b, .int .i64 z.c, .int .i64 z.d] := hk0
                  have HB0 : Hid (Below w.heap.size w (w1.drewN nq)) := Lib.hid (bdN HB0.out nq)
                  generalize w1.drewN nq = w2 at *
                  have HK0 := Lib.hid hk0; clear hk0
                  go_loopw [56] (fun i wr => ∃ j : Nat, j ≤ k ∧ i = .int .i64 j ∧ NTo deSm l z j ∧ Bk wr wo.heap.size 25 #[.int .i64 z.a, .string z.b, .int .i64 z.c, .int .i64 z.d] ∧ Below w.heap.size w wr) (fun i _ => k - (intOf i).toNat)
                  case atStart => exact ⟨0, Nat.zero_le _, rfl, NTo_0 _ _, HK0.out, HB0.out⟩
                  case round =>
                    obtain ⟨j, hj, rfl, hnt, hbk, hb⟩ := hrel
                    by_cases hlj : j < k
                    · obtain ⟨b', off', y, e', hbl', hy, hd0, hd1, hd2, hd3⟩ := (H.out.below hb).de (show j < n by omega)
                      injection e' with e'; injection e' with e1 e2
                      subst e1; subst e2
                      have HN := Lib.hid hnt; have HK := Lib.hid hbk; have HB1 := Lib.hid hb; have HY := Lib.hid hy
                      have k0 := hbk.cell 0 (v := .int .i64 z.a) rfl
                      have k1 := hbk.cell 1 (v := .string z.b) rfl
                      have k2 := hbk.cell 2 (v := .int .i64 z.c) rfl
                      have k3 := hbk.cell 3 (v := .int .i64 z.d) rfl
                      have kl := hbk.lt
                      clear hnt hbk hb hy
                      cases s0 : (y.a == z.a)
                      · go_wp2
                        go_roundw
                        case rel => exact ⟨j + 1, by omega, by go_num, NTo_succ HN.out HY.out (by simp [deSm, s0]), HK.out.alloc _, HB1.out.alloc HB1.out.size _⟩
                        case measure => simp [intOf]; omega
                      · cases s1 : (y.b.toList == z.b.toList)
                        · go_wp2
                          go_roundw
                          case rel => exact ⟨j + 1, by omega, by go_num, NTo_succ HN.out HY.out (by simp [deSm, s1]), HK.out.alloc _, HB1.out.alloc HB1.out.size _⟩
                          case measure => simp [intOf]; omega
                        · go_wp2
                          go_ret
                          exact ⟨ret_bool (deB_bad (vAll_bad3 HZ.out hlj HY.out (by simp only [deSm, s0, s1]; rfl))), HB1.out.alloc HB1.out.size _⟩
                    · obtain rfl : j = k := by omega
                      have HN := Lib.hid hnt; have HB1 := Lib.hid hb
                      clear hnt hbk hb
                      go_wp2
                      go_roundw
                      case rel => exact ⟨j + 1, by omega, by go_num, VTo_succ HV.out (vOk_mk HZ.out (by simp only [deOk, h0, h1, h2, h3]; rfl) (fun _ h0 _ => absurd HK00.out (by omega)) HN.out), HB1.out⟩
                      case measure => simp [intOf]; omega
                · have hk1 : 0 < k := by omega
                  have hd0 : decide (0 < k) = true := by simp; omega
                  obtain ⟨bp, offp, y, ep, _, hy, _, _, _, hp3⟩ := (H.out.below HB.out).de (show k - 1 < n by omega)
                  injection ep with ep; injection ep with e1 e2
                  subst e1; subst e2
                  have HY := Lib.hid hy; clear hy
                  have j1 : (0 : Int) ≤ (k : Int) - 1 := by omega
                  have j2 : ((k : Int) - 1).toNat = k - 1 := by omega
                  have j3 : (k : Int) - 1 < (n : Int) := by omega
                  by_cases hyz : z.d < y.d
                  · have hdd : decide (z.d < y.d) = true := by simpa using hyz
                    go_wp2_with (first | (go_at_call 32; refine (iwv_any _ _ HSZ.out).mono ?_; rintro e w' ⟨rfl, rfl⟩) | (go_at_call 33; refine (within_any _ _ _ _).mono ?_; rintro e w' ⟨rfl, rfl⟩))
                    go_quiet (fail)
                    go_wp2
                    go_ret
                    exact ⟨ret_bool (deB_bad (vAll_bad2 HZ.out hk1 HY.out hdd)), bdN (HB.out.alloc HB.out.size _) _⟩
                  · have hdd : decide (z.d < y.d) = false := by simpa using hyz
                    go_wp2_with (first | (go_at_call 32; refine (iwv_any _ _ HSZ.out).mono ?_; rintro e w' ⟨rfl, rfl⟩) | (go_at_call 33; refine (within_any _ _ _ _).mono ?_; rintro e w' ⟨rfl, rfl⟩))
                    go_quiet (fail)
                    go_wp2_with fail
                    clear j1 j2 j3 hp3
                    have hk0 := Bk.new wo 25 #[.int .i64 z.a, .string z.b, .int .i64 z.c, .int .i64 z.d]
                    have HB0 : Hid (Below w.heap.size w (wo.alloc (.cells #[.int .i64 z.a, .string z.b, .int .i64 z.c, .int .i64 z.d] 25))) := Lib.hid (HB.out.alloc HB.out.size _)
                    generalize wo.alloc (.cells #[.int .i64 z.a, .string z.b, .int .i64 z.c, .int .i64 z.d] 25) = w1 at *
                    have hk0 : Bk (w1.drewN nq) wo.heap.size 25 #[.int .i64 z.a, .string z.b, .int .i64 z.c, .int .i64 z.d] := hk0
                    have HB0 : Hid (Below w.heap.size w (w1.drewN nq)) := Lib.hid (bdN HB0.out nq)
                    generalize w1.drewN nq = w2 at *
                    have HK0 := Lib.hid hk0; clear hk0
                    go_loopw [56] (fun i wr => ∃ j : Nat, j ≤ k ∧ i = .int .i64 j ∧ NTo deSm l z j ∧ Bk wr wo.heap.size 25 #[.int .i64 z.a, .string z.b, .int .i64 z.c, .int .i64 z.d] ∧ Below w.heap.size w wr) (fun i _ => k - (intOf i).toNat)
                    case atStart => exact ⟨0, Nat.zero_le _, rfl, NTo_0 _ _, HK0.out, HB0.out⟩
                    case round =>
                      obtain ⟨j, hj, rfl, hnt, hbk, hb⟩ := hrel
                      by_cases hlj : j < k
                      · obtain ⟨b', off', y, e', hbl', hy, hd0, hd1, hd2, hd3⟩ := (H.out.below hb).de (show j < n by omega)
                        injection e' with e'; injection e' with e1 e2
                        subst e1; subst e2
                        have HN := Lib.hid hnt; have HK := Lib.hid hbk; have HB1 := Lib.hid hb; have HY := Lib.hid hy
                        have k0 := hbk.cell 0 (v := .int .i64 z.a) rfl
                        have k1 := hbk.cell 1 (v := .string z.b) rfl
                        have k2 := hbk.cell 2 (v := .int .i64 z.c) rfl
                        have k3 := hbk.cell 3 (v := .int .i64 z.d) rfl
                        have kl := hbk.lt
                        clear hnt hbk hb hy
                        cases s0 : (y.a == z.a)
                        · go_wp2
                          go_roundw
                          case rel => exact ⟨j + 1, by omega, by go_num, NTo_succ HN.out HY.out (by simp [deSm, s0]), HK.out.alloc _, HB1.out.alloc HB1.out.size _⟩
                          case measure => simp [intOf]; omega
                        · cases s1 : (y.b.toList == z.b.toList)
                          · go_wp2
                            go_roundw
                            case rel => exact ⟨j + 1, by omega, by go_num, NTo_succ HN.out HY.out (by simp [deSm, s1]), HK.out.alloc _, HB1.out.alloc HB1.out.size _⟩
                            case measure => simp [intOf]; omega
                          · go_wp2
                            go_ret
                            exact ⟨ret_bool (deB_bad (vAll_bad3 HZ.out hlj HY.out (by simp only [deSm, s0, s1]; rfl))), HB1.out.alloc HB1.out.size _⟩
                      · obtain rfl : j = k := by omega
                        have HN := Lib.hid hnt; have HB1 := Lib.hid hb
                        clear hnt hbk hb
                        go_wp2
                        go_roundw
                        case rel => exact ⟨j + 1, by omega, by go_num, VTo_succ HV.out (vOk_mk HZ.out (by simp only [deOk, h0, h1, h2, h3]; rfl) (fun y' _ hy' => by rw [HY.out] at hy'; injection hy' with hy'; subst hy'; simp only [dePr]; exact hdd) HN.out), HB1.out⟩
                        case measure => simp [intOf]; omega
      · obtain rfl : k = n := by omega
        have HV := Lib.hid hv; have HB := Lib.hid hb
        clear hv hb
        go_wp2
        go_ret
        exact ⟨ret_bool (by rw [← deB_good (by rw [HLL.out]; exact HV.out)]; simp; rw [HLL.out]; exact h8), HB.out⟩
  · have h8' : 10 < n := by omega
    go_enter Try.func13, Try.ntmps13
    go_wp2
    go_ret
    exact ⟨ret_bool (deB_long (by rw [HLL.out]; exact h8')), Below.refl _ _⟩

set_option maxRecDepth 100000 in
set_option maxHeartbeats 4000000 in
theorem sde_any (A : Option Addr) (n c : Nat) (l : List De) (w : World) (h : Rd w 4 A n (des l)) (hn : n ≤ maxLen) (hs : ∀ z ∈ l, z.b.size ≤ maxLen) :
    Calls Try.prog 31 #[.slice A n c] w fun e w' => e = .returned (.bool (deB l)) ∧ Below w.heap.size w w' := by
  have hll := rd_delen h
  have H := Lib.hid h; have HLL := Lib.hid hll; have HS := Lib.hid hs; clear h hll hs
  unfold maxLen at hn
  go_enter Try.func31, Try.ntmps31
  go_wp2
  go_loopw [3] (fun i wr => ∃ k : Nat, k ≤ n ∧ i = .int .i64 k ∧ VTo deOk dePr deSm l k ∧ Below w.heap.size w wr) (fun i _ => n - (intOf i).toNat)
  case atStart => exact ⟨0, Nat.zero_le _, rfl, VTo_0 _, Below.refl _ _⟩
  case round =>
    obtain ⟨k, hk, rfl, hv, hb⟩ := hrel
    by_cases hlt : k < n
    · obtain ⟨b, off, z, rfl, hbl, hz, hc0, hc1, hc2, hc3⟩ := (H.out.below hb).de hlt
      have HSZ := Lib.hid (HS.out z (List.mem_of_getElem? hz))
      have HV := Lib.hid hv; have HB := Lib.hid hb; have HZ := Lib.hid hz
      clear hv hb hz
      obtain ⟨wo, rfl⟩ : ∃ wo : World, wo = wr := ⟨_, rfl⟩
      cases h0 : wi z.a 0 1000000000
      · go_wp2
        go_quiet ((first | (go_at_call 39; exact Calls.quiet_of_same (l1In_q _ _ _ _)) | (go_at_call 42; exact Calls.quiet_of_same (swv_q _ _ HSZ.out))))
        go_wp2
        go_ret
        exact ⟨ret_bool (deB_bad (vAll_bad1 HZ.out (by simp [deOk, h0]))), bdN (HB.out.alloc HB.out.size _) _⟩
      · cases h1 : wi z.d 0 1000000000
        · go_wp2
          go_quiet ((first | (go_at_call 39; exact Calls.quiet_of_same (l1In_q _ _ _ _)) | (go_at_call 42; exact Calls.quiet_of_same (swv_q _ _ HSZ.out))))
          go_wp2
          go_ret
          exact ⟨ret_bool (deB_bad (vAll_bad1 HZ.out (by simp [deOk, h1]))), bdN (HB.out.alloc HB.out.size _) _⟩
        · cases h2 : wvB z.b
          · go_wp2
            go_quiet ((first | (go_at_call 39; exact Calls.quiet_of_same (l1In_q _ _ _ _)) | (go_at_call 42; exact Calls.quiet_of_same (swv_q _ _ HSZ.out))))
            go_wp2
            go_ret
            exact ⟨ret_bool (deB_bad (vAll_bad1 HZ.out (by simp [deOk, h2]))), bdN (HB.out.alloc HB.out.size _) _⟩
          · cases h3 : wi z.c 0 5
            · go_wp2
              go_quiet ((first | (go_at_call 39; exact Calls.quiet_of_same (l1In_q _ _ _ _)) | (go_at_call 42; exact Calls.quiet_of_same (swv_q _ _ HSZ.out))))
              go_wp2
              go_ret
              exact ⟨ret_bool (deB_bad (vAll_bad1 HZ.out (by simp [deOk, h3]))), bdN (HB.out.alloc HB.out.size _) _⟩
            · by_cases hk0 : k = 0
              · have hd0 : decide (0 < k) = false := by simp; omega
                have HK00 := Lib.hid hk0; clear hk0
                go_wp2
                go_quiet ((first | (go_at_call 39; exact Calls.quiet_of_same (l1In_q _ _ _ _)) | (go_at_call 42; exact Calls.quiet_of_same (swv_q _ _ HSZ.out))))
                go_wp2_with fail
                have hk0 : Bk ((wo.alloc (.cells #[.int .i64 z.a, .string z.b, .int .i64 z.c, .int .i64 z.d] 25)).drewN nq) wo.heap.size 25 #[.int .i64 z.a, .string z.b, .int .i64 z.c, .int .i64 z.d] := Bk.new wo 25 #[.int .i64 z.a, .string z.b, .int .i64 z.c, .int .i64 z.d]
                have HB0 : Hid (Below w.heap.size w ((wo.alloc (.cells #[.int .i64 z.a, .string z.b, .int .i64 z.c, .int .i64 z.d] 25)).drewN nq)) := Lib.hid (bdN (HB.out.alloc HB.out.size _) nq)
                generalize (wo.alloc (.cells #[.int .i64 z.a, .string z.b, .int .i64 z.c, .int .i64 z.d] 25)).drewN nq = w1 at *
                have HK0 := Lib.hid hk0; clear hk0 hc0 hc1 hc2 hc3
                have G0 := Lib.hid h0; have G1 := Lib.hid h1; have G2 := Lib.hid h2; have G3 := Lib.hid h3
                clear h0 h1 h2 h3
                go_loopw [5] (fun i wr => ∃ j : Nat, j ≤ k ∧ i = .int .i64 j ∧ NTo deSm l z j ∧ Bk wr wo.heap.size 25 #[.int .i64 z.a, .string z.b, .int .i64 z.c, .int .i64 z.d] ∧ Below w.heap.size w wr) (fun i _ => k - (intOf i).toNat)
                case atStart => exact ⟨0, Nat.zero_le _, rfl, NTo_0 _ _, HK0.out, HB0.out⟩
                case round =>
                  obtain ⟨j, hj, rfl, hnt, hbk, hb⟩ := hrel
                  by_cases hlj : j < k
                  · obtain ⟨b', off', y1, e', hbl', hy, hd0, hd1, hd2, hd3⟩ := (H.out.below hb).de (show j < n by omega)
                    injection e' with e'; injection e' with e1 e2
                    subst e1; subst e2
                    have HN := Lib.hid hnt; have HK := Lib.hid hbk; have HB1 := Lib.hid hb; have HY1 := Lib.hid hy
                    have k0 := hbk.cell 0 (v := .int .i64 z.a) rfl
                    have k1 := hbk.cell 1 (v := .string z.b) rfl
                    have kl := hbk.lt
                    clear hnt hbk hb hy
                    cases s0 : (y1.a == z.a)
                    · go_wp2
                      go_quiet (fail)
                      go_wp2
                      go_roundw
                      case rel => first | exact ⟨j + 1, by omega, by go_num, NTo_succ HN.out HY1.out (by simp [deSm, s0]), HK.out.drewN _, bdN HB1.out _⟩ | ((repeat apply Exists.intro); exact ⟨⟨j + 1, by omega, by go_num, NTo_succ HN.out HY1.out (by simp [deSm, s0]), HK.out.drewN _, bdN HB1.out _⟩, rfl⟩)
                      case measure => simp [intOf]; omega
                    · cases s1 : (y1.b.toList == z.b.toList)
                      · go_wp2
                        go_quiet (fail)
                        go_wp2
                        go_roundw
                        case rel => first | exact ⟨j + 1, by omega, by go_num, NTo_succ HN.out HY1.out (by simp [deSm, s1]), HK.out.drewN _, bdN HB1.out _⟩ | ((repeat apply Exists.intro); exact ⟨⟨j + 1, by omega, by go_num, NTo_succ HN.out HY1.out (by simp [deSm, s1]), HK.out.drewN _, bdN HB1.out _⟩, rfl⟩)
                        case measure => simp [intOf]; omega
                      · go_wp2
                        go_quiet (fail)
                        go_wp2
                        go_ret
                        exact ⟨ret_bool (deB_bad (vAll_bad3 HZ.out hlj HY1.out (by simp only [deSm, s0, s1]; rfl))), bdN HB1.out _⟩
                  · obtain rfl : j = k := by omega
                    have HN := Lib.hid hnt; have HB1 := Lib.hid hb
                    clear hnt hbk hb
                    go_wp2
                    go_roundw
                    case rel => exact ⟨j + 1, by omega, by go_num, VTo_succ HV.out (vOk_mk HZ.out (by simp only [deOk, G0.out, G1.out, G2.out, G3.out]; rfl) (fun _ h0 _ => absurd HK00.out (by omega)) HN.out), HB1.out⟩
                    case measure => simp [intOf]; omega
              · have hk1 : 0 < k := by omega
                have hd0 : decide (0 < k) = true := by simp; omega
                obtain ⟨bp, offp, y, ep, _, hy, _, _, _, hp3⟩ := (H.out.below HB.out).de (show k - 1 < n by omega)
                injection ep with ep; injection ep with e1 e2
                subst e1; subst e2
                have HY := Lib.hid hy; clear hy
                have j1 : (0 : Int) ≤ (k : Int) - 1 := by omega
                have j2 : ((k : Int) - 1).toNat = k - 1 := by omega
                have j3 : (k : Int) - 1 < (n : Int) := by omega
                by_cases hyz : z.d < y.d
                · have hdd : decide (z.d < y.d) = true := by simpa using hyz
                  go_wp2
                  go_quiet ((first | (go_at_call 39; exact Calls.quiet_of_same (l1In_q _ _ _ _)) | (go_at_call 42; exact Calls.quiet_of_same (swv_q _ _ HSZ.out))))
                  go_wp2
                  go_ret
                  exact ⟨ret_bool (deB_bad (vAll_bad2 HZ.out hk1 HY.out hdd)), bdN (HB.out.alloc HB.out.size _) _⟩
                · have hdd : decide (z.d < y.d) = false := by simpa using hyz
                  go_wp2
                  go_quiet ((first | (go_at_call 39; exact Calls.quiet_of_same (l1In_q _ _ _ _)) | (go_at_call 42; exact Calls.quiet_of_same (swv_q _ _ HSZ.out))))
                  go_wp2_with fail
                  clear j1 j2 j3 hp3
                  have hk0 : Bk ((wo.alloc (.cells #[.int .i64 z.a, .string z.b, .int .i64 z.c, .int .i64 z.d] 25)).drewN nq) wo.heap.size 25 #[.int .i64 z.a, .string z.b, .int .i64 z.c, .int .i64 z.d] := Bk.new wo 25 #[.int .i64 z.a, .string z.b, .int .i64 z.c, .int .i64 z.d]
                  have HB0 : Hid (Below w.heap.size w ((wo.alloc (.cells #[.int .i64 z.a, .string z.b, .int .i64 z.c, .int .i64 z.d] 25)).drewN nq)) := Lib.hid (bdN (HB.out.alloc HB.out.size _) nq)
                  generalize (wo.alloc (.cells #[.int .i64 z.a, .string z.b, .int .i64 z.c, .int .i64 z.d] 25)).drewN nq = w1 at *
                  have HK0 := Lib.hid hk0; clear hk0 hc0 hc1 hc2 hc3
                  have G0 := Lib.hid h0; have G1 := Lib.hid h1; have G2 := Lib.hid h2; have G3 := Lib.hid h3
                  clear h0 h1 h2 h3
                  go_loopw [5] (fun i wr => ∃ j : Nat, j ≤ k ∧ i = .int .i64 j ∧ NTo deSm l z j ∧ Bk wr wo.heap.size 25 #[.int .i64 z.a, .string z.b, .int .i64 z.c, .int .i64 z.d] ∧ Below w.heap.size w wr) (fun i _ => k - (intOf i).toNat)
                  case atStart => exact ⟨0, Nat.zero_le _, rfl, NTo_0 _ _, HK0.out, HB0.out⟩
                  case round =>
                    obtain ⟨j, hj, rfl, hnt, hbk, hb⟩ := hrel
                    by_cases hlj : j < k
                    · obtain ⟨b', off', y1, e', hbl', hy, hd0, hd1, hd2, hd3⟩ := (H.out.below hb).de (show j < n by omega)
                      injection e' with e'; injection e' with e1 e2
                      subst e1; subst e2
                      have HN := Lib.hid hnt; have HK := Lib.hid hbk; have HB1 := Lib.hid hb; have HY1 := Lib.hid hy
                      have k0 := hbk.cell 0 (v := .int .i64 z.a) rfl
                      have k1 := hbk.cell 1 (v := .string z.b) rfl
                      have kl := hbk.lt
                      clear hnt hbk hb hy
                      cases s0 : (y1.a == z.a)
                      · go_wp2
                        go_quiet (fail)
                        go_wp2
                        go_roundw
                        case rel => first | exact ⟨j + 1, by omega, by go_num, NTo_succ HN.out HY1.out (by simp [deSm, s0]), HK.out.drewN _, bdN HB1.out _⟩ | ((repeat apply Exists.intro); exact ⟨⟨j + 1, by omega, by go_num, NTo_succ HN.out HY1.out (by simp [deSm, s0]), HK.out.drewN _, bdN HB1.out _⟩, rfl⟩)
                        case measure => simp [intOf]; omega
                      · cases s1 : (y1.b.toList == z.b.toList)
                        · go_wp2
                          go_quiet (fail)
                          go_wp2
                          go_roundw
                          case rel => first | exact ⟨j + 1, by omega, by go_num, NTo_succ HN.out HY1.out (by simp [deSm, s1]), HK.out.drewN _, bdN HB1.out _⟩ | ((repeat apply Exists.intro); exact ⟨⟨j + 1, by omega, by go_num, NTo_succ HN.out HY1.out (by simp [deSm, s1]), HK.out.drewN _, bdN HB1.out _⟩, rfl⟩)
                          case measure => simp [intOf]; omega
                        · go_wp2
                          go_quiet (fail)
                          go_wp2
                          go_ret
                          exact ⟨ret_bool (deB_bad (vAll_bad3 HZ.out hlj HY1.out (by simp only [deSm, s0, s1]; rfl))), bdN HB1.out _⟩
                    · obtain rfl : j = k := by omega
                      have HN := Lib.hid hnt; have HB1 := Lib.hid hb
                      clear hnt hbk hb
                      go_wp2
                      go_roundw
                      case rel => exact ⟨j + 1, by omega, by go_num, VTo_succ HV.out (vOk_mk HZ.out (by simp only [deOk, G0.out, G1.out, G2.out, G3.out]; rfl) (fun y' _ hy' => by rw [HY.out] at hy'; injection hy' with hy'; subst hy'; simp only [dePr]; exact hdd) HN.out), HB1.out⟩
                      case measure => simp [intOf]; omega
    · obtain rfl : k = n := by omega
      have HV := Lib.hid hv; have HB := Lib.hid hb
      clear hv hb
      have hG := deB_good (l := l) (by rw [HLL.out]; exact HV.out)
      rw [HLL.out] at hG
      have HG := Lib.hid hG; clear hG
      go_wp2
      go_ret
      exact ⟨ret_bool (by rw [← HG.out]; simp; omega), HB.out⟩
end Go.Proofs.Ytadgmncngkkdnaa
