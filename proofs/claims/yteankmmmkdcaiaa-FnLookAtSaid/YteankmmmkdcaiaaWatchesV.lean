/-
  The contracts of Watch lists' validity.
-/
import Derived.Test.YteankmmmkdcaiaaListWatch
import Derived.Test.YteankmmmkdcaiaaValid
import Derived.Test.YteankmmmkdcaiaaWordS
namespace Go.Proofs.Yteankmmmkdcaiaa
open Go.ChangeShapes Go.WideShapes Go.ChangeAt Go.RowKit Go.Joins
set_option linter.unusedVariables false

def waOk (z : Wa) : Bool := wvB z.a && wi z.b 10 1280 && wi z.c 0 1000000000
def waPr (y z : Wa) : Bool := false
def waSm (y z : Wa) : Bool := (y.a.toList == z.a.toList)
def wvA (l : List Wa) : Bool := decide (l.length ≤ 8) && vAll waOk waPr waSm l
theorem wvA_long {l : List Wa} (h : 8 < l.length) : false = wvA l := by
  unfold wvA; rw [decide_eq_false (by omega)]; rfl
theorem wvA_bad {l : List Wa} (h : vAll waOk waPr waSm l = false) : false = wvA l := by rw [wvA, h, Bool.and_false]
theorem wvA_good {l : List Wa} (h : VTo waOk waPr waSm l l.length) : decide (l.length ≤ 8) = wvA l := by rw [wvA, vAll_good h, Bool.and_true]


set_option maxRecDepth 100000 in
set_option maxHeartbeats 4000000 in
theorem iwa_any (A : Option Addr) (n c : Nat) (l : List Wa) (w : World) (h : Rd w 3 A n (was l)) (hnc : n ≤ c) (hc : c ≤ maxLen) (hs : ∀ z ∈ l, z.a.size ≤ maxLen) :
    Calls Try.prog 16 #[.slice A n c] w fun e w' => e = .returned (.bool (wvA l)) ∧ Below w.heap.size w w' := by
  have hll := rd_walen h
  have H := Lib.hid h; have HLL := Lib.hid hll; have HS := Lib.hid hs; clear h hll hs
  unfold maxLen at hc
  by_cases h8 : n ≤ 8
  · go_enter Try.func16, Try.ntmps16
    go_wp2
    go_loopw [12] (fun i wr => ∃ k : Nat, k ≤ n ∧ i = .int .i64 k ∧ VTo waOk waPr waSm l k ∧ Below w.heap.size w wr) (fun i _ => n - (intOf i).toNat)
    case atStart => exact ⟨0, Nat.zero_le _, rfl, VTo_0 _, Below.refl _ _⟩
    case round =>
      obtain ⟨k, hk, rfl, hv, hb⟩ := hrel
      by_cases hlt : k < n
      · obtain ⟨b, off, z, rfl, hbl, hz, hc0, hc1, hc2⟩ := (H.out.below hb).wa hlt
        have HSZ := Lib.hid (HS.out z (List.mem_of_getElem? hz))
        have HV := Lib.hid hv; have HB := Lib.hid hb; have HZ := Lib.hid hz
        clear hv hb hz
        obtain ⟨wo, rfl⟩ : ∃ wo : World, wo = wr := ⟨_, rfl⟩
        cases h0 : wvB z.a
        · go_wp2_with (first | (go_at_call 38; refine (iwv_any _ _ HSZ.out).mono ?_; rintro e w' ⟨rfl, rfl⟩) | (go_at_call 35; refine (within_any _ _ _ _).mono ?_; rintro e w' ⟨rfl, rfl⟩))
          go_ret
          exact ⟨ret_bool (wvA_bad (vAll_bad1 HZ.out (by simp [waOk, h0]))), HB.out.alloc HB.out.size _⟩
        · cases h1 : wi z.b 10 1280
          · go_wp2_with (first | (go_at_call 38; refine (iwv_any _ _ HSZ.out).mono ?_; rintro e w' ⟨rfl, rfl⟩) | (go_at_call 35; refine (within_any _ _ _ _).mono ?_; rintro e w' ⟨rfl, rfl⟩))
            go_ret
            exact ⟨ret_bool (wvA_bad (vAll_bad1 HZ.out (by simp [waOk, h1]))), HB.out.alloc HB.out.size _⟩
          · cases h2 : wi z.c 0 1000000000
            · go_wp2_with (first | (go_at_call 38; refine (iwv_any _ _ HSZ.out).mono ?_; rintro e w' ⟨rfl, rfl⟩) | (go_at_call 35; refine (within_any _ _ _ _).mono ?_; rintro e w' ⟨rfl, rfl⟩))
              go_ret
              exact ⟨ret_bool (wvA_bad (vAll_bad1 HZ.out (by simp [waOk, h2]))), HB.out.alloc HB.out.size _⟩
            · go_wp2_with (first | (go_at_call 38; refine (iwv_any _ _ HSZ.out).mono ?_; rintro e w' ⟨rfl, rfl⟩) | (go_at_call 35; refine (within_any _ _ _ _).mono ?_; rintro e w' ⟨rfl, rfl⟩))
              have hk0 := Bk.new wo 33 #[.string z.a, .int .i64 z.b, .int .i64 z.c]
              have HB0 : Hid (Below w.heap.size w (wo.alloc (.cells #[.string z.a, .int .i64 z.b, .int .i64 z.c] 33))) := Lib.hid (HB.out.alloc HB.out.size _)
              generalize wo.alloc (.cells #[.string z.a, .int .i64 z.b, .int .i64 z.c] 33) = w1 at *
              have HK0 := Lib.hid hk0; clear hk0
              go_loopw [37] (fun i wr => ∃ j : Nat, j ≤ k ∧ i = .int .i64 j ∧ NTo waSm l z j ∧ Bk wr wo.heap.size 33 #[.string z.a, .int .i64 z.b, .int .i64 z.c] ∧ Below w.heap.size w wr) (fun i _ => k - (intOf i).toNat)
              case atStart => exact ⟨0, Nat.zero_le _, rfl, NTo_0 _ _, HK0.out, HB0.out⟩
              case round =>
                obtain ⟨j, hj, rfl, hnt, hbk, hb⟩ := hrel
                by_cases hlj : j < k
                · obtain ⟨b', off', y, e', hbl', hy, hd0, hd1, hd2⟩ := (H.out.below hb).wa (show j < n by omega)
                  injection e' with e'; injection e' with e1 e2
                  subst e1; subst e2
                  have HN := Lib.hid hnt; have HK := Lib.hid hbk; have HB1 := Lib.hid hb; have HY := Lib.hid hy
                  have k0 := hbk.cell 0 (v := .string z.a) rfl
                  have k1 := hbk.cell 1 (v := .int .i64 z.b) rfl
                  have k2 := hbk.cell 2 (v := .int .i64 z.c) rfl
                  have kl := hbk.lt
                  clear hnt hbk hb hy
                  cases s0 : (y.a.toList == z.a.toList)
                  · go_wp2
                    go_roundw
                    case rel => exact ⟨j + 1, by omega, by go_num, NTo_succ HN.out HY.out (by simp [waSm, s0]), HK.out.alloc _, HB1.out.alloc HB1.out.size _⟩
                    case measure => simp [intOf]; omega
                  · go_wp2
                    go_ret
                    exact ⟨ret_bool (wvA_bad (vAll_bad3 HZ.out hlj HY.out (by simp only [waSm, s0]))), HB1.out.alloc HB1.out.size _⟩
                · obtain rfl : j = k := by omega
                  have HN := Lib.hid hnt; have HB1 := Lib.hid hb
                  clear hnt hbk hb
                  go_wp2
                  go_roundw
                  case rel => exact ⟨j + 1, by omega, by go_num, VTo_succ HV.out (vOk_mk HZ.out (by simp only [waOk, h0, h1, h2]; rfl) (fun _ _ _ => rfl) HN.out), HB1.out⟩
                  case measure => simp [intOf]; omega
      · obtain rfl : k = n := by omega
        have HV := Lib.hid hv; have HB := Lib.hid hb
        clear hv hb
        go_wp2
        go_ret
        exact ⟨ret_bool (by rw [← wvA_good (by rw [HLL.out]; exact HV.out)]; simp; rw [HLL.out]; exact h8), HB.out⟩
  · have h8' : 8 < n := by omega
    go_enter Try.func16, Try.ntmps16
    go_wp2
    go_ret
    exact ⟨ret_bool (wvA_long (by rw [HLL.out]; exact h8')), Below.refl _ _⟩

set_option maxRecDepth 100000 in
set_option maxHeartbeats 4000000 in
theorem swa_any (A : Option Addr) (n c : Nat) (l : List Wa) (w : World) (h : Rd w 3 A n (was l)) (hn : n ≤ maxLen) (hs : ∀ z ∈ l, z.a.size ≤ maxLen) :
    Calls Try.prog 17 #[.slice A n c] w fun e w' => e = .returned (.bool (wvA l)) ∧ Below w.heap.size w w' := by
  have hll := rd_walen h
  have H := Lib.hid h; have HLL := Lib.hid hll; have HS := Lib.hid hs; clear h hll hs
  unfold maxLen at hn
  go_enter Try.func17, Try.ntmps17
  go_wp2
  go_loopw [3] (fun i wr => ∃ k : Nat, k ≤ n ∧ i = .int .i64 k ∧ VTo waOk waPr waSm l k ∧ Below w.heap.size w wr) (fun i _ => n - (intOf i).toNat)
  case atStart => exact ⟨0, Nat.zero_le _, rfl, VTo_0 _, Below.refl _ _⟩
  case round =>
    obtain ⟨k, hk, rfl, hv, hb⟩ := hrel
    by_cases hlt : k < n
    · obtain ⟨b, off, z, rfl, hbl, hz, hc0, hc1, hc2⟩ := (H.out.below hb).wa hlt
      have HSZ := Lib.hid (HS.out z (List.mem_of_getElem? hz))
      have HV := Lib.hid hv; have HB := Lib.hid hb; have HZ := Lib.hid hz
      clear hv hb hz
      obtain ⟨wo, rfl⟩ : ∃ wo : World, wo = wr := ⟨_, rfl⟩
      cases h0 : wvB z.a
      · go_wp2_with (first | (go_at_call 40; refine (swv_any _ _ HSZ.out).mono ?_; rintro e w' ⟨rfl, rfl⟩) | (go_at_call 34; refine (l1In_any _ _ _ _).mono ?_; rintro e w' ⟨rfl, rfl⟩))
        go_ret
        exact ⟨ret_bool (wvA_bad (vAll_bad1 HZ.out (by simp [waOk, h0]))), HB.out⟩
      · cases h1 : wi z.b 10 1280
        · go_wp2_with (first | (go_at_call 40; refine (swv_any _ _ HSZ.out).mono ?_; rintro e w' ⟨rfl, rfl⟩) | (go_at_call 34; refine (l1In_any _ _ _ _).mono ?_; rintro e w' ⟨rfl, rfl⟩))
          go_ret
          exact ⟨ret_bool (wvA_bad (vAll_bad1 HZ.out (by simp [waOk, h1]))), HB.out⟩
        · cases h2 : wi z.c 0 1000000000
          · go_wp2_with (first | (go_at_call 40; refine (swv_any _ _ HSZ.out).mono ?_; rintro e w' ⟨rfl, rfl⟩) | (go_at_call 34; refine (l1In_any _ _ _ _).mono ?_; rintro e w' ⟨rfl, rfl⟩))
            go_ret
            exact ⟨ret_bool (wvA_bad (vAll_bad1 HZ.out (by simp [waOk, h2]))), HB.out⟩
          · go_wp2_with (first | (go_at_call 40; refine (swv_any _ _ HSZ.out).mono ?_; rintro e w' ⟨rfl, rfl⟩) | (go_at_call 34; refine (l1In_any _ _ _ _).mono ?_; rintro e w' ⟨rfl, rfl⟩))
            clear hc0 hc1 hc2
            go_loopw [4] (fun i wr => ∃ j : Nat, j ≤ k ∧ i = .int .i64 j ∧ NTo waSm l z j ∧ Below w.heap.size w wr) (fun i _ => k - (intOf i).toNat)
            case atStart => exact ⟨0, Nat.zero_le _, rfl, NTo_0 _ _, HB.out⟩
            case round =>
              obtain ⟨j, hj, rfl, hnt, hb⟩ := hrel
              obtain ⟨b2, off2, z2, e2', _, hz2, hc0, hc1, hc2⟩ := (H.out.below hb).wa hlt
              injection e2' with e2'; injection e2' with e1 e2
              subst e1; subst e2
              obtain rfl : z = z2 := by have := HZ.out; rw [hz2] at this; injection this with this; exact this.symm
              clear hz2
              by_cases hlj : j < k
              · obtain ⟨b', off', y, e', hbl', hy, hd0, hd1, hd2⟩ := (H.out.below hb).wa (show j < n by omega)
                injection e' with e'; injection e' with e1 e2
                subst e1; subst e2
                have HN := Lib.hid hnt; have HB1 := Lib.hid hb; have HY := Lib.hid hy
                clear hnt hb hy
                cases s0 : (y.a.toList == z.a.toList)
                · go_wp2
                  go_quiet (fail)
                  go_wp2
                  go_roundw
                  case rel => exact ⟨j + 1, by omega, by go_num, NTo_succ HN.out HY.out (by simp [waSm, s0]), bdN HB1.out _⟩
                  case measure => simp [intOf]; omega
                · go_wp2
                  go_quiet (fail)
                  go_wp2
                  go_ret
                  exact ⟨ret_bool (wvA_bad (vAll_bad3 HZ.out hlj HY.out (by simp only [waSm, s0]))), bdN HB1.out _⟩
              · obtain rfl : j = k := by omega
                have HN := Lib.hid hnt; have HB1 := Lib.hid hb
                clear hnt hb
                go_wp2
                go_roundw
                case rel => exact ⟨j + 1, by omega, by go_num, VTo_succ HV.out (vOk_mk HZ.out (by simp only [waOk, h0, h1, h2]; rfl) (fun _ _ _ => rfl) HN.out), HB1.out⟩
                case measure => simp [intOf]; omega
    · obtain rfl : k = n := by omega
      have HV := Lib.hid hv; have HB := Lib.hid hb
      clear hv hb
      have hG := wvA_good (l := l) (by rw [HLL.out]; exact HV.out)
      rw [HLL.out] at hG
      have HG := Lib.hid hG; clear hG
      go_wp2
      go_ret
      exact ⟨ret_bool (by rw [← HG.out]; simp; omega), HB.out⟩
end Go.Proofs.Yteankmmmkdcaiaa
