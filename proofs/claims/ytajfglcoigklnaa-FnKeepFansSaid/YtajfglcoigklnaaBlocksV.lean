/-
  The contracts of BlocksValid.
-/
import Derived.Test.YtajfglcoigklnaaListBlock
import Derived.Test.YtajfglcoigklnaaValid
import Derived.Test.YtajfglcoigklnaaWordS
namespace Go.Proofs.Ytajfglcoigklnaa
open Go.ChangeShapes Go.WideShapes Go.ChangeAt Go.RowKit Go.Joins
set_option linter.unusedVariables false

def blOk (z : Bl) : Bool := wvB z.a
def blPr (_ _ : Bl) : Bool := false
def blSm (y z : Bl) : Bool := (y.a.toList == z.a.toList) && (y.b == z.b)
def bvB (l : List Bl) : Bool := decide (l.length ≤ 8) && vAll blOk blPr blSm l
theorem bvB_long {l : List Bl} (h : 8 < l.length) : false = bvB l := by
  unfold bvB; rw [decide_eq_false (by omega)]; rfl
theorem bvB_bad {l : List Bl} (h : vAll blOk blPr blSm l = false) : false = bvB l := by rw [bvB, h, Bool.and_false]
theorem bvB_good {l : List Bl} (h : VTo blOk blPr blSm l l.length) : decide (l.length ≤ 8) = bvB l := by rw [bvB, vAll_good h, Bool.and_true]

set_option maxRecDepth 100000 in
set_option maxHeartbeats 2000000 in
theorem ibv_any (A : Option Addr) (n c : Nat) (l : List Bl) (w : World) (h : Rd w 3 A n (bls l)) (hnc : n ≤ c) (hc : c ≤ maxLen) (hs : ∀ z ∈ l, z.a.size ≤ maxLen) :
    Calls Try.prog 18 #[.slice A n c] w fun e w' => e = .returned (.bool (bvB l)) ∧ Below w.heap.size w w' := by
  have hll := rd_bllen h
  have H := Lib.hid h; have HLL := Lib.hid hll; have HS := Lib.hid hs; clear h hll hs
  unfold maxLen at hc
  by_cases h8 : n ≤ 8
  · go_enter Try.func18, Try.ntmps18
    go_wp2
    go_loopw [12] (fun i wr => ∃ k : Nat, k ≤ n ∧ i = .int .i64 k ∧ VTo blOk blPr blSm l k ∧ Below w.heap.size w wr) (fun i _ => n - (intOf i).toNat)
    case atStart => exact ⟨0, Nat.zero_le _, rfl, VTo_0 _, Below.refl _ _⟩
    case round =>
      obtain ⟨k, hk, rfl, hv, hb⟩ := hrel
      by_cases hlt : k < n
      · obtain ⟨b, off, z, rfl, hbl, hz, hc0, hc1, hc2⟩ := (H.out.below hb).bl hlt
        have HSZ := Lib.hid (HS.out z (List.mem_of_getElem? hz))
        have HV := Lib.hid hv; have HB := Lib.hid hb; have HZ := Lib.hid hz
        clear hv hb hz
        obtain ⟨wo, rfl⟩ : ∃ wo : World, wo = wr := ⟨_, rfl⟩
        cases hw : wvB z.a
        · go_wp2_with (go_at_call 44; refine (iwv_any _ _ HSZ.out).mono ?_; rw [hw]; rintro e w' ⟨rfl, rfl⟩)
          go_ret
          exact ⟨ret_bool (bvB_bad (vAll_bad1 HZ.out hw)), HB.out.alloc HB.out.size _⟩
        · go_wp2_with (go_at_call 44; refine (iwv_any _ _ HSZ.out).mono ?_; rw [hw]; rintro e w' ⟨rfl, rfl⟩)
          have hk0 := Bk.new wo 26 #[.string z.a, .bool z.b, .bool z.c]
          have HB0 : Hid (Below w.heap.size w (wo.alloc (.cells #[.string z.a, .bool z.b, .bool z.c] 26))) := Lib.hid (HB.out.alloc HB.out.size _)
          generalize wo.alloc (.cells #[.string z.a, .bool z.b, .bool z.c] 26) = w1 at *
          have HK0 := Lib.hid hk0; clear hk0
          go_loopw [25] (fun i wr => ∃ j : Nat, j ≤ k ∧ i = .int .i64 j ∧ NTo blSm l z j ∧ Bk wr wo.heap.size 26 #[.string z.a, .bool z.b, .bool z.c] ∧ Below w.heap.size w wr) (fun i _ => k - (intOf i).toNat)
          case atStart => exact ⟨0, Nat.zero_le _, rfl, NTo_0 _ _, HK0.out, HB0.out⟩
          case round =>
            obtain ⟨j, hj, rfl, hnt, hbk, hb⟩ := hrel
            by_cases hlj : j < k
            · obtain ⟨b', off', y, e', hbl', hy, hd0, hd1, hd2⟩ := (H.out.below hb).bl (show j < n by omega)
              injection e' with e'; injection e' with e1 e2
              subst e1; subst e2
              have HN := Lib.hid hnt; have HK := Lib.hid hbk; have HB1 := Lib.hid hb; have HY := Lib.hid hy
              have k0 := hbk.cell 0 (v := .string z.a) rfl
              have k1 := hbk.cell 1 (v := .bool z.b) rfl
              have kl := hbk.lt
              clear hnt hbk hb hy
              cases hs1 : (y.a.toList == z.a.toList)
              · go_wp2
                go_roundw
                case rel => exact ⟨j + 1, by omega, by go_num, NTo_succ HN.out HY.out (by simp [blSm, hs1]), HK.out.alloc _, HB1.out.alloc HB1.out.size _⟩
                case measure => simp [intOf]; omega
              · cases hs2 : (y.b == z.b)
                · go_wp2
                  go_roundw
                  case rel => exact ⟨j + 1, by omega, by go_num, NTo_succ HN.out HY.out (by simp [blSm, hs2]), HK.out.alloc _, HB1.out.alloc HB1.out.size _⟩
                  case measure => simp [intOf]; omega
                · go_wp2
                  go_ret
                  exact ⟨ret_bool (bvB_bad (vAll_bad3 HZ.out hlj HY.out (by simp only [blSm, hs1, hs2]; rfl))), HB1.out.alloc HB1.out.size _⟩
            · obtain rfl : j = k := by omega
              have HN := Lib.hid hnt; have HB1 := Lib.hid hb
              clear hnt hbk hb
              go_wp2
              go_roundw
              case rel => exact ⟨j + 1, by omega, by go_num, VTo_succ HV.out (vOk_mk HZ.out hw (fun _ _ _ => rfl) HN.out), HB1.out⟩
              case measure => simp [intOf]; omega
      · obtain rfl : k = n := by omega
        have HV := Lib.hid hv; have HB := Lib.hid hb
        clear hv hb
        go_wp2
        go_ret
        exact ⟨ret_bool (by rw [← bvB_good (by rw [HLL.out]; exact HV.out)]; simp; rw [HLL.out]; exact h8), HB.out⟩
  · have h8' : 8 < n := by omega
    go_enter Try.func18, Try.ntmps18
    go_wp2
    go_ret
    exact ⟨ret_bool (bvB_long (by rw [HLL.out]; exact h8')), Below.refl _ _⟩

set_option maxRecDepth 100000 in
set_option maxHeartbeats 2000000 in
theorem sbv_any (A : Option Addr) (n c : Nat) (l : List Bl) (w : World) (h : Rd w 3 A n (bls l)) (hn : n ≤ maxLen) (hs : ∀ z ∈ l, z.a.size ≤ maxLen) :
    Calls Try.prog 19 #[.slice A n c] w fun e w' => e = .returned (.bool (bvB l)) ∧ Below w.heap.size w w' := by
  have hll := rd_bllen h
  have H := Lib.hid h; have HLL := Lib.hid hll; have HS := Lib.hid hs; clear h hll hs
  unfold maxLen at hn
  go_enter Try.func19, Try.ntmps19
  go_wp2
  go_loopw [3] (fun i wr => ∃ k : Nat, k ≤ n ∧ i = .int .i64 k ∧ VTo blOk blPr blSm l k ∧ Below w.heap.size w wr) (fun i _ => n - (intOf i).toNat)
  case atStart => exact ⟨0, Nat.zero_le _, rfl, VTo_0 _, Below.refl _ _⟩
  case round =>
    obtain ⟨k, hk, rfl, hv, hb⟩ := hrel
    by_cases hlt : k < n
    · obtain ⟨b, off, z, rfl, hbl, hz, hc0, hc1, hc2⟩ := (H.out.below hb).bl hlt
      have HSZ := Lib.hid (HS.out z (List.mem_of_getElem? hz))
      have HV := Lib.hid hv; have HB := Lib.hid hb; have HZ := Lib.hid hz
      clear hv hb hz
      obtain ⟨wo, rfl⟩ : ∃ wo : World, wo = wr := ⟨_, rfl⟩
      cases hw : wvB z.a
      · go_wp2_with (go_at_call 46; refine (swv_any _ _ HSZ.out).mono ?_; rw [hw]; rintro e w' ⟨rfl, rfl⟩)
        go_ret
        exact ⟨ret_bool (bvB_bad (vAll_bad1 HZ.out hw)), HB.out⟩
      · go_wp2_with (go_at_call 46; refine (swv_any _ _ HSZ.out).mono ?_; rw [hw]; rintro e w' ⟨rfl, rfl⟩)
        clear hc0 hc1 hc2
        go_loopw [4] (fun i wr => ∃ j : Nat, j ≤ k ∧ i = .int .i64 j ∧ NTo blSm l z j ∧ Below w.heap.size w wr) (fun i _ => k - (intOf i).toNat)
        case atStart => exact ⟨0, Nat.zero_le _, rfl, NTo_0 _ _, HB.out⟩
        case round =>
          obtain ⟨j, hj, rfl, hnt, hb⟩ := hrel
          obtain ⟨b2, off2, z2, e2', _, hz2, hc0, hc1, hc2⟩ := (H.out.below hb).bl hlt
          injection e2' with e2'; injection e2' with e1 e2
          subst e1; subst e2
          obtain rfl : z = z2 := by have := HZ.out; rw [hz2] at this; injection this with this; exact this.symm
          clear hz2
          by_cases hlj : j < k
          · obtain ⟨b', off', y, e', hbl', hy, hd0, hd1, hd2⟩ := (H.out.below hb).bl (show j < n by omega)
            injection e' with e'; injection e' with e1 e2
            subst e1; subst e2
            have HN := Lib.hid hnt; have HB1 := Lib.hid hb; have HY := Lib.hid hy
            clear hnt hb hy
            cases hs1 : (y.a.toList == z.a.toList)
            · go_wp2
              go_quiet (fail)
              go_wp2
              go_roundw
              case rel => exact ⟨j + 1, by omega, by go_num, NTo_succ HN.out HY.out (by simp [blSm, hs1]), bdN HB1.out _⟩
              case measure => simp [intOf]; omega
            · cases hs2 : (y.b == z.b)
              · go_wp2
                go_quiet (fail)
                go_wp2
                go_roundw
                case rel => exact ⟨j + 1, by omega, by go_num, NTo_succ HN.out HY.out (by simp [blSm, hs2]), bdN HB1.out _⟩
                case measure => simp [intOf]; omega
              · go_wp2
                go_quiet (fail)
                go_wp2
                go_ret
                exact ⟨ret_bool (bvB_bad (vAll_bad3 HZ.out hlj HY.out (by simp only [blSm, hs1, hs2]; rfl))), bdN HB1.out _⟩
          · obtain rfl : j = k := by omega
            have HN := Lib.hid hnt; have HB1 := Lib.hid hb
            clear hnt hb
            go_wp2
            go_roundw
            case rel => exact ⟨j + 1, by omega, by go_num, VTo_succ HV.out (vOk_mk HZ.out hw (fun _ _ _ => rfl) HN.out), HB1.out⟩
            case measure => simp [intOf]; omega
    · obtain rfl : k = n := by omega
      have HV := Lib.hid hv; have HB := Lib.hid hb
      clear hv hb
      have hG := bvB_good (l := l) (by rw [HLL.out]; exact HV.out)
      rw [HLL.out] at hG
      have HG := Lib.hid hG; clear hG
      go_wp2
      go_ret
      exact ⟨ret_bool (by rw [← HG.out]; simp; omega), HB.out⟩
end Go.Proofs.Ytajfglcoigklnaa
