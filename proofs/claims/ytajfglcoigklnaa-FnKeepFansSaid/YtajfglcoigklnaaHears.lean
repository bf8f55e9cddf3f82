/-
  The contract of HearsFrom of the program.
-/
import Derived.Test.YtajfglcoigklnaaAct
namespace Go.Proofs.Ytajfglcoigklnaa
open Go.ChangeShapes Go.WideShapes Go.ChangeAt Go.RowKit Go.Joins
set_option linter.unusedVariables false

/-- None of the first k blocks shuts it out. -/
def HTo (l : List Bl) (a : Ac) (k : Nat) : Prop := ∀ (i : Nat) (z : Bl), i < k → l[i]? = some z → hfS a z = false
theorem HTo_0 (l : List Bl) (a : Ac) : HTo l a 0 := fun i z h => absurd h (by omega)
theorem HTo_succ {l : List Bl} {a : Ac} {k : Nat} {z : Bl} (h : HTo l a k) (hz : l[k]? = some z) (h1 : hfS a z = false) : HTo l a (k + 1) := fun i x hi hx => by
  by_cases e : i = k
  · subst e; rw [hz] at hx; injection hx with hx; subst hx; exact h1
  · exact h i x (by omega) hx
theorem hf_bad1 {l : List Bl} {a : Ac} (h : bvB l = false) : hfB l a = false := by simp [hfB, h]
theorem hf_bad2 {l : List Bl} {a : Ac} (h : acV a = false) : hfB l a = false := by simp [hfB, h]
theorem hf_hit {l : List Bl} {a : Ac} {k : Nat} {z : Bl} (hz : l[k]? = some z) (h : hfS a z = true) : hfB l a = false := by
  have : l.any (hfS a) = true := List.any_eq_true.2 ⟨z, List.mem_of_getElem? hz, h⟩
  simp [hfB, this]
theorem hf_good {l : List Bl} {a : Ac} (h1 : bvB l = true) (h2 : acV a = true) (h : HTo l a l.length) : hfB l a = true := by
  have : l.any (hfS a) = false := by
    rw [List.any_eq_false]
    intro x hx
    obtain ⟨i, hi⟩ := List.mem_iff_getElem?.1 hx
    simp [h i x (get_lt hi) hi]
  simp [hfB, h1, h2, this]
theorem hfS_a {a : Ac} {z : Bl} (h : bhB z.a z.b a.who.b = false) : hfS a z = false := by simp [hfS, blH, h]
theorem hfS_b {a : Ac} {z : Bl} (h : bhB z.a z.b a.who.b = true) (h2 : z.c = false) : hfS a z = true := by simp [hfS, blH, h, h2]
theorem hfS_c {a : Ac} {z : Bl} {q : Bool} (h : bhB z.a z.b a.who.b = true) (h2 : z.c = true) (h3 : (a.kind == 3) = q) : hfS a z = q := by simp [hfS, blH, h, h2, h3]

set_option maxRecDepth 100000 in
set_option maxHeartbeats 4000000 in
theorem ihf_any (A : Option Addr) (n c : Nat) (l : List Bl) (a : Ac) (w : World) (h : Rd w 3 A n (bls l)) (hnc : n ≤ c) (hc : c ≤ maxLen) (hs : ∀ z ∈ l, z.a.size ≤ maxLen) (h1 : a.who.a.size ≤ maxLen) (h2 : a.who.b.size ≤ maxLen) (h3 : a.what.size ≤ maxLen) :
    Calls Try.prog 24 #[.slice A n c, acv a] w fun e w' => e = .returned (.bool (hfB l a)) ∧ Below w.heap.size w w' := by
  have hll := rd_bllen h
  have H := Lib.hid h; have HLL := Lib.hid hll; have HS := Lib.hid hs; have HNC := Lib.hid hnc; have HC := Lib.hid hc; have H1 := Lib.hid h1; have H2 := Lib.hid h2; have H3 := Lib.hid h3; clear h hll hs h1 h2 h3
  unfold maxLen at hc
  generalize hr : hfB l a = r
  have HR := Lib.hid hr; clear hr
  obtain ⟨ak, an, ⟨ax, ay⟩, at_⟩ := a
  simp only at H1 H2 H3
  cases hv : bvB l
  · have HE : Hid (r = false) := Lib.hid (by rw [← HR.out]; exact hf_bad1 hv)
    go_enter Try.func24, Try.ntmps24
    go_wp2_with fail
    refine (ibv_any _ _ _ _ _ (H.out.alloc _) HNC.out HC.out HS.out).mono ?_
    rw [hv]
    rintro e w1 ⟨rfl, hb1⟩
    have HB1 := Lib.hid (bela hb1); clear hb1
    go_wp2_with fail
    go_ret
    exact ⟨ret_bool HE.out.symm, HB1.out⟩
  · have HV := Lib.hid hv; clear hv
    cases hac : acV ⟨ak, an, ⟨ax, ay⟩, at_⟩
    · have HE : Hid (r = false) := Lib.hid (by rw [← HR.out]; exact hf_bad2 hac)
      go_enter Try.func24, Try.ntmps24
      go_wp2_with fail
      refine (ibv_any _ _ _ _ _ (H.out.alloc _) HNC.out HC.out HS.out).mono ?_
      rw [HV.out]
      rintro e w1 ⟨rfl, hb1⟩
      have HK1 : Hid (Bk w1 w.heap.size 45 #[.int .i64 ak, .int .i64 an, .string ax, .string ay, .string at_]) := Lib.hid ((Bk.new w _ _).keep hb1)
      have HB1 := Lib.hid (bela hb1); clear hb1
      have k0 := HK1.out.cell 0 (v := .int .i64 ak) rfl
      have k1 := HK1.out.cell 1 (v := .int .i64 an) rfl
      have k2 := HK1.out.cell 2 (v := .string ax) rfl
      have k3 := HK1.out.cell 3 (v := .string ay) rfl
      have k4 := HK1.out.cell 4 (v := .string at_) rfl
      have hkl := HK1.out.lt
      go_wp2_with fail
      refine (av_impl ⟨ak, an, ⟨ax, ay⟩, at_⟩ _ H1.out H2.out H3.out).mono ?_
      rw [hac]
      rintro e w2 ⟨rfl, hb2⟩
      have HB2 := Lib.hid (belB HB1.out HB1.out.size hb2); clear hb2 k0 k1 k2 k3 k4 hkl
      go_wp2_with fail
      go_ret
      exact ⟨ret_bool HE.out.symm, HB2.out⟩
    · have HAC := Lib.hid hac; clear hac
      go_enter Try.func24, Try.ntmps24
      go_wp2_with fail
      refine (ibv_any _ _ _ _ _ (H.out.alloc _) HNC.out HC.out HS.out).mono ?_
      rw [HV.out]
      rintro e w1 ⟨rfl, hb1⟩
      have HK1 : Hid (Bk w1 w.heap.size 45 #[.int .i64 ak, .int .i64 an, .string ax, .string ay, .string at_]) := Lib.hid ((Bk.new w _ _).keep hb1)
      have HB1 := Lib.hid (bela hb1); clear hb1
      have k0 := HK1.out.cell 0 (v := .int .i64 ak) rfl
      have k1 := HK1.out.cell 1 (v := .int .i64 an) rfl
      have k2 := HK1.out.cell 2 (v := .string ax) rfl
      have k3 := HK1.out.cell 3 (v := .string ay) rfl
      have k4 := HK1.out.cell 4 (v := .string at_) rfl
      have hkl := HK1.out.lt
      go_wp2_with fail
      refine (av_impl ⟨ak, an, ⟨ax, ay⟩, at_⟩ _ H1.out H2.out H3.out).mono ?_
      rw [HAC.out]
      rintro e w2 ⟨rfl, hb2⟩
      have HB2 := Lib.hid (belB HB1.out HB1.out.size hb2); have HK2 := Lib.hid (HK1.out.keep hb2); clear hb2 k0 k1 k2 k3 k4 hkl
      go_wp2_with fail
      go_loopw [17] (fun i wr => ∃ k : Nat, k ≤ n ∧ i = .int .i64 k ∧ HTo l ⟨ak, an, ⟨ax, ay⟩, at_⟩ k ∧ Bk wr w.heap.size 45 #[.int .i64 ak, .int .i64 an, .string ax, .string ay, .string at_] ∧ Below w.heap.size w wr) (fun i _ => n - (intOf i).toNat)
      case atStart => exact ⟨0, Nat.zero_le _, rfl, HTo_0 _ _, HK2.out, HB2.out⟩
      case round =>
        obtain ⟨k, hk, rfl, ht, hkb, hb⟩ := hrel
        have HT := Lib.hid ht; have HB := Lib.hid hb
        clear HK1 HB1 HK2 HB2
        by_cases hlt : k < n
        · obtain ⟨b, off, z, rfl, hbl, hz, hc0, hc1, hc2⟩ := (H.out.below hb).bl hlt
          have HSZ := Lib.hid (HS.out z (List.mem_of_getElem? hz))
          have HZ := Lib.hid hz
          have k0 := hkb.cell 0 (v := .int .i64 ak) rfl
          have k3 := hkb.cell 3 (v := .string ay) rfl
          have hkl := hkb.lt
          have HKB := Lib.hid hkb
          clear ht hz hb hkb
          cases hh : bhB z.a z.b ay
          · have HF : Hid (hfS ⟨ak, an, ⟨ax, ay⟩, at_⟩ z = false) := Lib.hid (hfS_a hh)
            go_wp2_with (go_at_call 14; refine (ibh_any _ _ _ _ _ H2.out HSZ.out).mono ?_; rw [hh]; rintro e w' ⟨rfl, o, rfl⟩)
            go_roundw
            case rel => exact ⟨k + 1, by omega, by go_num, HTo_succ HT.out HZ.out HF.out, (HKB.out.alloc _).alloc _, (HB.out.alloc HB.out.size _).alloc (by have := HB.out.size; simp; omega) _⟩
            case measure => simp [intOf]; omega
          · cases hzc : z.c
            · have HF : Hid (r = false) := Lib.hid (by rw [← HR.out]; exact hf_hit HZ.out (hfS_b hh hzc))
              rw [hzc] at hc2
              go_wp2_with (go_at_call 14; refine (ibh_any _ _ _ _ _ H2.out HSZ.out).mono ?_; rw [hh]; rintro e w' ⟨rfl, o, rfl⟩)
              go_ret
              exact ⟨ret_bool HF.out.symm, (HB.out.alloc HB.out.size _).alloc (by have := HB.out.size; simp; omega) _⟩
            · rw [hzc] at hc2
              cases h3 : (ak == 3)
              · have HF : Hid (hfS ⟨ak, an, ⟨ax, ay⟩, at_⟩ z = false) := Lib.hid (hfS_c hh hzc h3)
                go_wp2_with (go_at_call 14; refine (ibh_any _ _ _ _ _ H2.out HSZ.out).mono ?_; rw [hh]; rintro e w' ⟨rfl, o, rfl⟩)
                go_roundw
                case rel => exact ⟨k + 1, by omega, by go_num, HTo_succ HT.out HZ.out HF.out, (HKB.out.alloc _).alloc _, (HB.out.alloc HB.out.size _).alloc (by have := HB.out.size; simp; omega) _⟩
                case measure => simp [intOf]; omega
              · have HF : Hid (r = false) := Lib.hid (by rw [← HR.out]; exact hf_hit HZ.out (hfS_c hh hzc h3))
                go_wp2_with (go_at_call 14; refine (ibh_any _ _ _ _ _ H2.out HSZ.out).mono ?_; rw [hh]; rintro e w' ⟨rfl, o, rfl⟩)
                go_ret
                exact ⟨ret_bool HF.out.symm, (HB.out.alloc HB.out.size _).alloc (by have := HB.out.size; simp; omega) _⟩
        · obtain rfl : k = n := by omega
          have HF : Hid (r = true) := Lib.hid (by rw [← HR.out]; exact hf_good HV.out HAC.out (by rw [HLL.out]; exact HT.out))
          clear ht hb hkb
          go_wp2_with fail
          go_ret
          exact ⟨ret_bool HF.out.symm, HB.out⟩
end Go.Proofs.Ytajfglcoigklnaa
