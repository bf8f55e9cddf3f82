/-
  The contract of MentionsIn of the program.
-/
import Derived.Test.YtpbnbekkmifbpaaDoorWordsOf
import Derived.Test.YtpbnbekkmifbpaaDoorRh2
import Derived.Test.YtpbnbekkmifbpaaDoorConH
import Derived.Test.YtpbnbekkmifbpaaDoorAppendAny
namespace Go.Proofs.YtpbnbekkmifbpaaDoor
open Go.ChangeShapes Go.WideShapes Go.ChangeAt Go.RowKit Go.Joins
set_option linter.unusedVariables false

/-- One word more: its handle, if it has one that does not stand there yet. -/
def mnF (acc : List Ha) (z : ByteArray) : List Ha := if (rhV z && !inH acc (rhH z)) = true then acc ++ [rhH z] else acc
def mnK (W : List ByteArray) (k : Nat) : List Ha := (W.take k).foldl mnF []
/-- The handles that a text names. -/
def mnB (s : ByteArray) : List Ha := (wdB s).foldl mnF []
theorem mnK_0 (W : List ByteArray) : mnK W 0 = [] := by simp [mnK]
theorem mnK_end (W : List ByteArray) : mnK W W.length = W.foldl mnF [] := by simp [mnK]
theorem mnK_succ {W : List ByteArray} {k : Nat} {z : ByteArray} (h : W[k]? = some z) : mnK W (k + 1) = mnF (mnK W k) z := by
  unfold mnK; rw [take_snoc_get W k z h, List.foldl_append]; rfl
theorem mnF_no {acc : List Ha} {z : ByteArray} (h : rhV z = false) : mnF acc z = acc := by rw [mnF, h]; simp
theorem mnF_in {acc : List Ha} {z : ByteArray} (h : inH acc (rhH z) = true) : mnF acc z = acc := by rw [mnF, h]; simp
theorem mnF_yes {acc : List Ha} {z : ByteArray} (h : rhV z = true) (h2 : inH acc (rhH z) = false) : mnF acc z = acc ++ [rhH z] := by rw [mnF, h, h2]; simp
theorem mnF_len (acc : List Ha) (z : ByteArray) : (mnF acc z).length ≤ acc.length + 1 := by
  unfold mnF; split
  · simp
  · omega
theorem mnK_len (W : List ByteArray) : ∀ k, (mnK W k).length ≤ k
  | 0 => by rw [mnK_0]; exact Nat.le_refl _
  | k + 1 => by
    by_cases h : k < W.length
    · rw [mnK_succ (List.getElem?_eq_getElem h)]
      exact Nat.le_trans (mnF_len _ _) (Nat.succ_le_succ (mnK_len W k))
    · have e : mnK W (k + 1) = mnK W k := by unfold mnK; rw [List.take_of_length_le (by omega), List.take_of_length_le (by omega)]
      rw [e]; exact Nat.le_succ_of_le (mnK_len W k)
theorem mnB_len (s : ByteArray) : (mnB s).length ≤ s.size + 1 := by
  rw [mnB, ← mnK_end]; exact Nat.le_trans (mnK_len _ _) (wdB_len s)

set_option maxHeartbeats 8000000 in
theorem imn_any (s : ByteArray) (w : World) (hs : s.size ≤ 1048576) :
    Calls Tryd.prog 10 #[.string s] w fun e w' => ∃ v, e = .returned v ∧ w'.ownsRow w.heap.size 29 2 v (mnB s).length (has (mnB s)) ∧ Below w.heap.size w w' := by
  obtain ⟨i0, hi, hz0, hz1, hz2⟩ := info_parts ha_info
  have HI := Lib.hid hi; have HZ0 := Lib.hid hz0; have HZ1 := Lib.hid hz1; have HZ2 := Lib.hid hz2
  clear hi hz0 hz1 hz2
  have HWO := Lib.hid (wo_any s w hs)
  have hwl := wdB_len s
  have HWM : Hid (∀ z ∈ wdB s, z.size ≤ maxLen) := Lib.hid (fun z hz => by have := wdB_mem hz; simp only [maxLen]; omega)
  generalize hR : mnB s = R at *
  have HR : Hid (R = (wdB s).foldl mnF []) := Lib.hid (by rw [← hR]; rfl)
  clear hR
  generalize hW : wdB s = W at *
  generalize hn : W.length = n at hwl HWO
  have HN := Lib.hid hn
  clear hn hW
  go_enter Tryd.func10, Tryd.ntmps10
  go_wp2_with fail
  refine HWO.out.mono ?_
  rintro e w1 ⟨v, rfl, ho1, hb1⟩
  obtain ⟨A, c, rfl, hnc, hcm, hrd⟩ := own_form ho1
  have HRD := Lib.hid hrd; have HB1 := Lib.hid hb1
  clear hrd ho1 hb1 hnc hcm HWO
  go_wp2_with fail
  go_loopw [3, 11] (fun v i wr => ∃ k : Nat, k ≤ n ∧ i = .int .i64 k ∧ wr.ownsRow w1.heap.size 29 2 v (mnK W k).length (has (mnK W k)) ∧ Below w1.heap.size w1 wr) (fun _ i _ => n - (intOf i).toNat)
  case atStart => exact ⟨0, Nat.zero_le _, rfl, by rw [mnK_0]; exact World.ownsRow_nil _ _ _ _, Below.refl _ _⟩
  case round =>
    obtain ⟨k, hk, rfl, ho, hb⟩ := hrel
    have HO := Lib.hid ho; have HB := Lib.hid hb
    clear ho hb
    by_cases hlt : k < n
    · obtain ⟨b, off, z, rfl, hbl, hz, hcell⟩ := (HRD.out.below HB.out).sv hlt
      have HSZ := Lib.hid (HWM.out z (List.mem_of_getElem? hz))
      have HK1 := Lib.hid (mnK_succ hz)
      have hkl := mnK_len W k
      clear hz
      generalize hacc : mnK W k = acc at *
      have HRH := Lib.hid (fun w => irh_any z w HSZ.out)
      cases hv : rhV z
      · have HE : Hid (mnK W (k + 1) = acc) := Lib.hid (by rw [HK1.out]; exact mnF_no hv)
        clear HK1 hacc
        rw [hv] at HRH
        generalize rhH z = r at *
        obtain ⟨ra, rb⟩ := r
        go_wp2_with fail
        refine (HRH.out _).mono ?_
        rintro e w2 ⟨rfl, hb2⟩
        have HB2 := Lib.hid (belB HB.out HB.out.size hb2); have HO2 := Lib.hid (own_below HO.out hb2)
        clear hb2 hcell HRH
        go_wp2
        go_roundw
        case rel => exact ⟨k + 1, by omega, by go_num, by rw [HE.out]; exact HO2.out.alloc _, HB2.out.alloc HB2.out.size _⟩
        case measure => simp [intOf]; omega
      · cases hin : inH acc (rhH z)
        · have HE : Hid (mnK W (k + 1) = acc ++ [rhH z]) := Lib.hid (by rw [HK1.out]; exact mnF_yes hv hin)
          clear HK1 hacc
          rw [hv] at HRH
          generalize hr : rhH z = r at *
          obtain ⟨ra, rb⟩ := r
          have HIN := Lib.hid hin; clear hin hr
          go_wp2_with fail
          refine (HRH.out _).mono ?_
          rintro e w2 ⟨rfl, hb2⟩
          have HB2 := Lib.hid (belB HB.out HB.out.size hb2); have HO2 := Lib.hid (own_below HO.out hb2)
          clear hb2 hcell HRH
          have HO3 : Hid ((w2.alloc (.cells #[.string ra, .string rb] 29)).ownsRow w1.heap.size 29 2 u3 acc.length (has acc)) := Lib.hid (HO2.out.alloc _)
          have HB3 : Hid (Below w1.heap.size w1 (w2.alloc (.cells #[.string ra, .string rb] 29))) := Lib.hid (HB2.out.alloc HB2.out.size _)
          have hk3 : Bk (w2.alloc (.cells #[.string ra, .string rb] 29)) w2.heap.size 29 #[.string ra, .string rb] := Bk.new w2 _ _
          obtain ⟨A3, c3, e3, hnc3, hcm3, hrd3⟩ := own_form HO3.out
          have HRD3 := Lib.hid hrd3
          clear hrd3 hnc3 hcm3
          subst e3
          go_wp2_with fail
          refine (con_any _ _ _ acc ⟨ra, rb⟩ _ HRD3.out (by simp only [maxLen]; omega)).mono ?_
          rw [HIN.out]
          rintro e w4 ⟨rfl, hb4⟩
          have HO4 := Lib.hid (own_below HO3.out hb4); have HB4 := Lib.hid (belB HB3.out HB3.out.size hb4)
          have hk4 := hk3.keep hb4
          have d0 := hk4.cell 0 (v := .string ra) rfl
          have d1 := hk4.cell 1 (v := .string rb) rfl
          have hl4 := hk4.lt
          clear hb4 hk4 hk3 HO3 HB3 HRD3 HO2 HB2 HO HB
          generalize hm : acc.length = m at *
          have HM := Lib.hid hm; clear hm
          go_wp2_with (first
            | (at_builtin
               refine wpList_append1 _ rfl _ _ 24 rfl w1.heap.size 29 i0 (.agg #[.string ⟨#[]⟩, .string ⟨#[]⟩]) 2 32 Tryd.underlying24 HI.out HZ0.out HZ1.out HZ2.out rfl (by decide) [.string ra, .string rb] rfl (by intro u hu; simp at hu; rcases hu with rfl | rfl <;> rfl) _ m (has acc) _ _ HO4.out rfl rfl _ rfl rfl (by simp only [maxLen]; omega) (by omega) HB4.out.size ?_
               intro v' w5 ho5 hg5
               have HO5 : Hid (w5.ownsRow w1.heap.size 29 2 v' (m + 1) (has (acc ++ [(⟨ra, rb⟩ : Ha)]))) := Lib.hid (by rw [has_app, has_one]; exact ho5)
               have HB5 : Hid (Below w1.heap.size w1 w5) := Lib.hid (below_grown HB4.out hg5 HO4.out (Nat.le_refl _) HB4.out.size)
               clear ho5 hg5))
          go_wp2
          go_roundw
          case rel => exact ⟨k + 1, by omega, by go_num, by rw [HE.out, List.length_append, HM.out]; exact HO5.out, HB5.out⟩
          case measure => simp [intOf]; omega
        · have HE : Hid (mnK W (k + 1) = acc) := Lib.hid (by rw [HK1.out]; exact mnF_in hin)
          clear HK1 hacc
          rw [hv] at HRH
          generalize hr : rhH z = r at *
          obtain ⟨ra, rb⟩ := r
          have HIN := Lib.hid hin; clear hin hr
          go_wp2_with fail
          refine (HRH.out _).mono ?_
          rintro e w2 ⟨rfl, hb2⟩
          have HB2 := Lib.hid (belB HB.out HB.out.size hb2); have HO2 := Lib.hid (own_below HO.out hb2)
          clear hb2 hcell HRH
          have HO3 : Hid ((w2.alloc (.cells #[.string ra, .string rb] 29)).ownsRow w1.heap.size 29 2 u3 acc.length (has acc)) := Lib.hid (HO2.out.alloc _)
          have HB3 : Hid (Below w1.heap.size w1 (w2.alloc (.cells #[.string ra, .string rb] 29))) := Lib.hid (HB2.out.alloc HB2.out.size _)
          obtain ⟨A3, c3, e3, hnc3, hcm3, hrd3⟩ := own_form HO3.out
          have HRD3 := Lib.hid hrd3
          clear hrd3 hnc3 hcm3
          subst e3
          go_wp2_with fail
          refine (con_any _ _ _ acc ⟨ra, rb⟩ _ HRD3.out (by simp only [maxLen]; omega)).mono ?_
          rw [HIN.out]
          rintro e w4 ⟨rfl, hb4⟩
          have HO4 := Lib.hid (own_below HO3.out hb4); have HB4 := Lib.hid (belB HB3.out HB3.out.size hb4)
          clear hb4 HO3 HB3 HRD3 HO2 HB2 HO HB
          go_wp2
          go_roundw
          case rel => exact ⟨k + 1, by omega, by go_num, by rw [HE.out]; exact HO4.out, HB4.out⟩
          case measure => simp [intOf]; omega
    · obtain rfl : k = n := by omega
      have HX : Hid (mnK W k = R) := Lib.hid (by rw [HR.out, ← HN.out]; exact mnK_end W)
      rw [HX.out] at HO
      go_wp2
      go_ret
      exact ⟨_, rfl, own_less HO.out HB1.out.size, belt HB1.out HB.out⟩
end Go.Proofs.YtpbnbekkmifbpaaDoor
