/-
  The contract of TagsIn of the program.
-/
import Derived.Test.YtpbnbekkmifbpaaDoorWordsOf
import Derived.Test.YtpbnbekkmifbpaaDoorAppendAny
import Derived.Test.YtpbnbekkmifbpaaDoorWord
namespace Go.Proofs.YtpbnbekkmifbpaaDoor
open Go.ChangeShapes Go.WideShapes Go.ChangeAt Go.RowKit Go.Joins
set_option linter.unusedVariables false

/-- What stands behind the first sign. -/
def tgT (z : ByteArray) : ByteArray := z.extract 1 z.size
/-- Is it a tag? -/
def tgV (z : ByteArray) : Bool := Lib.hasPrefix z.data.toList [35] && wvB (tgT z)
theorem tgT_size (z : ByteArray) : (tgT z).size ≤ z.size := by rw [tgT, ByteArray.size_extract]; omega
theorem trimP (z : ByteArray) (h : Lib.hasPrefix z.data.toList [35] = true) : mkB (Lib.trimPrefix z.data.toList [35]) = tgT z := by
  rw [Lib.trimPrefix, if_pos h, tgT]
  apply ByteArray.ext
  apply Array.ext'
  rw [ByteArray.data_extract, Array.toList_extract, List.extract_eq_take_drop, mkB, List.take_of_length_le (by rw [List.length_drop, size_list]; exact Nat.le_refl _)]
  rfl
def tgF (acc : List ByteArray) (z : ByteArray) : List ByteArray := if (tgV z && !inS acc (tgT z)) = true then acc ++ [tgT z] else acc
def tgK (W : List ByteArray) (k : Nat) : List ByteArray := (W.take k).foldl tgF []
/-- The tags of a text. -/
def tgB (s : ByteArray) : List ByteArray := (wdB s).foldl tgF []
theorem tgK_0 (W : List ByteArray) : tgK W 0 = [] := by simp [tgK]
theorem tgK_end (W : List ByteArray) : tgK W W.length = W.foldl tgF [] := by simp [tgK]
theorem tgK_succ {W : List ByteArray} {k : Nat} {z : ByteArray} (h : W[k]? = some z) : tgK W (k + 1) = tgF (tgK W k) z := by
  unfold tgK; rw [take_snoc_get W k z h, List.foldl_append]; rfl
theorem tgF_nop {acc : List ByteArray} {z : ByteArray} (h : Lib.hasPrefix z.data.toList [35] = false) : tgF acc z = acc := by rw [tgF, tgV, h]; simp
theorem tgF_now {acc : List ByteArray} {z : ByteArray} (h : wvB (tgT z) = false) : tgF acc z = acc := by rw [tgF, tgV, h]; simp
theorem tgF_in {acc : List ByteArray} {z : ByteArray} (h : inS acc (tgT z) = true) : tgF acc z = acc := by rw [tgF, h]; simp
theorem tgF_yes {acc : List ByteArray} {z : ByteArray} (h : Lib.hasPrefix z.data.toList [35] = true) (h1 : wvB (tgT z) = true) (h2 : inS acc (tgT z) = false) : tgF acc z = acc ++ [tgT z] := by rw [tgF, tgV, h, h1, h2]; simp
theorem tgF_len (acc : List ByteArray) (z : ByteArray) : (tgF acc z).length ≤ acc.length + 1 := by
  unfold tgF; split
  · simp
  · omega
theorem tgK_len (W : List ByteArray) : ∀ k, (tgK W k).length ≤ k
  | 0 => by rw [tgK_0]; exact Nat.le_refl _
  | k + 1 => by
    by_cases h : k < W.length
    · rw [tgK_succ (List.getElem?_eq_getElem h)]
      exact Nat.le_trans (tgF_len _ _) (Nat.succ_le_succ (tgK_len W k))
    · have e : tgK W (k + 1) = tgK W k := by unfold tgK; rw [List.take_of_length_le (by omega), List.take_of_length_le (by omega)]
      rw [e]; exact Nat.le_succ_of_le (tgK_len W k)
theorem tgB_len (s : ByteArray) : (tgB s).length ≤ s.size + 1 := by
  rw [tgB, ← tgK_end]; exact Nat.le_trans (tgK_len _ _) (wdB_len s)

set_option maxHeartbeats 8000000 in
theorem itg_any (s : ByteArray) (w : World) (hs : s.size ≤ 1048576) :
    Calls Tryd.prog 25 #[.string s] w fun e w' => ∃ v, e = .returned v ∧ w'.ownsRow w.heap.size 9 1 v (tgB s).length (svs (tgB s)) ∧ Below w.heap.size w w' := by
  obtain ⟨i0, hi, hz0, hz1, hz2⟩ := info_parts str_info
  have HI := Lib.hid hi; have HZ0 := Lib.hid hz0; have HZ1 := Lib.hid hz1; have HZ2 := Lib.hid hz2
  clear hi hz0 hz1 hz2
  have HWO := Lib.hid (wo_any s w hs)
  have hwl := wdB_len s
  have HWM : Hid (∀ z ∈ wdB s, z.size ≤ maxLen) := Lib.hid (fun z hz => by have := wdB_mem hz; simp only [maxLen]; omega)
  generalize hR : tgB s = R at *
  have HR : Hid (R = (wdB s).foldl tgF []) := Lib.hid (by rw [← hR]; rfl)
  clear hR
  generalize hW : wdB s = W at *
  generalize hn : W.length = n at hwl HWO
  have HN := Lib.hid hn
  clear hn hW
  go_enter Tryd.func25, Tryd.ntmps25
  go_wp2_with fail
  refine HWO.out.mono ?_
  rintro e w1 ⟨v, rfl, ho1, hb1⟩
  obtain ⟨A, c, rfl, hnc, hcm, hrd⟩ := own_form ho1
  have HRD := Lib.hid hrd; have HB1 := Lib.hid hb1
  clear hrd ho1 hb1 hnc hcm HWO
  go_wp2_with fail
  go_loopw [3, 11] (fun v i wr => ∃ k : Nat, k ≤ n ∧ i = .int .i64 k ∧ wr.ownsRow w1.heap.size 9 1 v (tgK W k).length (svs (tgK W k)) ∧ Below w1.heap.size w1 wr) (fun _ i _ => n - (intOf i).toNat)
  case atStart => exact ⟨0, Nat.zero_le _, rfl, by rw [tgK_0]; exact World.ownsRow_nil _ _ _ _, Below.refl _ _⟩
  case round =>
    obtain ⟨k, hk, rfl, ho, hb⟩ := hrel
    have HO := Lib.hid ho; have HB := Lib.hid hb
    clear ho hb
    by_cases hlt : k < n
    · obtain ⟨b, off, z, rfl, hbl, hz, hcell⟩ := (HRD.out.below HB.out).sv hlt
      have HSZ := Lib.hid (HWM.out z (List.mem_of_getElem? hz))
      have HST : Hid ((tgT z).size ≤ maxLen) := Lib.hid (Nat.le_trans (tgT_size z) HSZ.out)
      have HK1 := Lib.hid (tgK_succ hz)
      have hkl := tgK_len W k
      clear hz
      generalize hacc : tgK W k = acc at *
      have HCP := Lib.hid (fun w => cutp_any z 35 w)
      cases hp : Lib.hasPrefix z.data.toList [35]
      · have HE : Hid (tgK W (k + 1) = acc) := Lib.hid (by rw [HK1.out]; exact tgF_nop hp)
        clear HK1 hacc
        rw [hp] at HCP
        clear hp
        generalize mkB (Lib.trimPrefix z.data.toList [35]) = y at *
        go_wp2_with fail
        refine (HCP.out _).mono ?_
        rintro e w2 ⟨rfl, rfl⟩
        go_wp2
        go_roundw
        case rel => exact ⟨k + 1, by omega, by go_num, by rw [HE.out]; exact HO.out, HB.out⟩
        case measure => simp [intOf]; omega
      · have HP := Lib.hid hp
        rw [hp, trimP z hp] at HCP
        clear hp
        cases hv : wvB (tgT z)
        · have HE : Hid (tgK W (k + 1) = acc) := Lib.hid (by rw [HK1.out]; exact tgF_now hv)
          clear HK1 hacc
          generalize tgT z = y at *
          go_wp2_with fail
          refine (HCP.out _).mono ?_
          rintro e w2 ⟨rfl, rfl⟩
          go_wp2_with fail
          refine (iwv_any _ _ HST.out).mono ?_
          rw [hv]
          rintro e w2 ⟨rfl, rfl⟩
          go_wp2
          go_roundw
          case rel => exact ⟨k + 1, by omega, by go_num, by rw [HE.out]; exact HO.out, HB.out⟩
          case measure => simp [intOf]; omega
        · have HV := Lib.hid hv
          cases hin : inS acc (tgT z)
          · have HE : Hid (tgK W (k + 1) = acc ++ [tgT z]) := Lib.hid (by rw [HK1.out]; exact tgF_yes HP.out hv hin)
            clear HK1 hacc HP hv
            generalize tgT z = y at *
            have HIN := Lib.hid hin; clear hin
            obtain ⟨A3, c3, e3, hnc3, hcm3, hrd3⟩ := own_form HO.out
            have HRD3 := Lib.hid hrd3
            clear hrd3 hnc3 hcm3
            subst e3
            go_wp2_with fail
            refine (HCP.out _).mono ?_
            rintro e w2 ⟨rfl, rfl⟩
            go_wp2_with fail
            refine (iwv_any _ _ HST.out).mono ?_
            rw [HV.out]
            rintro e w2 ⟨rfl, rfl⟩
            go_wp2_with fail
            refine (cons_any _ _ _ acc y _ HRD3.out (by simp only [maxLen]; omega)).mono ?_
            rw [HIN.out]
            rintro e w2 ⟨rfl, rfl⟩
            clear HRD3 hcell
            generalize hm : acc.length = m at *
            have HM := Lib.hid hm; clear hm
            go_wp2_with (first
              | (at_builtin
                 refine wpList_append1 _ rfl _ _ 42 rfl w1.heap.size 9 i0 (.string ⟨#[]⟩) 1 16 Tryd.underlying42 HI.out HZ0.out HZ1.out HZ2.out rfl (by decide) [.string y] rfl (by intro u hu; simp at hu; subst hu; rfl) _ m (svs acc) _ _ HO.out rfl rfl _ rfl rfl (by simp only [maxLen]; omega) (by omega) HB.out.size ?_
                 intro v' w5 ho5 hg5
                 have HO5 : Hid (w5.ownsRow w1.heap.size 9 1 v' (m + 1) (svs (acc ++ [y]))) := Lib.hid (by rw [svs_app, svs_one]; exact ho5)
                 have HB5 : Hid (Below w1.heap.size w1 w5) := Lib.hid (below_grown HB.out hg5 HO.out (Nat.le_refl _) HB.out.size)
                 clear ho5 hg5))
            go_wp2
            go_roundw
            case rel => exact ⟨k + 1, by omega, by go_num, by rw [HE.out, List.length_append, HM.out]; exact HO5.out, HB5.out⟩
            case measure => simp [intOf]; omega
          · have HE : Hid (tgK W (k + 1) = acc) := Lib.hid (by rw [HK1.out]; exact tgF_in hin)
            clear HK1 hacc HP hv
            generalize tgT z = y at *
            have HIN := Lib.hid hin; clear hin
            obtain ⟨A3, c3, e3, hnc3, hcm3, hrd3⟩ := own_form HO.out
            have HRD3 := Lib.hid hrd3
            clear hrd3 hnc3 hcm3
            subst e3
            go_wp2_with fail
            refine (HCP.out _).mono ?_
            rintro e w2 ⟨rfl, rfl⟩
            go_wp2_with fail
            refine (iwv_any _ _ HST.out).mono ?_
            rw [HV.out]
            rintro e w2 ⟨rfl, rfl⟩
            go_wp2_with fail
            refine (cons_any _ _ _ acc y _ HRD3.out (by simp only [maxLen]; omega)).mono ?_
            rw [HIN.out]
            rintro e w2 ⟨rfl, rfl⟩
            clear HRD3 hcell
            go_wp2
            go_roundw
            case rel => exact ⟨k + 1, by omega, by go_num, by rw [HE.out]; exact HO.out, HB.out⟩
            case measure => simp [intOf]; omega
    · obtain rfl : k = n := by omega
      have HX : Hid (tgK W k = R) := Lib.hid (by rw [HR.out, ← HN.out]; exact tgK_end W)
      rw [HX.out] at HO
      go_wp2
      go_ret
      exact ⟨_, rfl, own_less HO.out HB1.out.size, belt HB1.out HB.out⟩
end Go.Proofs.YtpbnbekkmifbpaaDoor
