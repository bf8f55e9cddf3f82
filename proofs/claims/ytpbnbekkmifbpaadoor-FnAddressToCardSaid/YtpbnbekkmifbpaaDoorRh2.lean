/-
  The contract of ReadHandle of the program.
-/
import Derived.Test.YtpbnbekkmifbpaaDoorRh1
namespace Go.Proofs.YtpbnbekkmifbpaaDoor
open Go.ChangeShapes Go.WideShapes Go.ChangeAt Go.RowKit Go.Joins
set_option linter.unusedVariables false

def atI (s : ByteArray) : Int := Lib.indexByte (s.data.toList.drop 1) 64
def haI (s : ByteArray) (i : Nat) : Ha := ⟨s.extract 1 (1 + i), s.extract (1 + i + 1) s.size⟩
def haOf (s : ByteArray) : Ha := haI s (atI s).toNat
/-- Is it a handle's text? -/
def rhV (s : ByteArray) : Bool := Lib.hasPrefix s.data.toList [64] && decide (0 ≤ atI s) && hdV (haOf s)
/-- The handle, or none. -/
def rhH (s : ByteArray) : Ha := if rhV s = true then haOf s else ⟨⟨#[]⟩, ⟨#[]⟩⟩
theorem rhH_no {s : ByteArray} (h : rhV s = false) : rhH s = ⟨⟨#[]⟩, ⟨#[]⟩⟩ := by rw [rhH, if_neg (by rw [h]; simp)]
theorem rhV_nop {s : ByteArray} (h : Lib.hasPrefix s.data.toList [64] = false) : rhV s = false := by rw [rhV, h]; rfl
theorem rhV_noi {s : ByteArray} (h : atI s = -1) : rhV s = false := by rw [rhV, h]; simp
theorem haOf_i {s : ByteArray} {i : Nat} (h : atI s = i) : haOf s = haI s i := by rw [haOf, h]; rfl
theorem rhV_i {s : ByteArray} {i : Nat} (hp : Lib.hasPrefix s.data.toList [64] = true) (h : atI s = i) : rhV s = hdV (haI s i) := by
  rw [rhV, hp, haOf_i h, h]; simp
theorem rhH_yes {s : ByteArray} {i : Nat} (hp : Lib.hasPrefix s.data.toList [64] = true) (h : atI s = i) (hv : hdV (haI s i) = true) : rhH s = haI s i := by
  rw [rhH, if_pos (by rw [rhV_i hp h]; exact hv), haOf_i h]
theorem rhV_hd {s : ByteArray} (h : rhV s = true) : hdV (rhH s) = true := by
  rw [rhH, if_pos h]
  simp only [rhV, Bool.and_eq_true] at h
  exact h.2
theorem ext_list (s : ByteArray) (a b : Nat) : (s.extract a b).data.toList = (s.data.toList.take b).drop a := by
  rw [ByteArray.data_extract, Array.toList_extract, List.extract_eq_take_drop, List.drop_take]
theorem tail_list (s : ByteArray) : (s.extract 1 s.size).data.toList = s.data.toList.drop 1 := by
  rw [ext_list, List.take_of_length_le (by rw [size_list]; exact Nat.le_refl _)]
theorem tail_size (s : ByteArray) : (s.extract 1 s.size).size = s.size - 1 := by rw [ByteArray.size_extract, Nat.min_self]
theorem ba_ext {a b : ByteArray} (h : a.data.toList = b.data.toList) : a = b := ByteArray.ext (Array.ext' h)
theorem hp_size {s : ByteArray} (h : Lib.hasPrefix s.data.toList [64] = true) : 1 ≤ s.size := by
  cases hl : s.data.toList with
  | nil => rw [hl] at h; simp [Lib.hasPrefix, List.isPrefixOf] at h
  | cons c l => have := size_list s; rw [hl] at this; simp at this; omega
theorem at_room {s : ByteArray} {i : Nat} (h : atI s = i) : 1 + i < s.size := by
  have := ix_room h
  rw [List.length_drop, size_list] at this
  omega
theorem cut1 {s : ByteArray} {i : Nat} (h : atI s = i) : (s.extract 1 s.size).extract 0 i = s.extract 1 (1 + i) := by
  have := at_room h
  apply ba_ext
  rw [ext_list, tail_list, ext_list, List.drop_zero, List.drop_take, show 1 + i - 1 = i by omega]
theorem cut2 {s : ByteArray} {i : Nat} (h : atI s = i) : (s.extract 1 s.size).extract (i + 1) (s.extract 1 s.size).size = s.extract (1 + i + 1) s.size := by
  have := at_room h
  apply ba_ext
  rw [ext_list, tail_list, ext_list, tail_size, List.take_of_length_le (by rw [List.length_drop, size_list]; omega), List.take_of_length_le (by rw [size_list]; exact Nat.le_refl _), List.drop_drop]
  first | rfl | (congr 1; omega)

set_option maxHeartbeats 2000000 in
theorem irh_any (s : ByteArray) (w : World) (hs : s.size ≤ maxLen) :
    Calls Tryd.prog 35 #[.string s] w fun e w' => e = .returned (.tuple #[hav (rhH s), .bool (rhV s)]) ∧ Below w.heap.size w w' := by
  have hs' := hs
  unfold maxLen at hs'
  cases hp : Lib.hasPrefix s.data.toList [64]
  · have HV := Lib.hid (rhV_nop hp); have HH := Lib.hid (rhH_no HV.out)
    have HP := Lib.hid hp; clear hp
    generalize rhV s = V at *
    generalize rhH s = R at *
    go_enter Tryd.func35, Tryd.ntmps35
    go_wp2_with fail
    refine (hasp_any _ _ _).mono ?_
    rw [HP.out]
    rintro e w' ⟨rfl, rfl⟩
    go_wp2_with fail
    go_returns
    exact ⟨by rw [HV.out, HH.out], by go_grown⟩
  · have h1 := hp_size hp
    have hts := tail_size s
    rcases (show atI s = -1 ∨ ∃ i : Nat, atI s = i from by
      have := Lib.indexByte_ge (s.data.toList.drop 1) 64
      by_cases e : atI s = -1
      · exact .inl e
      · exact .inr ⟨(atI s).toNat, by unfold atI at e ⊢; omega⟩) with hi | ⟨i, hi⟩
    · have HV := Lib.hid (rhV_noi hi); have HH := Lib.hid (rhH_no HV.out)
      have HI : Hid (Lib.indexByte (s.extract 1 s.size).data.toList 64 = -1) := Lib.hid (by rw [tail_list]; exact hi)
      have HP := Lib.hid hp; clear hp hi
      generalize rhV s = V at *
      generalize rhH s = R at *
      go_enter Tryd.func35, Tryd.ntmps35
      go_wp2_with fail
      refine (hasp_any _ _ _).mono ?_
      rw [HP.out]
      rintro e w' ⟨rfl, rfl⟩
      go_wp2_with fail
      refine (scut_miss _ _ HI.out).mono ?_
      rintro e w2 ⟨rfl, hb2⟩
      have hk2 : Bk w2 w.heap.size 29 #[.string ⟨#[]⟩, .string ⟨#[]⟩] := (Bk.new w _ _).keep hb2
      have HB2 := Lib.hid (belt (bel1 rfl) hb2)
      clear hb2
      have g0 := hk2.cell 0 (v := .string ⟨#[]⟩) rfl
      have g1 := hk2.cell 1 (v := .string ⟨#[]⟩) rfl
      have hfr0 := hk2.free 0
      have hfr1 := hk2.free 1
      have hsz := HB2.out.size
      have hlt := hk2.lt
      have G0 : ∀ u v o, (((w2.setCell ⟨w.heap.size, 0, none⟩ u).setCell ⟨w.heap.size, 1, none⟩ v).alloc o).cell? ⟨w.heap.size, 0, none⟩ = some u := fun u v o => (((hk2.set_ 0 u).set_ 1 v).alloc o).cell 0 rfl
      have G1 : ∀ u v o, (((w2.setCell ⟨w.heap.size, 0, none⟩ u).setCell ⟨w.heap.size, 1, none⟩ v).alloc o).cell? ⟨w.heap.size, 1, none⟩ = some v := fun u v o => (((hk2.set_ 0 u).set_ 1 v).alloc o).cell 1 rfl
      clear hk2
      go_wp2_with fail
      refine bodyPost_ret (by simp [results, Tryd.results35, go_sem, G0, G1]; try rfl) rfl ?_
      refine ⟨by rw [HV.out, HH.out], ?_⟩
      go_grown
      exact HB2.out
    · have HC1 := Lib.hid (cut1 hi); have HC2 := Lib.hid (cut2 hi)
      have HI : Hid (Lib.indexByte (s.extract 1 s.size).data.toList 64 = i) := Lib.hid (by rw [tail_list]; exact hi)
      have hx : (s.extract 1 s.size).size ≤ maxLen := by unfold maxLen; omega
      have HX := Lib.hid hx
      have hza : (s.extract 1 (1 + i)).size ≤ maxLen := by rw [ByteArray.size_extract]; unfold maxLen; omega
      have hzb : (s.extract (1 + i + 1) s.size).size ≤ maxLen := by rw [ByteArray.size_extract]; unfold maxLen; omega
      have HZA := Lib.hid hza; have HZB := Lib.hid hzb
      have HV := Lib.hid (rhV_i hp hi)
      have HHy := Lib.hid (fun h => rhH_yes hp hi h); have HHn := Lib.hid (fun h => rhH_no (s := s) h)
      have HP := Lib.hid hp; clear hp hi hx hza hzb
      cases hv : hdV (haI s i)
      all_goals
        rw [hv] at HV
        (first | have HH := Lib.hid (HHy.out hv) | have HH := Lib.hid (HHn.out HV.out))
        clear HHy HHn
        unfold haI at hv HH
        have HD := Lib.hid hv; clear hv
        generalize rhV s = V at *
        generalize rhH s = R at *
        generalize s.extract 1 (1 + i) = za at *
        generalize s.extract (1 + i + 1) s.size = zb at *
        go_enter Tryd.func35, Tryd.ntmps35
        go_wp2_with fail
        refine (hasp_any _ _ _).mono ?_
        rw [HP.out]
        rintro e w' ⟨rfl, rfl⟩
        go_wp2_with fail
        refine (scut_hit _ i _ HX.out HI.out).mono ?_
        rw [HC1.out, HC2.out]
        rintro e w2 ⟨rfl, hb2⟩
        have hk2 : Bk w2 w.heap.size 29 #[.string ⟨#[]⟩, .string ⟨#[]⟩] := (Bk.new w _ _).keep hb2
        have HB2 := Lib.hid (belt (bel1 rfl) hb2)
        clear hb2
        have hsz := HB2.out.size
        have hlt := hk2.lt
        go_wp2_with fail
        refine (hd_impl za zb _ HZA.out HZB.out).mono ?_
        rw [HD.out]
        rintro e w3 ⟨rfl, o, rfl⟩
        have g0 : ∀ o1 o2, ((w2.alloc o1).alloc o2).cell? ⟨w.heap.size, 0, none⟩ = some (.string ⟨#[]⟩) := fun o1 o2 => ((hk2.alloc o1).alloc o2).cell 0 rfl
        have g1 : ∀ o1 o2, ((w2.alloc o1).alloc o2).cell? ⟨w.heap.size, 1, none⟩ = some (.string ⟨#[]⟩) := fun o1 o2 => ((hk2.alloc o1).alloc o2).cell 1 rfl
        have hfr0 := hk2.free 0
        have hfr1 := hk2.free 1
        have g2 := hk2.cell 0 (v := .string ⟨#[]⟩) rfl
        have g3 := hk2.cell 1 (v := .string ⟨#[]⟩) rfl
        have G0 : ∀ u v o o', ((((w2.setCell ⟨w.heap.size, 0, none⟩ u).setCell ⟨w.heap.size, 1, none⟩ v).alloc o).alloc o').cell? ⟨w.heap.size, 0, none⟩ = some u := fun u v o o' => ((((hk2.set_ 0 u).set_ 1 v).alloc o).alloc o').cell 0 rfl
        have G1 : ∀ u v o o', ((((w2.setCell ⟨w.heap.size, 0, none⟩ u).setCell ⟨w.heap.size, 1, none⟩ v).alloc o).alloc o').cell? ⟨w.heap.size, 1, none⟩ = some v := fun u v o o' => ((((hk2.set_ 0 u).set_ 1 v).alloc o).alloc o').cell 1 rfl
        clear hk2
        go_wp2_with fail
        refine bodyPost_ret (by simp [results, Tryd.results35, go_sem, G0, G1]; try rfl) rfl ?_
        refine ⟨by rw [HV.out, HH.out], ?_⟩
        go_grown
        exact HB2.out
end Go.Proofs.YtpbnbekkmifbpaaDoor
