/-
  The walk of the law of BlockHits.
-/
import Derived.Test.YtajfglcoigklnaaDrawBlockHits
import Derived.Test.YtajfglcoigklnaaWordS
namespace Go.Proofs.Ytajfglcoigklnaa
open Go.ChangeShapes Go.WideShapes Go.ChangeAt Go.RowKit Go.Joins
set_option linter.unusedVariables false

theorem ibh_b (s : ByteArray) (ends only : Bool) (h : ByteArray) (w : World) (hh : h.size ≤ maxLen) (hs : s.size ≤ maxLen) :
    Calls Try.prog 14 #[bv s ends only, .string h] w fun e w' => e = .returned (.bool (bhB s ends h)) ∧ Below w.heap.size w w' :=
  (ibh_any s ends only h w hh hs).mono (by rintro e w' ⟨rfl, o, rfl⟩; exact ⟨rfl, (Below.refl _ _).alloc (Nat.le_refl _) _⟩)
theorem sbh_b (s : ByteArray) (ends only : Bool) (h : ByteArray) (w : World) (hh : h.size ≤ maxLen) (hs : s.size ≤ maxLen) :
    Calls Try.prog 12 #[bv s ends only, .string h] w fun e w' => e = .returned (.bool (bhB s ends h)) ∧ Below w.heap.size w w' :=
  (sbh_any s ends only h w hh hs).mono (by rintro e w' ⟨rfl, o, n, rfl⟩; exact ⟨rfl, belB ((Below.refl _ _).alloc (Nat.le_refl _) o) (by simp) (belq rfl)⟩)
theorem bh_suf (d s : ByteArray) : sufB (d ++ s) s = true := by
  have h1 : s.size ≤ (d ++ s).size := by simp [ByteArray.size_append]
  have h2 : (d ++ s).extract ((d ++ s).size - s.size) (d ++ s).size = s := by
    apply ByteArray.ext
    simp only [ByteArray.size_append, ByteArray.data_extract, ByteArray.data_append, Array.extract_append, Nat.add_sub_cancel]
    have e1 : d.data.extract d.size (d.size + s.size) = #[] := by
      apply Array.extract_empty_of_size_le_start
      simp
    have e2 : s.data.extract (d.size - d.data.size) (d.size + s.size - d.data.size) = s.data := by
      have : d.data.size = d.size := by simp
      rw [this, Nat.sub_self, Nat.add_sub_cancel_left]
      have : s.size = s.data.size := by simp
      rw [this]; simp
    rw [e1, e2]; simp
  unfold sufB
  rw [h2]; simp [h1]
theorem bh_all (s : ByteArray) : sufB s s = true := by
  have h2 : s.extract (s.size - s.size) s.size = s := by
    apply ByteArray.ext
    simp
  unfold sufB
  rw [h2]; simp
theorem bh_self (s : ByteArray) (x : Bool) : bhB s x s = true := by
  cases x
  · simp [bhB]
  · simp only [bhB, if_pos]; exact bh_all s
theorem toList_inj {s d : ByteArray} (h : s.toList = d.toList) : s = d := by
  apply ByteArray.ext
  rw [ByteArray.toList_eq, ByteArray.toList_eq] at h
  exact Array.toList_inj.1 h
theorem bh_hit {s d : ByteArray} {x : Bool} (h : bhB s x d = true) : bhB s true d = true := by
  cases x
  · simp only [bhB, Bool.false_eq_true, if_false, beq_iff_eq] at h
    obtain rfl := toList_inj h
    exact bh_self _ true
  · exact h

set_option maxHeartbeats 4000000 in
theorem walkBlockHits (a : Option Addr) (len cap : Nat) (zs : List Int) (w : World) (h : IsCode w a len cap zs) :
    Calls Try.prog 4 #[.slice a len cap] w fun e w' => e = .returned (.bool true) ∧ Below w.heap.size w w' := by
  obtain ⟨hl, hm⟩ := code_len h
  unfold maxLen at hm
  have H := Lib.hid h; clear h
  by_cases hb : (1048576 : Int) < (len : Int)
  · go_enter Try.func4, Try.ntmps4
    go_wp2
    go_ret
    exact ⟨rfl, Below.refl _ _⟩
  · go_enter Try.func4, Try.ntmps4
    go_wp2_with fail
    refine (dbh_any _ _ _ _ _ _ H.out (Below.refl _ _)).mono ?_
    rintro e w1 ⟨s, x, y, d, rfl, hs, hd, hb1⟩
    have HB1 := Lib.hid hb1; have HS := Lib.hid hs; have HD := Lib.hid hd
    have HSM : Hid (s.size ≤ maxLen) := Lib.hid (by simp only [maxLen]; omega)
    have HDM : Hid (d.size ≤ maxLen) := Lib.hid (by simp only [maxLen]; omega)
    clear hb1 hs hd
    go_wp2_with fail
    have hK : Bk (w1.alloc (.cells #[.string s, .bool x, .bool y] 26)) w1.heap.size 26 #[.string s, .bool x, .bool y] := Bk.new w1 _ _
    have hB2 : Below w.heap.size w (w1.alloc (.cells #[.string s, .bool x, .bool y] 26)) := HB1.out.alloc HB1.out.size _
    generalize w1.alloc (.cells #[.string s, .bool x, .bool y] 26) = w2 at *
    generalize w1.heap.size = g at *
    have c0 := hK.cell 0 (v := .string s) rfl
    have c1 := hK.cell 1 (v := .bool x) rfl
    have c2 := hK.cell 2 (v := .bool y) rfl
    have HGL := Lib.hid hK.lt
    have HB2 := Lib.hid hB2
    clear hK hB2 HB1
    refine (ibh_b _ _ _ _ _ HDM.out HSM.out).mono ?_
    generalize hv : bhB s x d = t
    have HV := Lib.hid hv; clear hv
    rintro e w3 ⟨rfl, hb3⟩
    have hgl := Nat.lt_of_lt_of_le HGL.out hb3.size
    have c0 := (hb3.cell (p := ⟨g, 0, none⟩) HGL.out).trans c0
    have c1 := (hb3.cell (p := ⟨g, 1, none⟩) HGL.out).trans c1
    have c2 := (hb3.cell (p := ⟨g, 2, none⟩) HGL.out).trans c2
    have HB3 := Lib.hid (belB HB2.out HB2.out.size hb3)
    have HGL := Lib.hid hgl
    clear hb3 HB2 hgl
    go_wp2_with fail
    refine (sbh_b _ _ _ _ _ HDM.out HSM.out).mono ?_
    rw [HV.out]
    rintro e w4 ⟨rfl, hb4⟩
    have hgl := Nat.lt_of_lt_of_le HGL.out hb4.size
    have c0 := (hb4.cell (p := ⟨g, 0, none⟩) HGL.out).trans c0
    have c1 := (hb4.cell (p := ⟨g, 1, none⟩) HGL.out).trans c1
    have c2 := (hb4.cell (p := ⟨g, 2, none⟩) HGL.out).trans c2
    have HB4 := Lib.hid (belB HB3.out HB3.out.size hb4)
    have HGL := Lib.hid hgl
    clear hb4 HB3
    go_wp2_with fail
    have hKu : Bk (w4.alloc (.cells #[.string s, .bool true, .bool false] 26)) w4.heap.size 26 #[.string s, .bool true, .bool false] := Bk.new w4 _ _
    have hB5 : Below w.heap.size w (w4.alloc (.cells #[.string s, .bool true, .bool false] 26)) := HB4.out.alloc HB4.out.size _
    have c0 : (w4.alloc (.cells #[.string s, .bool true, .bool false] 26)).cell? ⟨g, 0, none⟩ = some (.string s) := (World.cell?_alloc_lt _ _ _ hgl).trans c0
    have c1 : (w4.alloc (.cells #[.string s, .bool true, .bool false] 26)).cell? ⟨g, 1, none⟩ = some (.bool x) := (World.cell?_alloc_lt _ _ _ hgl).trans c1
    have c2 : (w4.alloc (.cells #[.string s, .bool true, .bool false] 26)).cell? ⟨g, 2, none⟩ = some (.bool y) := (World.cell?_alloc_lt _ _ _ hgl).trans c2
    have hgl5 : g < (w4.alloc (.cells #[.string s, .bool true, .bool false] 26)).heap.size := by simp; omega
    generalize w4.alloc (.cells #[.string s, .bool true, .bool false] 26) = w5 at *
    generalize w4.heap.size = u at *
    have d0 := hKu.cell 0 (v := .string s) rfl
    have d1 := hKu.cell 1 (v := .bool true) rfl
    have d2 := hKu.cell 2 (v := .bool false) rfl
    have HUL := Lib.hid hKu.lt
    have HGL := Lib.hid hgl5
    have HB5 := Lib.hid hB5
    clear hKu hB5 hgl5 HB4 hgl
    have HN := Lib.hid (bh_self s x)
    refine (ibh_b _ _ _ _ _ HSM.out HSM.out).mono ?_
    rw [HN.out]
    rintro e w6 ⟨rfl, hb6⟩
    have c0 := (hb6.cell (p := ⟨g, 0, none⟩) HGL.out).trans c0
    have d0 := (hb6.cell (p := ⟨u, 0, none⟩) HUL.out).trans d0
    have d1 := (hb6.cell (p := ⟨u, 1, none⟩) HUL.out).trans d1
    have d2 := (hb6.cell (p := ⟨u, 2, none⟩) HUL.out).trans d2
    have HUL6 := Lib.hid (Nat.lt_of_lt_of_le HUL.out hb6.size)
    have HB6 := Lib.hid (belB HB5.out HB5.out.size hb6)
    clear hb6
    have hlen : (d ++ s).size = d.size + s.size := ByteArray.size_append
    have HAM : Hid ((d ++ s).size ≤ maxLen) := Lib.hid (by have := HS.out; have := HD.out; simp only [maxLen]; omega)
    have hsm : d.size + s.size ≤ 18 := by have := HS.out; have := HD.out; omega
    go_wp2_with fail
    refine (ibh_b _ _ _ _ _ HAM.out HSM.out).mono ?_
    rw [show bhB s true (d ++ s) = true from (by simp only [bhB, if_pos]; exact bh_suf d s)]
    rintro e w7 ⟨rfl, hb7⟩
    have d0 := (hb7.cell (p := ⟨u, 0, none⟩) HUL6.out).trans d0
    have d1 := (hb7.cell (p := ⟨u, 1, none⟩) HUL6.out).trans d1
    have d2 := (hb7.cell (p := ⟨u, 2, none⟩) HUL6.out).trans d2
    have HB7 := Lib.hid (belB HB6.out HB6.out.size hb7)
    clear hb7
    cases t
    · go_wp2_with (go_at_call 16; refine (alive_any _).mono ?_; rintro e w' ⟨rfl, rfl⟩)
      go_ret
      exact ⟨rfl, HB7.out⟩
    · go_wp2_with fail
      refine (ibh_b _ _ _ _ _ HDM.out HSM.out).mono ?_
      rw [bh_hit HV.out]
      rintro e w8 ⟨rfl, hb8⟩
      have HB8 := Lib.hid (belB HB7.out HB7.out.size hb8)
      clear hb8
      go_wp2_with (go_at_call 16; refine (alive_any _).mono ?_; rintro e w' ⟨rfl, rfl⟩)
      go_ret
      exact ⟨rfl, HB8.out⟩
end Go.Proofs.Ytajfglcoigklnaa
