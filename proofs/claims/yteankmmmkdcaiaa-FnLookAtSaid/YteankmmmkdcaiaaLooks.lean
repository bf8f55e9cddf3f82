/-
  The contracts of LooksDue.
-/
import Derived.Test.YteankmmmkdcaiaaWatchesV
import Derived.Test.YteankmmmkdcaiaaStrS
namespace Go.Proofs.Yteankmmmkdcaiaa
open Go.ChangeShapes Go.WideShapes Go.ChangeAt Go.RowKit Go.Joins
set_option linter.unusedVariables false

def ldL (l : List Wa) (now : Int) (k : Nat) : List ByteArray := ((l.take k).filter fun z => decide (z.c ≤ now)).map (·.a)
theorem ldL_0 (l : List Wa) (now : Int) : ldL l now 0 = [] := by simp [ldL]
theorem ldL_yes {l : List Wa} {now : Int} {k : Nat} {z : Wa} (hz : l[k]? = some z) (h : z.c ≤ now) : ldL l now (k + 1) = ldL l now k ++ [z.a] := by
  unfold ldL; rw [take_snoc_get l k z hz, List.filter_append]; simp [h]
theorem ldL_no {l : List Wa} {now : Int} {k : Nat} {z : Wa} (hz : l[k]? = some z) (h : now < z.c) : ldL l now (k + 1) = ldL l now k := by
  unfold ldL; rw [take_snoc_get l k z hz, List.filter_append]; simp [h]
theorem ldL_le (l : List Wa) (now : Int) (k : Nat) : (ldL l now k).length ≤ k := by
  unfold ldL; rw [List.length_map]; have := List.length_filter_le (fun z : Wa => decide (z.c ≤ now)) (l.take k); have h2 := List.length_take_le k l; omega
def ldR (l : List Wa) (now : Int) : List ByteArray := if wvA l = true then ldL l now l.length else []
theorem ldR_le (l : List Wa) (now : Int) : (ldR l now).length ≤ l.length := by
  unfold ldR; split
  · exact ldL_le _ _ _
  · simp
theorem own_emptyS (w : World) (e : TypeId) (size : Nat) : (w.alloc (.cells #[] e)).ownsRow w.heap.size e size (.slice (some ⟨w.heap.size, 0, none⟩) 0 0) 0 [] :=
  World.ownsRow_made w #[] 0 (Nat.le_refl _) (by simp) (by simp)

set_option maxRecDepth 100000 in
set_option maxHeartbeats 2000000 in
theorem ild_any (A : Option Addr) (n c : Nat) (l : List Wa) (now : Int) (w : World) (h : Rd w 3 A n (was l)) (hn : n ≤ 1048576) (hnc : n ≤ c) (hc : c ≤ maxLen) (hs : ∀ z ∈ l, z.a.size ≤ maxLen) :
    Calls Try.prog 22 #[.slice A n c, .int .i64 now] w fun e w' => ∃ v, e = .returned v ∧ w'.ownsRow w.heap.size 9 1 v (ldR l now).length (svs (ldR l now)) ∧ Below w.heap.size w w' := by
  have hll := rd_walen h
  have H := Lib.hid h; have HLL := Lib.hid hll; have HS := Lib.hid hs; have HNC := Lib.hid hnc; have HC := Lib.hid hc; clear h hll hs hnc hc
  obtain ⟨i0, hi, hz0, hz1, hz2⟩ := info_parts str_info
  have HI := Lib.hid hi; have HZ0 := Lib.hid hz0; have HZ1 := Lib.hid hz1; have HZ2 := Lib.hid hz2
  clear hi hz0 hz1 hz2
  generalize hr : ldR l now = R
  have HR := Lib.hid hr; clear hr
  cases hb : wvA l
  · have HB0 := Lib.hid hb; clear hb
    have HE : Hid (R = []) := Lib.hid (by rw [← HR.out, ldR, HB0.out]; rfl)
    go_enter Try.func22, Try.ntmps22
    go_wp2_with fail
    refine (iwa_any _ _ _ _ _ H.out HNC.out HC.out HS.out).mono ?_
    rw [HB0.out]
    rintro e w1 ⟨rfl, hb1⟩
    have HB1 := Lib.hid hb1; clear hb1
    go_wp2_with fail
    go_ret
    exact ⟨_, rfl, by rw [HE.out]; exact World.ownsRow_nil _ _ _ _, HB1.out⟩
  · have HB0 := Lib.hid hb; clear hb
    have HE : Hid (R = ldL l now n) := Lib.hid (by rw [← HR.out, ldR, HB0.out, HLL.out]; rfl)
    go_enter Try.func22, Try.ntmps22
    go_wp2_with fail
    refine (iwa_any _ _ _ _ _ H.out HNC.out HC.out HS.out).mono ?_
    rw [HB0.out]
    rintro e w1 ⟨rfl, hb1⟩
    have HB1 := Lib.hid hb1; clear hb1
    go_wp2_with fail
    go_loopw [5, 13] (fun v i wr => ∃ k : Nat, k ≤ n ∧ i = .int .i64 k ∧ wr.ownsRow w.heap.size 9 1 v (ldL l now k).length (svs (ldL l now k)) ∧ Below w.heap.size w wr) (fun _ i _ => n - (intOf i).toNat)
    case atStart => exact ⟨0, Nat.zero_le _, rfl, by rw [ldL_0]; exact World.ownsRow_nil _ _ _ _, HB1.out⟩
    case round =>
      obtain ⟨k, hk, rfl, ho, hb⟩ := hrel
      have hdk := ldL_le l now k
      by_cases hlt : k < n
      · obtain ⟨b, off, z, rfl, hbl, hz, hc0, hc1, hc2⟩ := (H.out.below hb).wa hlt
        by_cases hd : z.c ≤ now
        · have hsu := ldL_yes hz hd
          have HSU := Lib.hid hsu; have HB := Lib.hid hb; have HO := Lib.hid ho
          clear hsu hb hz ho
          generalize ldL l now k = dk at *
          go_wp2_with (first
            | (at_builtin; refine wpList_append1 _ rfl _ _ 41 rfl w.heap.size 9 i0 (.string ⟨#[]⟩) 1 16 Try.underlying41 HI.out HZ0.out HZ1.out HZ2.out rfl (by decide) [.string z.a] rfl ?c1 _ dk.length (svs dk) _ _ (HO.out.alloc _) rfl rfl _ rfl ?c2 ?c3 ?c4 ?c5 ?_))
          case c1 => intro u hu; simp at hu; subst hu; rfl
          case c2 => simp
          case c3 => simp only [maxLen]; omega
          case c4 => omega
          case c5 => simp; have := HB.out.size; omega
          intro v' w3 ho3 hg3
          have hb3 : Below w.heap.size w w3 := (HB.out.alloc HB.out.size _).grown hg3 (by simp; have := HB.out.size; omega) (fun j hj => (HO.out.lt _ hj).1)
          have HO3 := Lib.hid ho3; have HB3 := Lib.hid hb3
          clear ho3 hb3 hg3
          go_wp2_with fail
          go_roundw
          case rel => exact ⟨k + 1, by omega, by go_num, by rw [HSU.out, svs_app, List.length_append]; exact HO3.out, HB3.out⟩
          case measure => simp [intOf]; omega
        · have hsu := ldL_no (now := now) hz (by omega)
          have HSU := Lib.hid hsu; have HB := Lib.hid hb; have HO := Lib.hid ho
          clear hsu hb hz ho
          generalize ldL l now k = dk at *
          go_wp2_with fail
          go_roundw
          case rel => exact ⟨k + 1, by omega, by go_num, by rw [HSU.out]; exact HO.out.alloc _, HB.out.alloc HB.out.size _⟩
          case measure => simp [intOf]; omega
      · obtain rfl : k = n := by omega
        have HB := Lib.hid hb; have HO := Lib.hid ho; clear hb ho
        go_wp2_with fail
        go_ret
        exact ⟨_, rfl, by rw [HE.out]; exact HO.out, HB.out⟩

/-- Where rounds were made the list was valid. -/
def RV (l : List Wa) (k : Nat) : Prop := 0 < k → wvA l = true
set_option maxRecDepth 100000 in
set_option maxHeartbeats 2000000 in
theorem sld_any (A : Option Addr) (n c : Nat) (l : List Wa) (now : Int) (w : World) (h : Rd w 3 A n (was l)) (hn : n ≤ 1048576) (hs : ∀ z ∈ l, z.a.size ≤ maxLen) :
    Calls Try.prog 24 #[.slice A n c, .int .i64 now] w fun e w' => ∃ v, e = .returned v ∧ w'.ownsRow w.heap.size 9 1 v (ldR l now).length (svs (ldR l now)) ∧ Below w.heap.size w w' := by
  have hll := rd_walen h
  have hnl : n ≤ maxLen := by simp only [maxLen]; omega
  have H := Lib.hid h; have HLL := Lib.hid hll; have HS := Lib.hid hs; have HNL := Lib.hid hnl; clear h hll hs hnl
  obtain ⟨i0, hi, hz0, hz1, hz2⟩ := info_parts str_info
  have HI := Lib.hid hi; have HZ0 := Lib.hid hz0; have HZ1 := Lib.hid hz1; have HZ2 := Lib.hid hz2
  clear hi hz0 hz1 hz2
  generalize hr : ldR l now = R
  have HR := Lib.hid hr; clear hr
  go_enter Try.func24, Try.ntmps24
  go_wp2_with fail
  go_loopw [5, 6] (fun v i wr => ∃ k : Nat, k ≤ n ∧ i = .int .i64 k ∧ wr.ownsRow w.heap.size 9 1 v (ldL l now k).length (svs (ldL l now k)) ∧ RV l k ∧ Below w.heap.size w wr) (fun _ i _ => n - (intOf i).toNat)
  case atStart => exact ⟨0, Nat.zero_le _, rfl, by rw [ldL_0]; exact own_emptyS w _ _, fun h0 => absurd h0 (by omega), (Below.refl _ _).alloc (Nat.le_refl _) _⟩
  case round =>
    obtain ⟨k, hk, rfl, ho, hv, hb⟩ := hrel
    have hdk := ldL_le l now k
    by_cases hlt : k < n
    · obtain ⟨b, off, z, rfl, hbl, hz, hc0, hc1, hc2⟩ := (H.out.below hb).wa hlt
      have HB := Lib.hid hb; have HO := Lib.hid ho
      clear hb ho
      cases hw : wvA l
      · have HE : Hid (R = []) := Lib.hid (by rw [← HR.out, ldR, hw]; rfl)
        have HD : Hid (ldL l now k = []) := Lib.hid (by
          rcases Nat.eq_zero_or_pos k with h0 | h0
          · rw [h0, ldL_0]
          · exact absurd (hv h0) (by rw [hw]; simp))
        clear hv
        go_wp2_with fail
        refine (swa_any _ _ _ _ _ (H.out.below HB.out) HNL.out HS.out).mono ?_
        rw [hw]
        rintro e w2 ⟨rfl, hb2⟩
        have HB2 := Lib.hid (belB HB.out HB.out.size hb2); have HO2 := Lib.hid (own_below HO.out hb2)
        clear hb2
        go_wp2_with fail
        go_ret
        exact ⟨_, rfl, by have := HO2.out; rw [HD.out] at this; rw [HE.out]; exact this, HB2.out⟩
      · have HW := Lib.hid hw
        clear hv
        go_wp2_with fail
        refine (swa_any _ _ _ _ _ (H.out.below HB.out) HNL.out HS.out).mono ?_
        rw [hw]
        rintro e w2 ⟨rfl, hb2⟩
        have HB2 := Lib.hid (belB HB.out HB.out.size hb2); have HO2 := Lib.hid (own_below HO.out hb2)
        have hd0 := (hb2.cell (p := ⟨b, off + k * 3, none⟩) hbl).trans hc0
        have hd2 := (hb2.cell (p := ⟨b, off + k * 3 + 2, none⟩) hbl).trans hc2
        clear hb2 hc0 hc1 hc2 hw
        by_cases hd : z.c ≤ now
        · have hsu := ldL_yes hz hd
          have HSU := Lib.hid hsu
          clear hsu hz
          generalize ldL l now k = dk at *
          go_wp2_with (first
            | (at_builtin; refine wpList_append1 _ rfl _ _ 41 rfl w.heap.size 9 i0 (.string ⟨#[]⟩) 1 16 Try.underlying41 HI.out HZ0.out HZ1.out HZ2.out rfl (by decide) [.string z.a] rfl ?c1 _ dk.length (svs dk) _ _ HO2.out rfl rfl _ rfl ?c2 ?c3 ?c4 ?c5 ?_))
          case c1 => intro u hu; simp at hu; subst hu; rfl
          case c2 => simp
          case c3 => simp only [maxLen]; omega
          case c4 => omega
          case c5 => exact HB2.out.size
          intro v' w3 ho3 hg3
          have hb3 : Below w.heap.size w w3 := HB2.out.grown hg3 HB2.out.size (fun j hj => (HO2.out.lt _ hj).1)
          have HO3 := Lib.hid ho3; have HB3 := Lib.hid hb3
          clear ho3 hb3 hg3
          go_wp2_with fail
          go_roundw
          case rel => exact ⟨k + 1, by omega, by go_num, by rw [HSU.out, svs_app, List.length_append]; exact HO3.out, fun _ => HW.out, HB3.out⟩
          case measure => simp [intOf]; omega
        · have hsu := ldL_no (now := now) hz (by omega)
          have HSU := Lib.hid hsu
          clear hsu hz
          generalize ldL l now k = dk at *
          go_wp2_with fail
          go_roundw
          case rel => exact ⟨k + 1, by omega, by go_num, by rw [HSU.out]; exact HO2.out, fun _ => HW.out, HB2.out⟩
          case measure => simp [intOf]; omega
    · obtain rfl : k = n := by omega
      have HE : Hid (R = ldL l now k) := by
        refine Lib.hid ?_
        rw [← HR.out, ldR]
        rcases Nat.eq_zero_or_pos k with h0 | h0
        · rw [h0, ldL_0]; split
          · rw [HLL.out, h0, ldL_0]
          · rfl
        · rw [hv h0, HLL.out]; rfl
      have HB := Lib.hid hb; have HO := Lib.hid ho; clear hb ho hv
      go_wp2_with fail
      go_ret
      exact ⟨_, rfl, by rw [HE.out]; exact HO.out, HB.out⟩
end Go.Proofs.Yteankmmmkdcaiaa
