/-
  The contracts of withAt, withoutAt, AddDelivery of the program.
-/
import Derived.Test.YtadgmncngkkdnaaAdd
namespace Go.Proofs.Ytadgmncngkkdnaa
open Go.ChangeShapes Go.WideShapes Go.ChangeAt Go.RowKit Go.Joins
set_option linter.unusedVariables false

theorem own_room {w : World} {base size n c : Nat} {e : TypeId} {A : Option Addr} {xs : List Value} (h : w.ownsRow base e size (.slice A n c) n xs) : True := trivial
set_option maxHeartbeats 1000000 in
theorem wat_any (A : Option Addr) (n c k : Nat) (l : List De) (z : De) (w : World) (h : Rd w 4 A n (des l)) (hn : n ≤ 1048576) (hnc : n ≤ c) (hc : c ≤ maxLen) (hk : k ≤ n) :
    Calls Try.prog 29 #[.slice A n c, .int .i64 k, dev z] w fun e w' => ∃ v, e = .returned v ∧ w'.ownsRow w.heap.size 25 4 v (n + 1) (des (l.take k ++ [z] ++ l.drop k)) ∧ Below w.heap.size w w' := by
  have hll := rd_delen h
  have h1 := de_take h hk
  have h2 := de_cut h hk hnc
  have H1 := Lib.hid h1; have H2 := Lib.hid h2; have HLL := Lib.hid hll; clear h h1 h2 hll
  obtain ⟨i0, hi, hz0, hz1, hz2⟩ := info_parts de_info
  have HI := Lib.hid hi; have HZ0 := Lib.hid hz0; have HZ1 := Lib.hid hz1; have HZ2 := Lib.hid hz2
  clear hi hz0 hz1 hz2
  obtain ⟨a, b, cc, d⟩ := z
  have hkc : k ≤ c := by omega
  unfold maxLen at hc
  go_enter Try.func29, Try.ntmps29
  go_wp2_with (first
    | (refine wpList_make_own _ rfl _ _ 23 rfl (w.heap.size + 1) 25 i0 (.agg #[.int .i64 0, .string ⟨#[]⟩, .int .i64 0, .int .i64 0]) 4 Try.underlying23 HI.out HZ0.out HZ1.out _ _ _ (n + 1) rfl rfl (by omega) (by rw [HZ2.out]; omega) (by simp only [maxLen]; omega) (by simp) ?_))
  intro w1 hown hg
  have hkb := (Bk.new w 25 #[.int .i64 a, .string b, .int .i64 cc, .int .i64 d]).grown hg (by simp)
  have HO1 := Lib.hid hown
  have HB1 : Hid (Below (w.heap.size + 1) (w.alloc (.cells #[.int .i64 a, .string b, .int .i64 cc, .int .i64 d] 25)) w1) := Lib.hid ((Below.refl _ _).grown hg (by simp) (by simp))
  have R1 := Lib.hid (((reads_of_rd H1.out (by omega)).alloc (Nat.le_refl _) (.cells #[.int .i64 a, .string b, .int .i64 cc, .int .i64 d] 25)).below (HB1.out.mono (by omega)))
  have R2 := Lib.hid (((reads_of_rd H2.out (by omega)).alloc (Nat.le_refl _) (.cells #[.int .i64 a, .string b, .int .i64 cc, .int .i64 d] 25)).below (HB1.out.mono (by omega)))
  have Z1 : Hid (w.heap.size + 1 ≤ w1.heap.size) := Lib.hid (by have := HB1.out.size; simpa using this)
  have hkl := hkb.lt
  clear hown hg
  go_wp2_with (first
    | (at_builtin
       refine wpList_append_any _ rfl _ _ 23 rfl (w.heap.size + 1) 25 i0 _ 4 40 Try.underlying23 HI.out HZ0.out HZ1.out HZ2.out rfl (by omega) _ 0 [] rfl HO1.out w.heap.size A k c (des (l.take k)) rfl R1.out (des_oneC _) (by simp only [maxLen]; omega) (by omega) Z1.out ?_
       intro v2 w2 hown hg hat
       have hkb := hkb.grown hg (fun e => by have := (HO1.out.lt _ e.symm).1; omega)
       have Z2 : Hid (w.heap.size + 1 ≤ w2.heap.size) := Lib.hid (Nat.le_trans Z1.out hg.size)
       have HB2 := Lib.hid (below_grown HB1.out hg HO1.out (Nat.le_refl _) Z1.out)
       have R2' := Lib.hid (R2.out.grown hg (by have := Z1.out; omega) (fun g hgg => by have := (HO1.out.lt g hgg).1; omega))
       have HO2 := Lib.hid hown
       have k0 := hkb.cell 0 (v := .int .i64 a) rfl
       have k1 := hkb.cell 1 (v := .string b) rfl
       have k2 := hkb.cell 2 (v := .int .i64 cc) rfl
       have k3 := hkb.cell 3 (v := .int .i64 d) rfl
       have hkl := hkb.lt
       clear hown hg hat HO1 HB1 R1 R2 Z1)
    | (at_builtin
       refine wpList_append1 _ rfl _ _ 23 rfl (w.heap.size + 1) 25 i0 (.agg #[.int .i64 0, .string ⟨#[]⟩, .int .i64 0, .int .i64 0]) 4 40 Try.underlying23 HI.out HZ0.out HZ1.out HZ2.out rfl (by decide) [.int .i64 a, .string b, .int .i64 cc, .int .i64 d] rfl (by intro u hu; simp at hu; rcases hu with rfl | rfl | rfl | rfl <;> rfl) _ (0 + k) _ _ _ HO2.out rfl rfl _ rfl rfl (by simp only [maxLen]; omega) (by omega) Z2.out ?_
       intro v3 w3 hown hg
       have Z3 : Hid (w.heap.size + 1 ≤ w3.heap.size) := Lib.hid (Nat.le_trans Z2.out hg.size)
       have HB3 := Lib.hid (below_grown HB2.out hg HO2.out (Nat.le_refl _) Z2.out)
       have R3 := Lib.hid (R2'.out.grown hg (by have := Z2.out; omega) (fun g hgg => by have := (HO2.out.lt g hgg).1; omega))
       have HO3 := Lib.hid hown
       clear hown hg HO2 HB2 R2' Z2 k0 k1 k2 k3 hkl hkb)
    | (at_builtin
       refine wpList_append_any _ rfl _ _ 23 rfl (w.heap.size + 1) 25 i0 _ 4 40 Try.underlying23 HI.out HZ0.out HZ1.out HZ2.out rfl (by omega) _ (0 + k + 1) _ rfl HO3.out w.heap.size _ (n - k) _ (des (l.drop k)) rfl R3.out (des_oneC _) (by simp only [maxLen]; omega) (by omega) Z3.out ?_
       intro v4 w4 hown hg hat
       have HB4 := Lib.hid (below_grown HB3.out hg HO3.out (Nat.le_refl _) Z3.out)
       have HO4 := Lib.hid hown
       clear hown hg hat))
  all_goals
    have e : w4.ownsRow w.heap.size 25 4 v4 (n + 1) (des (l.take k ++ [(⟨a, b, cc, d⟩ : De)] ++ l.drop k)) := by
      have e := own_less HO4.out (base' := w.heap.size) (by omega)
      have hq : 0 + k + 1 + (n - k) = n + 1 := by omega
      rw [hq] at e
      rw [des_app, des_app, des_one]
      exact e
    go_wp2_with fail
    go_ret
    exact ⟨_, rfl, by simpa using e, (bel1 rfl).trans (HB4.out.mono (by omega))⟩

set_option maxHeartbeats 1000000 in
theorem wout_any (A : Option Addr) (n c k : Nat) (l : List De) (w : World) (h : Rd w 4 A n (des l)) (hn : n ≤ 1048576) (hnc : n ≤ c) (hc : c ≤ maxLen) (hk : k < n) :
    Calls Try.prog 37 #[.slice A n c, .int .i64 k] w fun e w' => ∃ v, e = .returned v ∧ w'.ownsRow w.heap.size 25 4 v (n - 1) (des (l.take k ++ l.drop (k + 1))) ∧ Below w.heap.size w w' := by
  have hll := rd_delen h
  have h1 := de_take h (Nat.le_of_lt hk)
  have h2 := de_cut h (show k + 1 ≤ n from hk) hnc
  have H1 := Lib.hid h1; have H2 := Lib.hid h2; have HLL := Lib.hid hll; clear h h1 h2 hll
  obtain ⟨i0, hi, hz0, hz1, hz2⟩ := info_parts de_info
  have HI := Lib.hid hi; have HZ0 := Lib.hid hz0; have HZ1 := Lib.hid hz1; have HZ2 := Lib.hid hz2
  clear hi hz0 hz1 hz2
  have hkc : k ≤ c := by omega
  have hkc1 : (k : Int) + 1 ≤ (c : Int) := by omega
  unfold maxLen at hc
  go_enter Try.func37, Try.ntmps37
  go_wp2_with (first
    | (refine wpList_make_own _ rfl _ _ 23 rfl w.heap.size 25 i0 (.agg #[.int .i64 0, .string ⟨#[]⟩, .int .i64 0, .int .i64 0]) 4 Try.underlying23 HI.out HZ0.out HZ1.out _ _ _ n rfl rfl rfl (by rw [HZ2.out]; omega) (by simp only [maxLen]; omega) (Nat.le_refl _) ?_
       intro w1 hown hg
       have HO1 := Lib.hid hown
       have HB1 : Hid (Below w.heap.size w w1) := Lib.hid ((Below.refl _ _).grown hg (Nat.le_refl _) (by simp))
       have R1 := Lib.hid ((reads_of_rd H1.out (by omega)).below HB1.out)
       have R2 := Lib.hid ((reads_of_rd H2.out (by omega)).below HB1.out)
       clear hown hg)
    | (at_builtin
       refine wpList_append_any _ rfl _ _ 23 rfl w.heap.size 25 i0 _ 4 40 Try.underlying23 HI.out HZ0.out HZ1.out HZ2.out rfl (by omega) _ 0 [] rfl HO1.out w.heap.size A k c (des (l.take k)) rfl R1.out (des_oneC _) (by simp only [maxLen]; omega) (by omega) HB1.out.size ?_
       intro v2 w2 hown hg hat
       have HB2 := Lib.hid (below_grown HB1.out hg HO1.out (Nat.le_refl _) HB1.out.size)
       have R3 := Lib.hid (R2.out.grown hg HB1.out.size (fun g hgg => (HO1.out.lt g hgg).1))
       have HO2 := Lib.hid hown
       clear hown hg hat HO1 HB1 R1 R2)
    | (at_builtin
       refine wpList_append_any _ rfl _ _ 23 rfl w.heap.size 25 i0 _ 4 40 Try.underlying23 HI.out HZ0.out HZ1.out HZ2.out rfl (by omega) _ (0 + k) _ rfl HO2.out w.heap.size _ (n - (k + 1)) _ (des (l.drop (k + 1))) rfl R3.out (des_oneC _) (by simp only [maxLen]; omega) (by omega) HB2.out.size ?_
       intro v4 w4 hown hg hat
       have HB4 := Lib.hid (below_grown HB2.out hg HO2.out (Nat.le_refl _) HB2.out.size)
       have HO4 := Lib.hid hown
       clear hown hg hat))
  all_goals
    have e : w4.ownsRow w.heap.size 25 4 v4 (n - 1) (des (l.take k ++ l.drop (k + 1))) := by
      have e := HO4.out
      have hq : 0 + k + (n - (k + 1)) = n - 1 := by omega
      rw [hq] at e
      rw [des_app]
      exact e
    go_wp2_with fail
    go_ret
    exact ⟨_, rfl, e, HB4.out⟩
end Go.Proofs.Ytadgmncngkkdnaa
