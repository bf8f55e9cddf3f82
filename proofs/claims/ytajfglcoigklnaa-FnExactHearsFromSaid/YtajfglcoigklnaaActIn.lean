/-
  How an activity comes in; the contracts of toActivity and szActivity.
-/
import Derived.Test.YtajfglcoigklnaaAct
import Derived.Test.YtajfglcoigklnaaListHandle
import Derived.Lib.SmallJoins
import Derived.ChangeArms
namespace Go.Proofs.Ytajfglcoigklnaa
open Go.ChangeShapes Go.WideShapes Go.ChangeAt Go.RowKit Go.Joins
set_option linter.unusedVariables false

theorem array5 {α : Type} {cs : Array α} (h : cs.size = 5) : ∃ c0 c1 c2 c3 c4, cs = #[c0, c1, c2, c3, c4] := by
  obtain ⟨l⟩ := cs
  match l, h with
  | [c0, c1, c2, c3, c4], _ => exact ⟨c0, c1, c2, c3, c4, rfl⟩
theorem open_act {H : Type} {enc : TypeId × Value → H} {W : World} {r : Reach} {b0 : Nat} {v : Value} {d : DataW H} {p : List MemPlace}
    (hv : Value.okWide Try.prog W r b0 52 v) (h : DataW.Trod enc Try.prog W 0 (fun _ => true) true 52 v d p) : ∃ a : Ac, v = acv a ∧ a.who.a.size ≤ maxLen ∧ a.who.b.size ≤ maxLen ∧ a.what.size ≤ maxLen := by
  obtain ⟨cs, rfl, hsz⟩ := okWide_struct Try.underlying52 hv
  obtain ⟨c0, c1, c2, c3, c4, rfl⟩ := array5 (hsz.trans (by kernel_rfl))
  obtain ⟨fuel, hf⟩ := h
  obtain ⟨y0, y1, y2, y3, n, hx, _, h0, h1, h2, h3⟩ := trod_struct4 Try.underlying52 hf
  have k0 : Try.prog.cellsOf 3 = 1 := by kernel_rfl
  have k1 : Try.prog.cellsOf 9 = 1 := by kernel_rfl
  have k2 : Try.prog.cellsOf 50 = 2 := by kernel_rfl
  simp [Value.cells, k0, k1, k2] at h0 h1 h2 h3
  obtain ⟨a0, e0, _, _⟩ := DataW.trod_int Try.underlying3 h0
  obtain ⟨a1, e1, _, _⟩ := DataW.trod_int Try.underlying3 h1
  obtain ⟨a3, e3, _, w3⟩ := DataW.trod_string Try.underlying9 h3
  obtain ⟨z0, z1, m, _, _, g0, g1⟩ := trod_struct2 Try.underlying50 h2
  simp [k1] at g0 g1
  obtain ⟨b0, f0, _, u0⟩ := DataW.trod_string Try.underlying9 g0
  obtain ⟨b1, f1, _, u1⟩ := DataW.trod_string Try.underlying9 g1
  simp at e0 e1 e3 f0 f1
  subst e0 e1 e3 f0 f1
  exact ⟨⟨a0, a1, ⟨b0, b1⟩, a3⟩, rfl, u0, u1, w3⟩

set_option maxHeartbeats 2000000 in
theorem toac_b (a : Ac) (w : World) :
    Calls Try.prog 28 #[acv a] w fun e w' => e = .returned (acv a) ∧ Below w.heap.size w w' := by
  obtain ⟨k, n, ⟨x, y⟩, t⟩ := a
  go_enter Try.func28, Try.ntmps28
  go_wp2_with fail
  refine (toha_b ⟨x, y⟩ _).mono ?_
  rintro e w1 ⟨rfl, hb⟩
  have b0 : Bk w1 w.heap.size 52 #[.int .i64 k, .int .i64 n, .string x, .string y, .string t] := (((Bk.new w _ _).alloc _).alloc _).keep hb
  have b1 : Bk w1 (w.heap.size + 1) 45 #[.int .i64 0, .int .i64 0, .string ⟨#[]⟩, .string ⟨#[]⟩, .string ⟨#[]⟩] := by
    have h1 := Bk.new (w.alloc (.cells #[.int .i64 k, .int .i64 n, .string x, .string y, .string t] 52)) 45 #[.int .i64 0, .int .i64 0, .string ⟨#[]⟩, .string ⟨#[]⟩, .string ⟨#[]⟩]
    rw [show (w.alloc (.cells #[.int .i64 k, .int .i64 n, .string x, .string y, .string t] 52)).heap.size = w.heap.size + 1 by simp] at h1
    exact (h1.alloc _).keep hb
  have b2 : Bk w1 (w.heap.size + 1 + 1) 45 #[.int .i64 k, .int .i64 n, .string ⟨#[]⟩, .string ⟨#[]⟩, .string ⟨#[]⟩] := by
    have h1 := Bk.new ((w.alloc (.cells #[.int .i64 k, .int .i64 n, .string x, .string y, .string t] 52)).alloc (.cells #[.int .i64 0, .int .i64 0, .string ⟨#[]⟩, .string ⟨#[]⟩, .string ⟨#[]⟩] 45)) 45 #[.int .i64 k, .int .i64 n, .string ⟨#[]⟩, .string ⟨#[]⟩, .string ⟨#[]⟩]
    rw [show ((w.alloc (.cells #[.int .i64 k, .int .i64 n, .string x, .string y, .string t] 52)).alloc (.cells #[.int .i64 0, .int .i64 0, .string ⟨#[]⟩, .string ⟨#[]⟩, .string ⟨#[]⟩] 45)).heap.size = w.heap.size + 1 + 1 by simp] at h1
    exact h1.keep hb
  have HB : Hid (Below w.heap.size w w1) := Lib.hid (bela (bela (bela hb)))
  clear hb
  have hl0 := b0.lt
  have hl1 := b1.lt
  have hl2 := b2.lt
  have c04 := b0.cell 4 (v := .string t) rfl
  have c10 := b1.cell 0 (v := .int .i64 0) rfl
  have c11 := b1.cell 1 (v := .int .i64 0) rfl
  have c12 := b1.cell 2 (v := .string ⟨#[]⟩) rfl
  have c13 := b1.cell 3 (v := .string ⟨#[]⟩) rfl
  have c14 := b1.cell 4 (v := .string ⟨#[]⟩) rfl
  have c20 := b2.cell 0 (v := .int .i64 k) rfl
  have c21 := b2.cell 1 (v := .int .i64 n) rfl
  have c22 := b2.cell 2 (v := .string ⟨#[]⟩) rfl
  have c23 := b2.cell 3 (v := .string ⟨#[]⟩) rfl
  have c24 := b2.cell 4 (v := .string ⟨#[]⟩) rfl
  have d10 := b1.free 0
  have d11 := b1.free 1
  have d12 := b1.free 2
  have d13 := b1.free 3
  have d14 := b1.free 4
  have d22 := b2.free 2
  have d23 := b2.free 3
  have d24 := b2.free 4
  have hgr : w.heap.size ≤ w.heap.size + 1 := by omega
  have hgq : w.heap.size ≤ w.heap.size + 1 + 1 := by omega
  have hne : w.heap.size + 1 ≠ w.heap.size + 1 + 1 := by omega
  have B1 := Lib.hid b1
  clear b0 b1 b2
  go_wp2_with fail
  generalize hW : World.setCell _ _ _ = W
  have hk : Bk W (w.heap.size + 1) 45 #[.int .i64 k, .int .i64 n, .string x, .string y, .string t] := by
    rw [← hW]
    have := ((((((((B1.out.far (p := ⟨w.heap.size + 1 + 1, 2, none⟩) hne (.string x)).far (p := ⟨w.heap.size + 1 + 1, 3, none⟩) hne (.string y)).far (p := ⟨w.heap.size + 1 + 1, 4, none⟩) hne (.string t)).set_ 0 (.int .i64 k)).set_ 1 (.int .i64 n)).set_ 2 (.string x)).set_ 3 (.string y)).set_ 4 (.string t))
    exact this
  have hB : Below w.heap.size w W := by
    rw [← hW]
    iterate 8 refine Below.setCell ?_ (by simp only; omega) _
    exact HB.out
  have e0 := hk.cell 0 (v := .int .i64 k) rfl
  have e1 := hk.cell 1 (v := .int .i64 n) rfl
  have e2 := hk.cell 2 (v := .string x) rfl
  have e3 := hk.cell 3 (v := .string y) rfl
  have e4 := hk.cell 4 (v := .string t) rfl
  clear hW c04 c10 c11 c12 c13 c14 c20 c21 c22 c23 c24 d10 d11 d12 d13 d14 d22 d23 d24
  refine bodyPost_ret (v := acv ⟨k, n, ⟨x, y⟩, t⟩) ?_ rfl ⟨rfl, hB⟩
  simp [results, Try.results28, go_sem, e0, e1, e2, e3, e4]
set_option maxHeartbeats 1000000 in
theorem szac_b (a : Ac) (l : Int) (w : World) (h : (a.who.a.size : Int) + (a.who.b.size : Int) + (a.what.size : Int) ≤ l) (hl : l ≤ 1048576) :
    Calls Try.prog 27 #[acv a, .int .i64 l] w fun e w' => e = .returned (.int .i64 (l - (a.who.a.size : Int) - (a.who.b.size : Int) - (a.what.size : Int))) ∧ Below w.heap.size w w' := by
  obtain ⟨k, n, ⟨x, y⟩, t⟩ := a
  simp only at h
  have hh : ((han ⟨x, y⟩ : Nat) : Int) = (x.size : Int) + (y.size : Int) := by simp [han]
  have HH := Lib.hid hh; clear hh
  go_enter Try.func27, Try.ntmps27
  go_wp2_with fail
  refine (szha_b ⟨x, y⟩ l _ (by simp only; omega) (by omega)).mono ?_
  rw [HH.out]
  rintro e w1 ⟨rfl, hb⟩
  have b0 : Bk w1 w.heap.size 52 #[.int .i64 k, .int .i64 n, .string x, .string y, .string t] := (Bk.new w _ _).keep hb
  have HB := Lib.hid (bela hb)
  have c04 := b0.cell 4 (v := .string t) rfl
  have hl0 := b0.lt
  clear hb b0
  have hd1 : decide (l - ((x.size : Int) + (y.size : Int)) < 0) = false := by simp; omega
  go_wp2_with fail
  go_ret
  exact ⟨ret_int (by omega), HB.out⟩
set_option maxHeartbeats 1000000 in
theorem szac_no (a : Ac) (l : Int) (w : World) (h : l < (a.who.a.size : Int) + (a.who.b.size : Int) + (a.what.size : Int)) (hs : a.who.a.size ≤ maxLen ∧ a.who.b.size ≤ maxLen ∧ a.what.size ≤ maxLen) (hl : l ≤ 1048576) (hl0 : 0 ≤ l) :
    Calls Try.prog 27 #[acv a, .int .i64 l] w fun e w' => e = .returned (.int .i64 (-1)) ∧ Below w.heap.size w w' := by
  obtain ⟨k, n, ⟨x, y⟩, t⟩ := a
  simp only at h hs
  obtain ⟨s1, s2, s3⟩ := hs
  have S1 := Lib.hid s1; have S2 := Lib.hid s2
  unfold maxLen at s1 s2 s3
  have hh : ((han ⟨x, y⟩ : Nat) : Int) = (x.size : Int) + (y.size : Int) := by simp [han]
  have HH := Lib.hid hh; clear hh
  by_cases hxy : (x.size : Int) + (y.size : Int) ≤ l
  · go_enter Try.func27, Try.ntmps27
    go_wp2_with fail
    refine (szha_b ⟨x, y⟩ l _ (by simp only; omega) (by omega)).mono ?_
    rw [HH.out]
    rintro e w1 ⟨rfl, hb⟩
    have b0 : Bk w1 w.heap.size 52 #[.int .i64 k, .int .i64 n, .string x, .string y, .string t] := (Bk.new w _ _).keep hb
    have HB := Lib.hid (bela hb)
    have c04 := b0.cell 4 (v := .string t) rfl
    have hl0 := b0.lt
    clear hb b0
    have hd1 : decide (l - ((x.size : Int) + (y.size : Int)) < 0) = false := by simp; omega
    go_wp2_with fail
    go_ret
    exact ⟨rfl, HB.out⟩
  · go_enter Try.func27, Try.ntmps27
    go_wp2_with fail
    refine (szha_no ⟨x, y⟩ l _ (by simp only; omega) ⟨S1.out, S2.out⟩ (by omega) (by omega)).mono ?_
    rintro e w1 ⟨rfl, hb⟩
    have HB := Lib.hid (bela hb)
    clear hb
    go_wp2_with fail
    go_ret
    exact ⟨rfl, HB.out⟩
end Go.Proofs.Ytajfglcoigklnaa
