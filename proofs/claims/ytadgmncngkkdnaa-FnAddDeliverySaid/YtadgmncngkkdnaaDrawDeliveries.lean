/-
  The drawing of lists of deliveries; of AddDelivery's input.
-/
import Derived.Test.YtadgmncngkkdnaaDrawDelivery
namespace Go.Proofs.Ytadgmncngkkdnaa
open Go.ChangeShapes Go.WideShapes Go.ChangeAt Go.RowKit Go.Joins
set_option linter.unusedVariables false
variable {L : Nat}

structure DDI (w wr : World) (L R q : Nat) (v : Value) (n : Nat) (l : List De) : Prop where
  row : wr.ownsRow w.heap.size 25 4 v n (des l)
  small : ∀ z ∈ l, z.b.size ≤ 9
  rdr : Rdr wr L R q
  below : w.grownBy wr (some R)
theorem sm_app {l : List De} {z : De} (h : ∀ z ∈ l, z.b.size ≤ 9) (hz : z.b.size ≤ 9) : ∀ y ∈ l ++ [z], y.b.size ≤ 9 := by
  intro y hy
  rcases List.mem_append.1 hy with h1 | h1
  · exact h y h1
  · simp only [List.mem_cons, List.not_mem_nil, or_false] at h1; subst h1; exact hz
theorem sm_max {l : List De} (h : ∀ z ∈ l, z.b.size ≤ 9) : ∀ z ∈ l, z.b.size ≤ maxLen := fun z hz => by have := h z hz; simp only [maxLen]; omega
set_option maxRecDepth 100000 in
set_option maxHeartbeats 8000000 in
theorem l20des_any (w : World) (R q : Nat) (m : Int) (h : Rdr w L R q) (hq : q ≤ 100) (hm : m ≤ 1000) :
    Calls Try.prog 27 #[.pointer (some ⟨R, 0, none⟩), .int .i64 m] w fun e w' => ∃ (v : Value) (n : Nat) (l : List De), e = .returned v ∧ n ≤ 9 ∧ w'.ownsRow w.heap.size 25 4 v n (des l) ∧ (∀ z ∈ l, z.b.size ≤ 9) ∧ w.grownBy w' (some R) ∧ Rdr w' L R (q + 500) := by
  have H := Lib.hid h
  have hRl := rdr_lt h
  clear h
  obtain ⟨i0, hi, hz0, hz1, hz2⟩ := info_parts de_info
  have HI := Lib.hid hi; have HZ0 := Lib.hid hz0; have HZ1 := Lib.hid hz1; have HZ2 := Lib.hid hz2
  clear hi hz0 hz1 hz2
  go_enter Try.func27, Try.ntmps27
  go_wp2_with fail
  refine (pick_any _ R q _ (rdr_alloc H.out _) (by omega)).mono ?_
  rintro e w1 ⟨k1, rfl, hk1, hg1, hr1⟩
  have hk1' : k1 ≤ 7 := by omega
  have HI1 : Hid (DDI w w1 L R (q + 4) (.slice (some ⟨w.heap.size, 0, none⟩) 0 0) 0 []) := Lib.hid ⟨own_pick (World.ownsRow_made w #[] 0 (Nat.le_refl _) (by simp) (by simp)) (rdr_alloc H.out _) (by decide) hg1, by simp, rdr_more hr1 (by omega), grown_tr (World.grownBy_alloc w _ _) hg1⟩
  clear hk1 hg1 hr1
  go_wp2_with fail
  go_loopw [5, 6] (fun v kk wr => ∃ (j n : Nat) (l : List De), n + j ≤ 7 ∧ kk = .int .i64 j ∧ DDI w wr L R (q + 4 + 45 * (7 - j)) v n l) (fun _ kk _ => (intOf kk).toNat)
  case atStart => exact ⟨k1, 0, [], by omega, rfl, ⟨HI1.out.row, HI1.out.small, rdr_more HI1.out.rdr (by omega), HI1.out.below⟩⟩
  case round =>
    clear HI1
    obtain ⟨j, n, l, hnj, rfl, hI⟩ := hrel
    obtain ⟨ho, hs, hr, hb⟩ := hI
    obtain ⟨A, c, rfl, hnc, hcm, _⟩ := own_form ho
    have HO := Lib.hid ho; have HS := Lib.hid hs; have HR := Lib.hid hr; have HB := Lib.hid hb; have HNC := Lib.hid hnc; have HCM := Lib.hid hcm
    clear ho hs hr hb hnc hcm
    by_cases hj : 0 < j
    · go_wp2_with fail
      refine (l20de_any _ R (q + 4 + 45 * (7 - j)) 0 HR.out (by omega) (by omega)).mono ?_
      rintro e x1 ⟨z, rfl, hz, hx1, hr1⟩
      have HO1 := Lib.hid (own_pick HO.out HR.out (by decide) hx1)
      have HB1 := Lib.hid (grown_trans' HB.out hx1)
      have HR1 := Lib.hid hr1; have HZ := Lib.hid hz
      clear hx1 hr1 hz HO HR HB
      go_wp2_with fail
      refine (sad_any A n c l z x1 (rd_own HO1.out) (by omega) HNC.out HCM.out (sm_max HS.out) (by have := HZ.out; simp only [maxLen]; omega)).mono ?_
      rintro e x2 ⟨v2, rfl, ho2, hb2⟩
      have hRx := rdr_lt HR1.out
      have HO2 := Lib.hid (own_less ho2 HB1.out.size)
      have HR2 := Lib.hid (rdr_below HR1.out hb2 hRx)
      have HB2 := Lib.hid (grown_trans' HB1.out (grown_of_below hb2))
      have HS2 := Lib.hid (adL_small HS.out HZ.out)
      have hlen := adL_len l z
      have hln := own_len HO1.out
      rw [des_len] at hln
      clear ho2 hb2 hRx HO1 HR1 HB1
      go_wp2_with fail
      go_roundw
      case rel => first | exact ⟨j - 1, _, _, by omega, by go_num, ⟨HO2.out, HS2.out, rdr_more HR2.out (by omega), HB2.out⟩⟩ | ((repeat apply Exists.intro); exact ⟨⟨j - 1, _, _, by omega, by go_num, ⟨HO2.out, HS2.out, rdr_more HR2.out (by omega), HB2.out⟩⟩, rfl⟩)
      case measure => simp [intOf]; omega
    · obtain rfl : j = 0 := by omega
      go_wp2_with fail
      refine (odd_any _ R (q + 4 + 45 * (7 - 0)) _ HR.out (by omega) (by omega)).mono ?_
      rintro e x1 ⟨bo, rfl, _, hx1, hr1⟩
      have HO1 := Lib.hid (own_pick HO.out HR.out (by decide) hx1)
      have HB1 := Lib.hid (grown_trans' HB.out hx1)
      have HR1 := Lib.hid hr1
      clear hx1 hr1 HO HR HB
      cases bo
      · go_wp2_with fail
        go_ret
        exact ⟨_, n, l, rfl, by omega, HO1.out, HS.out, HB1.out, rdr_more HR1.out (by omega)⟩
      · go_wp2_with fail
        refine (l20de_any _ R (q + 4 + 45 * (7 - 0) + 1) 1 HR1.out (by omega) (by omega)).mono ?_
        rintro e x2 ⟨z, rfl, hz, hx2, hr2⟩
        have HO2 := Lib.hid (own_pick HO1.out HR1.out (by decide) hx2)
        have HB2 := Lib.hid (grown_trans' HB1.out hx2)
        have HR2 := Lib.hid hr2
        have HS2 := Lib.hid (sm_app HS.out hz)
        have hLR : L ≤ R := by obtain ⟨_, _, _, _, _, _, _, _, _, hh, _⟩ := H.out; exact hh
        clear hx2 hr2 hz HO1 HR1 HB1
        obtain ⟨za, zb, zc, zd⟩ := z
        go_wp2_with (first
          | (at_builtin
             refine wpList_append1 _ rfl _ _ 23 rfl w.heap.size 25 i0 (.agg #[.int .i64 0, .string ⟨#[]⟩, .int .i64 0, .int .i64 0]) 4 40 Try.underlying23 HI.out HZ0.out HZ1.out HZ2.out rfl (by decide) [.int .i64 za, .string zb, .int .i64 zc, .int .i64 zd] rfl (by intro u hu; simp at hu; rcases hu with rfl | rfl | rfl | rfl <;> rfl) _ n (des l) _ _ HO2.out rfl rfl _ rfl rfl (by simp only [maxLen]; omega) (by omega) HB2.out.size ?_
             intro v' w5 ho5 hg5
             have HO5 : Hid (w5.ownsRow w.heap.size 25 4 v' (n + 1) (des (l ++ [(⟨za, zb, zc, zd⟩ : De)]))) := Lib.hid (by rw [des_app, des_one]; exact ho5)
             have hRne : some R ≠ (Value.slice A n c).ownBlock := own_base HO2.out hRl (Nat.le_refl _)
             have HB5 : Hid (w.grownBy w5 (some R)) := Lib.hid (grown_own HB2.out hg5 HO2.out)
             have HR5 := Lib.hid (rdr_grown HR2.out hg5 hRne (fun k hk => by have := (HO2.out.lt k hk).1; omega))
             clear ho5 hg5))
        go_wp2_with fail
        go_ret
        exact ⟨_, n + 1, _, rfl, by omega, HO5.out, HS2.out, HB5.out, rdr_more HR5.out (by omega)⟩

set_option maxHeartbeats 4000000 in
theorem dadd_any (a : Option Addr) (len cap : Nat) (zs : List Int) (w0 w : World) (h : IsCode w0 a len cap zs) (hB : Below w0.heap.size w0 w) :
    Calls Try.prog 8 #[.slice a len cap] w fun e w' => ∃ (v : Value) (n : Nat) (l : List De) (z : De), e = .returned (.tuple #[v, dev z]) ∧ n ≤ 9 ∧ w'.ownsRow w0.heap.size 25 4 v n (des l) ∧ (∀ y ∈ l, y.b.size ≤ 9) ∧ z.b.size ≤ 9 ∧ Below w0.heap.size w0 w' := by
  have HC := Lib.hid h
  have HB := Lib.hid hB
  clear h hB
  go_enter Try.func8, Try.ntmps8
  go_wp2_with fail
  have HBa := Lib.hid (HB.out.alloc HB.out.size (.cells #[.int .i64 0, .string ⟨#[]⟩, .int .i64 0, .int .i64 0] 25))
  refine (open_any a len cap zs w0 _ HC.out HBa.out).mono ?_
  rintro e w1 ⟨R, rfl, hb1, hR1, hR2, hr1⟩
  have hk1 : Bk w1 w.heap.size 25 #[.int .i64 0, .string ⟨#[]⟩, .int .i64 0, .int .i64 0] := (Bk.new w _ _).keep hb1
  have HB1 := Lib.hid (belB HB.out HB.out.size (bela hb1))
  have hRw : w.heap.size < R := by simp at hR1; omega
  have HR1 := Lib.hid hr1; have HK1 := Lib.hid hk1
  clear hb1 hr1 hk1 HBa hR1
  go_wp2_with fail
  refine (l20des_any _ R 0 _ HR1.out (by omega) (by omega)).mono ?_
  rintro e w2 ⟨v, n, l, rfl, hn, ho2, hs2, hg2, hr2⟩
  have hR0 : w0.heap.size ≤ R := by have := HB.out.size; omega
  have HNE : Hid (some w.heap.size ≠ v.ownBlock) := Lib.hid (fun e => by have := (ho2.lt _ e.symm).1; have := HK1.out.lt; omega)
  have HO2 := Lib.hid (own_less ho2 HB1.out.size)
  have HB2 := Lib.hid (below_pick HB1.out hg2 hR0 HB1.out.size)
  have HK2 := Lib.hid (HK1.out.grown hg2 (by intro e; injection e with e; omega))
  have HR2 := Lib.hid hr2; have HS2 := Lib.hid hs2
  have hRs2 : w1.heap.size ≤ w2.heap.size := hg2.size
  clear ho2 hs2 hg2 hr2
  go_wp2_with fail
  refine (l20de_any _ R 500 _ (rdr_more HR2.out (by omega)) (by omega) (by omega)).mono ?_
  rintro e w3 ⟨z, rfl, hz, hg3, hr3⟩
  have HO3 := Lib.hid (own_pick HO2.out HR2.out (by decide) hg3)
  have HB3 := Lib.hid (below_pick HB2.out hg3 hR0 HB2.out.size)
  have hk3 := HK2.out.grown hg3 (by intro e; injection e with e; omega)
  have HZ := Lib.hid hz
  have c0 := hk3.cell 0 (v := .int .i64 0) rfl
  have c1 := hk3.cell 1 (v := .string ⟨#[]⟩) rfl
  have c2 := hk3.cell 2 (v := .int .i64 0) rfl
  have c3 := hk3.cell 3 (v := .int .i64 0) rfl
  have f0 := hk3.free 0
  have f1 := hk3.free 1
  have f2 := hk3.free 2
  have f3 := hk3.free 3
  have hkl := hk3.lt
  have HK3 := Lib.hid hk3
  clear hz hg3 hr3 hk3
  obtain ⟨za, zb, zc, zd⟩ := z
  go_wp2_with fail
  have hk : Bk ((((w3.setCell ⟨w.heap.size, 0, none⟩ (.int .i64 za)).setCell ⟨w.heap.size, 1, none⟩ (.string zb)).setCell ⟨w.heap.size, 2, none⟩ (.int .i64 zc)).setCell ⟨w.heap.size, 3, none⟩ (.int .i64 zd)) w.heap.size 25 #[.int .i64 za, .string zb, .int .i64 zc, .int .i64 zd] := (((HK3.out.set_ 0 _).set_ 1 _).set_ 2 _).set_ 3 _
  have d0 := hk.cell 0 (v := .int .i64 za) rfl
  have d1 := hk.cell 1 (v := .string zb) rfl
  have d2 := hk.cell 2 (v := .int .i64 zc) rfl
  have d3 := hk.cell 3 (v := .int .i64 zd) rfl
  obtain ⟨A, c, rfl, _, _, _⟩ := own_form HO3.out
  refine bodyPost_ret (v := .tuple #[.slice A n c, dev ⟨za, zb, zc, zd⟩]) (by simp [results, Try.results8, go_sem, d0, d1, d2, d3]) rfl ?_
  have hB0 := HB.out.size
  exact ⟨_, n, l, ⟨za, zb, zc, zd⟩, rfl, hn, own_set (own_set (own_set (own_set HO3.out (p := ⟨w.heap.size, 0, none⟩) HNE.out _) (p := ⟨w.heap.size, 1, none⟩) HNE.out _) (p := ⟨w.heap.size, 2, none⟩) HNE.out _) (p := ⟨w.heap.size, 3, none⟩) HNE.out _, HS2.out, HZ.out, (((HB3.out.setCell hB0 _).setCell hB0 _).setCell hB0 _).setCell hB0 _⟩
end Go.Proofs.Ytadgmncngkkdnaa
