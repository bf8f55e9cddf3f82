/-
  The contract of FetchRun of the reference.
-/
import Derived.Test.YtgbbobpakjlddaaRun
import Derived.Deep.AppendLies
namespace Go.Proofs.Ytgbbobpakjlddaa
open Go.ChangeShapes Go.WideShapes Go.ChangeAt Go.RowKit Go.Joins
set_option linter.unusedVariables false

theorem l1In_q (n lo hi : Int) (w : World) : Calls Try.prog 31 #[.int .i64 n, .int .i64 lo, .int .i64 hi] w fun e w' => e = .returned (.bool (wi n lo hi)) ∧ w' = w :=
  (l1In_any n lo hi w).mono fun _ _ h => ⟨h.1, h.2.symm⟩
theorem own_kb {w : World} {base n g : Nat} {v : Value} {xs : List Value} {a b : Int} (h : w.ownsRow base 3 1 v n xs) (hk : KB w g a b) : some g ≠ v.ownBlock := by
  rcases h.2 with ⟨rfl, _⟩ | ⟨g', cap, cur, rfl, _, hh, _⟩
  · simp [Value.ownBlock]
  · intro he
    have : g = g' := by simpa [Value.ownBlock] using he
    subst this
    unfold KB at hk
    rw [hk] at hh
    injection hh with hh
    injection hh with _ ht
    exact absurd ht (by decide)
theorem own_set {w : World} {base size n : Nat} {e : TypeId} {v : Value} {xs : List Value} (h : w.ownsRow base e size v n xs) {p : Addr} (hp : some p.block ≠ v.ownBlock) (u : Value) : (w.setCell p u).ownsRow base e size v n xs :=
  h.kept (row := some p.block) ⟨rfl, rfl, rfl, by simp [World.setCell], fun k _ hne => Below.heap_setCell w p u k (fun e => hne (by rw [e]))⟩ (.inr (Ne.symm hp))
/-- What a round of the reference's FetchRun has seen. -/
def SG (n m : Nat) (long : Int) (k : Nat) : Prop := 0 < k → (n = m ∧ n ≤ 20 ∧ wi long 0 1000000 = true)
theorem SG_0 (n m : Nat) (long : Int) : SG n m long 0 := fun h => absurd h (by omega)
theorem KB.new' (W : World) {g : Nat} (a b : Int) (hg : g = W.heap.size) : KB (W.alloc (.cells #[.int .i64 a, .int .i64 b] 25)) g a b := by subst hg; exact KB.new W a b
theorem own_empty (w : World) (e : TypeId) (size : Nat) : (w.alloc (.cells #[] e)).ownsRow w.heap.size e size (.slice (some ⟨w.heap.size, 0, none⟩) 0 0) 0 [] :=
  World.ownsRow_made w #[] 0 (Nat.le_refl _) (by simp) (by simp)

set_option maxRecDepth 100000 in
set_option maxHeartbeats 8000000 in
theorem sfr_any (A B : Option Addr) (n c m d : Nat) (ts ds : List Int) (long : Int) (w : World) (h1 : Rd w 1 A n (iv ts)) (h2 : Rd w 1 B m (iv ds)) (hn : n ≤ 1048576) (hm : m ≤ 1048576) :
    Calls Try.prog 19 #[.slice A n c, .slice B m d, .int .i64 long] w fun e w' => ∃ v, e = .returned v ∧ w'.ownsRow w.heap.size 3 1 v (frR ts ds long).length (iv (frR ts ds long)) ∧ Below w.heap.size w w' := by
  have hl1 := rd_ilen h1; have hl2 := rd_ilen h2
  have H1 := Lib.hid h1; have H2 := Lib.hid h2; have L1 := Lib.hid hl1; have L2 := Lib.hid hl2; have HN := Lib.hid hn
  clear h1 h2 hl1 hl2
  obtain ⟨i0, hi, hz0, hz1, hz2⟩ := info_parts i64_info
  have HI := Lib.hid hi; have HZ0 := Lib.hid hz0; have HZ1 := Lib.hid hz1; have HZ2 := Lib.hid hz2
  clear hi hz0 hz1 hz2
  generalize hr : frR ts ds long = R
  have HR := Lib.hid hr
  clear hr
  go_enter Try.func19, Try.ntmps19
  go_wp2_with fail
  go_loopw [7, 9] (fun v i wr => ∃ k : Nat, k ≤ n ∧ i = .int .i64 k ∧ wr.ownsRow w.heap.size 3 1 v k (iv (frL ts ds long k)) ∧ KB wr (w.heap.size + 1) (frK ts ds long k).1 (frK ts ds long k).2 ∧ (tvTo ts k ∧ dTo ds k ∧ SG n m long k) ∧ Below w.heap.size w wr)
    (fun _ i _ => n - (intOf i).toNat)
  case atStart => exact ⟨0, Nat.zero_le _, rfl, (own_empty w _ _).alloc _, KB.new' _ _ _ (by simp), ⟨tvTo_0 _, dTo_0 _, SG_0 _ _ _⟩, ((Below.refl _ _).alloc (Nat.le_refl _) _).alloc (by simp) _⟩
  case round =>
    obtain ⟨k, hk, rfl, ho, hkb, hd, hb⟩ := hrel
    by_cases hlt : k < n
    · obtain ⟨b, off, z, rfl, hbl, hz, hc⟩ := H1.out.iv hlt
      have hc' := (hb.cell (p := ⟨b, off + k, none⟩) hbl).trans hc
      have hkn := hlt
      have HO := Lib.hid ho; have HK := Lib.hid hkb; have HD := Lib.hid hd; have HB := Lib.hid hb; have HZ := Lib.hid hz
      clear ho hkb hd hb hc hz
      by_cases hnm : n = m
      · subst hnm
        by_cases h20 : n ≤ 20
        · have hd20 : decide ((20 : Int) < (n : Int)) = false := by simp; omega
          cases hlg : wi long 0 1000000
          · have HE : Hid (R = []) := Lib.hid (by rw [← HR.out]; exact frR_no3 hlg)
            go_wp2_with fail
            go_quiet ((go_at_call 31; exact Calls.quiet_of_same (l1In_q _ _ _ _)))
            go_wp2
            go_ret
            exact ⟨_, rfl, by rw [HE.out]; exact own_less (own_empty _ _ _) HB.out.size, (bdN HB.out _).alloc HB.out.size _⟩
          · cases hw : wi z 0 1000000
            · have HE : Hid (R = []) := Lib.hid (by rw [← HR.out]; exact frR_no2 (tvB_bad (by rw [L1.out]; exact hlt) (tOk_bad1 HZ.out hw)).symm)
              go_wp2_with fail
              go_quiet ((go_at_call 31; exact Calls.quiet_of_same (l1In_q _ _ _ _)))
              go_wp2
              go_ret
              exact ⟨_, rfl, by rw [HE.out]; exact own_less (own_empty _ _ _) HB.out.size, (bdN HB.out _).alloc HB.out.size _⟩
            · obtain ⟨b2, off2, dg, rfl, hbl2, hdg, hc2⟩ := H2.out.iv hlt
              have hc2' := (HB.out.cell (p := ⟨b2, off2 + k, none⟩) hbl2).trans hc2
              have HDG := Lib.hid hdg; clear hdg hc2
              cases hwd : wi dg 0 999982
              · cases k with
                | zero =>
                  have hc0 : wr.cell? ⟨b, off, none⟩ = some (.int .i64 z) := hc'
                  have hc20 : wr.cell? ⟨b2, off2, none⟩ = some (.int .i64 dg) := hc2'
                  clear hc' hc2'
                  have HE : Hid (R = []) := Lib.hid (by rw [← HR.out]; exact frR_no4 (by rw [L1.out]; exact hlt) (by unfold dOk; rw [getD_of HDG.out]; exact hwd))
                  go_wp2_with fail
                  go_quiet ((go_at_call 31; exact Calls.quiet_of_same (l1In_q _ _ _ _)))
                  go_wp2
                  go_ret
                  exact ⟨_, rfl, by rw [HE.out]; exact own_less (own_empty _ _ _) HB.out.size, (bdN HB.out _).alloc HB.out.size _⟩
                | succ k =>
                  obtain ⟨b', off', y, e', hbl', hy, hcy⟩ := H1.out.iv (show k < n by omega)
                  injection e' with e'; injection e' with e1 e2
                  subst e1; subst e2
                  have hcy' := (HB.out.cell (p := ⟨b, off + k, none⟩) hbl).trans hcy
                  have HY := Lib.hid hy; clear hy hcy
                  by_cases hyz : z < y
                  · have hdd : decide (z < y) = true := by simpa using hyz
                    have HE : Hid (R = []) := Lib.hid (by rw [← HR.out]; exact frR_no2 (tvB_bad (by rw [L1.out]; exact hlt) (by rw [tOk_s HZ.out HY.out hw]; simp; omega)).symm)
                    go_wp2_with fail
                    go_quiet ((go_at_call 31; exact Calls.quiet_of_same (l1In_q _ _ _ _)))
                    go_wp2
                    go_ret
                    exact ⟨_, rfl, by rw [HE.out]; exact own_less (own_empty _ _ _) HB.out.size, (bdN HB.out _).alloc HB.out.size _⟩
                  · have hdd : decide (z < y) = false := by simpa using hyz
                    have HE : Hid (R = []) := Lib.hid (by rw [← HR.out]; exact frR_no4 (by rw [L1.out]; exact hlt) (by unfold dOk; rw [getD_of HDG.out]; exact hwd))
                    go_wp2_with fail
                    go_quiet ((go_at_call 31; exact Calls.quiet_of_same (l1In_q _ _ _ _)))
                    go_wp2
                    go_ret
                    exact ⟨_, rfl, by rw [HE.out]; exact own_less (own_empty _ _ _) HB.out.size, (bdN HB.out _).alloc HB.out.size _⟩
              · cases k with
                | zero =>
                  have hc0 : wr.cell? ⟨b, off, none⟩ = some (.int .i64 z) := hc'
                  have hc20 : wr.cell? ⟨b2, off2, none⟩ = some (.int .i64 dg) := hc2'
                  clear hc' hc2'
                  have HTO : Hid (tOk ts 0 = true) := Lib.hid (tOk_0 HZ.out hw)
                  have HDO : Hid (dOk ds 0 = true) := Lib.hid (by unfold dOk; rw [getD_of HDG.out]; exact hwd)
                  have hsucc := frL_succ ts ds long (0)
                  have HX1 : Hid (frK ts ds long (0 + 1) = (kfA (frK ts ds long (0)).1 (frK ts ds long (0)).2 z dg long, kfB (frK ts ds long (0)).1 (frK ts ds long (0)).2 z dg long)) := by
                    rw [← getD_of HZ.out, ← getD_of HDG.out]; exact Lib.hid rfl
                  generalize hx : frC ts ds long (0) = x
                  have HX : Hid (fc (frK ts ds long (0)).1 (frK ts ds long (0)).2 z dg = x) := by rw [← hx, ← getD_of HZ.out, ← getD_of HDG.out]; exact Lib.hid rfl
                  have HXC := Lib.hid hx; have HS := Lib.hid hsucc
                  clear hx hsucc
                  generalize hka : (frK ts ds long (0)).1 = ka at *
                  generalize hkb' : (frK ts ds long (0)).2 = kb at *
                  clear hka hkb'
                  generalize hya : kfA ka kb z dg long = ya at *
                  generalize hyb : kfB ka kb z dg long = yb at *
                  have HYA := Lib.hid hya; have HYB := Lib.hid hyb; clear hya hyb
                  go_wp2_with fail
                  go_quiet ((go_at_call 31; exact Calls.quiet_of_same (l1In_q _ _ _ _)))
                  have HO2 : Hid ((wr.drewN nq).ownsRow w.heap.size 3 1 u7 (0) (iv (frL ts ds long (0)))) := HO.out
                  have HK2 : Hid (KB (wr.drewN nq) (w.heap.size + 1) ka kb) := HK.out
                  have HB2 : Hid (Below w.heap.size w (wr.drewN nq)) := bdN HB.out nq
                  have hz2 : (wr.drewN nq).cell? ⟨b, off, none⟩ = some (.int .i64 z) := hc0
                  have hdg2 : (wr.drewN nq).cell? ⟨b2, off2, none⟩ = some (.int .i64 dg) := hc20
                  generalize wr.drewN nq = w2 at *
                  clear HO HK HB hc0 hc20
                  obtain ⟨⟨g0, g1⟩, f0, f1⟩ := HK2.out.cells
                  have hgl := HK2.out.lt
                  go_wp2_with fail
                  have hne0 := own_kb HO2.out HK2.out
                  have hne1 : some b ≠ u7.ownBlock := own_base HO2.out hbl (Nat.le_refl _)
                  have hne2 : some b2 ≠ u7.ownBlock := own_base HO2.out hbl2 (Nat.le_refl _)
                  go_region_held3 (fun w' => (w'.cell? ⟨w.heap.size + 1, 0, none⟩ = some (.int .i64 ka) ∧ w'.cell? ⟨w.heap.size + 1, 1, none⟩ = some (.int .i64 kb)) ∧ w'.cell? ⟨b, off, none⟩ = some (.int .i64 z) ∧ w'.cell? ⟨b2, off2, none⟩ = some (.int .i64 dg))
                    (refine ⟨⟨?_, ?_⟩, ?_, ?_⟩ <;> (try refine drew_some ?_) <;> (repeat refine alloc_some ?_ _) <;> assumption)
                    (first
                      | (go_at_call 14; refine (sfc_any _ _ _ _ _).mono ?_; rw [HX.out]; rintro e w1 ⟨rfl, o1, o2, rfl⟩)
                      | (refine step_append_lies _ (by rfl) _ _ _ (by rfl) w.heap.size 3 i0 (.int .i64 0) 1 8 Try.underlying33 HI.out HZ0.out HZ1.out HZ2.out rfl (by omega) u7 (0) (iv (frL ts ds long (0))) (by rfl) ((((HO2.out.alloc _).alloc _).alloc _).drew)
                           ⟨w2.heap.size + 1 + 1, 0, none⟩ 1 1 [.int .i64 x] (by rfl) (by rfl) (World.news_of_block (cs := #[.int .i64 x]) (t := 3) (fr := (0, 0)) (new_blk ((w2.alloc o1).alloc o2) _ (by simp))) (by simp [Value.oneCell'])
                           (by omega) (by simp only [maxLen]; omega) (by omega) (by simp; have := HB2.out.size; omega) (w2.heap.size + 1 + 1 + 1) (by simp) ?_
                         intro gg cap w3 ho3 hgrow hat hlt3
                         have hk30 := hgrow.cell (drew_some (alloc_some (alloc_some (alloc_some g0 _) _) _)) hne0
                         have hk31 := hgrow.cell (drew_some (alloc_some (alloc_some (alloc_some g1 _) _) _)) hne0
                         have hz3 := hgrow.cell (drew_some (alloc_some (alloc_some (alloc_some hz2 _) _) _)) hne1
                         have hdg3 := hgrow.cell (drew_some (alloc_some (alloc_some (alloc_some hdg2 _) _) _)) hne2))
                  have hkb3 : KB w3 (w.heap.size + 1) ka kb := ((((HK2.out.alloc _).alloc _).alloc _).drew).grown hgrow hne0
                  have hb3 : Below w.heap.size w w3 := ((((HB2.out.alloc HB2.out.size _).alloc (by simp; have := HB2.out.size; omega) _).alloc (by simp; have := HB2.out.size; omega) _).drew).grown hgrow (by simp; have := HB2.out.size; omega) (fun j hj => (HO2.out.lt _ hj).1)
                  obtain ⟨⟨g0', g1'⟩, f0', f1'⟩ := hkb3.cells
                  have hgl' := hkb3.lt
                  have HO3 := Lib.hid ho3; have HK3 := Lib.hid hkb3; have HB3 := Lib.hid hb3
                  clear ho3 hgrow hkb3 hb3 hz2 hdg2 hk30 hk31
                  go_wp2_with fail
                  go_still_tail 10, (by kernel_rfl)
                  change wpList _ _ _ _ _ w3.drew
                  go_wp2_with fail
                  refine (skf_any _ _ _ _ _ _).mono ?_
                  rw [HYA.out, HYB.out]
                  rintro e w4 ⟨rfl, p1, p2, p3, p4, hw4⟩
                  have hb4 := beld (bel4 hw4)
                  clear hw4
                  have hk4 := HK3.out.below hb4
                  have hgl4 := hk4.lt
                  obtain ⟨⟨g04, g14⟩, f04, f14⟩ := hk4.cells
                  have HB4 := Lib.hid hb4; have HK4 := Lib.hid hk4
                  clear hb4 hk4
                  go_wp2
                  go_roundw
                  case rel =>
                    refine ⟨0 + 1, by omega, by go_num, ?_, ?_, ⟨tvTo_succ HD.out.1 HTO.out, dTo_succ HD.out.2.1 HDO.out, fun _ => ⟨rfl, h20, hlg⟩⟩, ?_⟩
                    · rw [HS.out, HXC.out, iv_app]
                      have hne := own_kb HO3.out HK3.out
                      exact own_set (own_set (own_below HO3.out HB4.out) hne _) hne _
                    · rw [HX1.out]
                      exact HK4.out.store _ _
                    · exact ((belB HB3.out HB3.out.size HB4.out).setCell (by simp) _).setCell (by simp) _
                  case measure => simp [intOf]; omega
                | succ k =>
                  obtain ⟨b', off', y, e', hbl', hy, hcy⟩ := H1.out.iv (show k < n by omega)
                  injection e' with e'; injection e' with e1 e2
                  subst e1; subst e2
                  have hcy' := (HB.out.cell (p := ⟨b, off + k, none⟩) hbl).trans hcy
                  have HY := Lib.hid hy; clear hy hcy
                  by_cases hyz : z < y
                  · have hdd : decide (z < y) = true := by simpa using hyz
                    have HE : Hid (R = []) := Lib.hid (by rw [← HR.out]; exact frR_no2 (tvB_bad (by rw [L1.out]; exact hlt) (by rw [tOk_s HZ.out HY.out hw]; simp; omega)).symm)
                    go_wp2_with fail
                    go_quiet ((go_at_call 31; exact Calls.quiet_of_same (l1In_q _ _ _ _)))
                    go_wp2
                    go_ret
                    exact ⟨_, rfl, by rw [HE.out]; exact own_less (own_empty _ _ _) HB.out.size, (bdN HB.out _).alloc HB.out.size _⟩
                  · have hdd : decide (z < y) = false := by simpa using hyz
                    have HYZ : Hid (y ≤ z) := Lib.hid (by omega)
                    have HTO : Hid (tOk ts (k + 1) = true) := Lib.hid (by rw [tOk_s HZ.out HY.out hw]; simpa using HYZ.out)
                    have HDO : Hid (dOk ds (k + 1) = true) := Lib.hid (by unfold dOk; rw [getD_of HDG.out]; exact hwd)
                    have hsucc := frL_succ ts ds long (k + 1)
                    have HX1 : Hid (frK ts ds long (k + 1 + 1) = (kfA (frK ts ds long (k + 1)).1 (frK ts ds long (k + 1)).2 z dg long, kfB (frK ts ds long (k + 1)).1 (frK ts ds long (k + 1)).2 z dg long)) := by
                      rw [← getD_of HZ.out, ← getD_of HDG.out]; exact Lib.hid rfl
                    generalize hx : frC ts ds long (k + 1) = x
                    have HX : Hid (fc (frK ts ds long (k + 1)).1 (frK ts ds long (k + 1)).2 z dg = x) := by rw [← hx, ← getD_of HZ.out, ← getD_of HDG.out]; exact Lib.hid rfl
                    have HXC := Lib.hid hx; have HS := Lib.hid hsucc
                    clear hx hsucc
                    generalize hka : (frK ts ds long (k + 1)).1 = ka at *
                    generalize hkb' : (frK ts ds long (k + 1)).2 = kb at *
                    clear hka hkb'
                    generalize hya : kfA ka kb z dg long = ya at *
                    generalize hyb : kfB ka kb z dg long = yb at *
                    have HYA := Lib.hid hya; have HYB := Lib.hid hyb; clear hya hyb
                    go_wp2_with fail
                    go_quiet ((go_at_call 31; exact Calls.quiet_of_same (l1In_q _ _ _ _)))
                    have HO2 : Hid ((wr.drewN nq).ownsRow w.heap.size 3 1 u7 (k + 1) (iv (frL ts ds long (k + 1)))) := HO.out
                    have HK2 : Hid (KB (wr.drewN nq) (w.heap.size + 1) ka kb) := HK.out
                    have HB2 : Hid (Below w.heap.size w (wr.drewN nq)) := bdN HB.out nq
                    have hz2 : (wr.drewN nq).cell? ⟨b, off + (k + 1), none⟩ = some (.int .i64 z) := hc'
                    have hdg2 : (wr.drewN nq).cell? ⟨b2, off2 + (k + 1), none⟩ = some (.int .i64 dg) := hc2'
                    generalize wr.drewN nq = w2 at *
                    clear HO HK HB hc' hc2'
                    obtain ⟨⟨g0, g1⟩, f0, f1⟩ := HK2.out.cells
                    have hgl := HK2.out.lt
                    go_wp2_with fail
                    have hne0 := own_kb HO2.out HK2.out
                    have hne1 : some b ≠ u7.ownBlock := own_base HO2.out hbl (Nat.le_refl _)
                    have hne2 : some b2 ≠ u7.ownBlock := own_base HO2.out hbl2 (Nat.le_refl _)
                    have i1 : (0 : Int) ≤ (k : Int) + 1 := by omega
                    have i3 : (k : Int) + 1 < (n : Int) := by omega
                    have i2 : ((k : Int) + 1).toNat = k + 1 := by omega
                    go_region_held3 (fun w' => (w'.cell? ⟨w.heap.size + 1, 0, none⟩ = some (.int .i64 ka) ∧ w'.cell? ⟨w.heap.size + 1, 1, none⟩ = some (.int .i64 kb)) ∧ w'.cell? ⟨b, off + (k + 1), none⟩ = some (.int .i64 z) ∧ w'.cell? ⟨b2, off2 + (k + 1), none⟩ = some (.int .i64 dg))
                      (refine ⟨⟨?_, ?_⟩, ?_, ?_⟩ <;> (try refine drew_some ?_) <;> (repeat refine alloc_some ?_ _) <;> assumption)
                      (first
                        | (go_at_call 14; refine (sfc_any _ _ _ _ _).mono ?_; rw [HX.out]; rintro e w1 ⟨rfl, o1, o2, rfl⟩)
                        | (refine step_append_lies _ (by rfl) _ _ _ (by rfl) w.heap.size 3 i0 (.int .i64 0) 1 8 Try.underlying33 HI.out HZ0.out HZ1.out HZ2.out rfl (by omega) u7 (k + 1) (iv (frL ts ds long (k + 1))) (by rfl) ((((HO2.out.alloc _).alloc _).alloc _).drew)
                             ⟨w2.heap.size + 1 + 1, 0, none⟩ 1 1 [.int .i64 x] (by rfl) (by rfl) (World.news_of_block (cs := #[.int .i64 x]) (t := 3) (fr := (0, 0)) (new_blk ((w2.alloc o1).alloc o2) _ (by simp))) (by simp [Value.oneCell'])
                             (by omega) (by simp only [maxLen]; omega) (by omega) (by simp; have := HB2.out.size; omega) (w2.heap.size + 1 + 1 + 1) (by simp) ?_
                           intro gg cap w3 ho3 hgrow hat hlt3
                           have hk30 := hgrow.cell (drew_some (alloc_some (alloc_some (alloc_some g0 _) _) _)) hne0
                           have hk31 := hgrow.cell (drew_some (alloc_some (alloc_some (alloc_some g1 _) _) _)) hne0
                           have hz3 := hgrow.cell (drew_some (alloc_some (alloc_some (alloc_some hz2 _) _) _)) hne1
                           have hdg3 := hgrow.cell (drew_some (alloc_some (alloc_some (alloc_some hdg2 _) _) _)) hne2))
                    have hkb3 : KB w3 (w.heap.size + 1) ka kb := ((((HK2.out.alloc _).alloc _).alloc _).drew).grown hgrow hne0
                    have hb3 : Below w.heap.size w w3 := ((((HB2.out.alloc HB2.out.size _).alloc (by simp; have := HB2.out.size; omega) _).alloc (by simp; have := HB2.out.size; omega) _).drew).grown hgrow (by simp; have := HB2.out.size; omega) (fun j hj => (HO2.out.lt _ hj).1)
                    obtain ⟨⟨g0', g1'⟩, f0', f1'⟩ := hkb3.cells
                    have hgl' := hkb3.lt
                    have HO3 := Lib.hid ho3; have HK3 := Lib.hid hkb3; have HB3 := Lib.hid hb3
                    clear ho3 hgrow hkb3 hb3 hz2 hdg2 hk30 hk31
                    go_wp2_with fail
                    go_still_tail 10, (by kernel_rfl)
                    change wpList _ _ _ _ _ w3.drew
                    clear i1 i2 i3
                    go_wp2_with fail
                    refine (skf_any _ _ _ _ _ _).mono ?_
                    rw [HYA.out, HYB.out]
                    rintro e w4 ⟨rfl, p1, p2, p3, p4, hw4⟩
                    have hb4 := beld (bel4 hw4)
                    clear hw4
                    have hk4 := HK3.out.below hb4
                    have hgl4 := hk4.lt
                    obtain ⟨⟨g04, g14⟩, f04, f14⟩ := hk4.cells
                    have HB4 := Lib.hid hb4; have HK4 := Lib.hid hk4
                    clear hb4 hk4
                    go_wp2
                    go_roundw
                    case rel =>
                      refine ⟨k + 1 + 1, by omega, by go_num, ?_, ?_, ⟨tvTo_succ HD.out.1 HTO.out, dTo_succ HD.out.2.1 HDO.out, fun _ => ⟨rfl, h20, hlg⟩⟩, ?_⟩
                      · rw [HS.out, HXC.out, iv_app]
                        have hne := own_kb HO3.out HK3.out
                        exact own_set (own_set (own_below HO3.out HB4.out) hne _) hne _
                      · rw [HX1.out]
                        exact HK4.out.store _ _
                      · exact ((belB HB3.out HB3.out.size HB4.out).setCell (by simp) _).setCell (by simp) _
                    case measure => simp [intOf]; omega
        · have hd20 : decide ((20 : Int) < (n : Int)) = true := by simp; omega
          have HE : Hid (R = []) := Lib.hid (by rw [← HR.out]; exact frR_no2 (tvB_long (by rw [L1.out]; omega)).symm)
          go_wp2_with fail
          go_quiet ((go_at_call 31; exact Calls.quiet_of_same (l1In_q _ _ _ _)))
          go_wp2
          go_ret
          exact ⟨_, rfl, by rw [HE.out]; exact own_less (own_empty _ _ _) HB.out.size, (bdN HB.out _).alloc HB.out.size _⟩
      · have hnm' : ((n : Int) != (m : Int)) = true := by simp; omega
        have HNM := Lib.hid hnm; clear hnm
        have HE : Hid (R = []) := Lib.hid (by rw [← HR.out]; exact frR_no1 (by rw [L1.out, L2.out]; exact HNM.out))
        go_wp2_with fail
        go_quiet ((go_at_call 31; exact Calls.quiet_of_same (l1In_q _ _ _ _)))
        go_wp2
        go_ret
        exact ⟨_, rfl, by rw [HE.out]; exact own_less (own_empty _ _ _) HB.out.size, (bdN HB.out _).alloc HB.out.size _⟩
    · obtain rfl : k = n := by omega
      have HO := Lib.hid ho; have HK := Lib.hid hkb; have HD := Lib.hid hd; have HB := Lib.hid hb
      clear ho hkb hd hb
      have HE : Hid (R = frL ts ds long k) := by
        refine Lib.hid ?_
        rw [← HR.out]
        rcases Nat.eq_zero_or_pos k with h0 | h0
        · rw [frR_0 (by rw [L1.out]; exact h0), h0]; rfl
        · obtain ⟨g1, g2, g3⟩ := HD.out.2.2 h0
          rw [frR_yes (by rw [L1.out, L2.out]; exact g1) (tvB_iff.2 ⟨by rw [L1.out]; exact g2, by rw [L1.out]; exact HD.out.1⟩) g3 (by rw [L1.out]; exact HD.out.2.1), L1.out]
      go_wp2_with fail
      go_ret
      exact ⟨_, rfl, by rw [HE.out, frL_len]; exact HO.out, HB.out⟩
end Go.Proofs.Ytgbbobpakjlddaa
