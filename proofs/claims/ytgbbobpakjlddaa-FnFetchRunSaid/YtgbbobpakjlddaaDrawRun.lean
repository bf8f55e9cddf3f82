/-
  The drawing of FetchRun's inputs.
-/
import Derived.Test.YtgbbobpakjlddaaDraw
import Derived.Test.YtgbbobpakjlddaaIntS
namespace Go.Proofs.Ytgbbobpakjlddaa
open Go.ChangeShapes Go.WideShapes Go.ChangeAt Go.RowKit Go.Joins
set_option linter.unusedVariables false
variable {L : Nat}

theorem rdr_bk {w : World} {R q : Nat} (h : Rdr w L R q) : ∃ cs, Bk w R 60 cs := by
  obtain ⟨A, m, c, p, hb, _⟩ := h
  exact ⟨_, hb⟩
theorem own_rdr {w : World} {base size n R q : Nat} {e : TypeId} {v : Value} {xs : List Value} (ho : w.ownsRow base e size v n xs) (hr : Rdr w L R q) (hne : e ≠ 60) : some R ≠ v.ownBlock := by
  obtain ⟨cs, hb⟩ := rdr_bk hr
  exact own_bk ho hb hne
theorem rdr_grown {w w' : World} {R q : Nat} {row : Option Nat} (h : Rdr w L R q) (hg : w.grownBy w' row) (hne : some R ≠ row) (hL : ∀ k, row = some k → L ≤ k) : Rdr w' L R q := by
  have hlt := rdr_lt h
  obtain ⟨A, m, c, p, hb, hp, hm, hmc, hc, hLR, hby⟩ := h
  exact ⟨A, m, c, p, (hg.block R hlt hne).trans hb, hp, hm, hmc, hc, hLR, byts_keep hby fun b o hbL => World.cell?_of_block (hg.block b (by omega) (fun e => by have := hL b e.symm; omega))⟩
theorem own_pick {w w' : World} {base size n R q : Nat} {e : TypeId} {v : Value} {xs : List Value} (ho : w.ownsRow base e size v n xs) (hr : Rdr w L R q) (hne : e ≠ 60) (hg : w.grownBy w' (some R)) : w'.ownsRow base e size v n xs :=
  ho.kept hg (.inr (Ne.symm (own_rdr ho hr hne)))
theorem below_pick {B : Nat} {a w w' : World} {R : Nat} (h : Below B a w) (hg : w.grownBy w' (some R)) (hR : B ≤ R) (hB : B ≤ w.heap.size) : Below B a w' := h.grown hg hB (fun k hk => by injection hk with hk; omega)

/-- Two rows under way. -/
structure FRI (w wr : World) (B L R : Nat) (v1 v2 : Value) (r : Nat) : Prop where
  rows : ∃ ts ds : List Int, wr.ownsRow B 3 1 v1 r (iv ts) ∧ wr.ownsRow B 3 1 v2 r (iv ds)
  ap1 : v1.ownBlock = none ∨ v1.ownBlock ≠ v2.ownBlock
  ap2 : v2.ownBlock = none ∨ v2.ownBlock ≠ v1.ownBlock
  rdr : Rdr wr L R (10 + 4 * r)
  below : Below B w wr
  sz : B ≤ wr.heap.size
theorem ownG (g n c : Nat) : (Value.slice (some ⟨g, 0, none⟩) n c).ownBlock = some g := rfl

set_option maxRecDepth 100000 in
set_option maxHeartbeats 4000000 in
theorem dfrun_any (a : Option Addr) (len cap : Nat) (zs : List Int) (w0 w : World) (h : IsCode w0 a len cap zs) (hB : Below w0.heap.size w0 w) :
    Calls Try.prog 29 #[.slice a len cap] w fun e w' => ∃ (v1 v2 : Value) (long : Int) (n m : Nat) (ts ds : List Int), e = .returned (.tuple #[v1, v2, .int .i64 long]) ∧ n ≤ 20 ∧ m ≤ 20 ∧ w'.ownsRow w.heap.size 3 1 v1 n (iv ts) ∧ w'.ownsRow w.heap.size 3 1 v2 m (iv ds) ∧ Below w.heap.size w w' := by
  have H := Lib.hid h; have HB0 := Lib.hid hB
  have hL := hB.size
  clear h hB
  obtain ⟨i0, hi, hz0, hz1, hz2⟩ := info_parts i64_info
  have HI := Lib.hid hi; have HZ0 := Lib.hid hz0; have HZ1 := Lib.hid hz1; have HZ2 := Lib.hid hz2
  clear hi hz0 hz1 hz2
  go_enter Try.func29, Try.ntmps29
  go_wp2_with fail
  refine (open_any _ _ _ _ _ _ H.out HB0.out).mono ?_
  rintro e w1 ⟨R, rfl, hb1, hR1, hR2, hr1⟩
  have HB1 := Lib.hid hb1; have HR1 := Lib.hid hr1; have HL := Lib.hid hL
  have hRw := hR1
  clear hb1 hr1
  go_wp2_with fail
  have ho1 : ((w1.alloc (.cells #[] 3)).alloc (.cells #[] 3)).ownsRow w.heap.size 3 1 (.slice (some ⟨w1.heap.size, 0, none⟩) 0 0) 0 (iv []) := (own_less (World.ownsRow_made w1 #[] 0 (Nat.le_refl _) (by simp) (by simp)) HB1.out.size).alloc _
  have ho2 : ((w1.alloc (.cells #[] 3)).alloc (.cells #[] 3)).ownsRow w.heap.size 3 1 (.slice (some ⟨w1.heap.size + 1, 0, none⟩) 0 0) 0 (iv []) := by
    have := World.ownsRow_made (base := w.heap.size) (e := 3) (size := 1) (w1.alloc (.cells #[] 3)) #[] 0 (by simp; have := HB1.out.size; omega) (by simp) (by simp)
    simpa [iv] using this
  have hrr := rdr_alloc (rdr_alloc HR1.out (.cells #[] 3)) (.cells #[] 3)
  have hbb : Below w.heap.size w ((w1.alloc (.cells #[] 3)).alloc (.cells #[] 3)) := (HB1.out.alloc HB1.out.size _).alloc (by simp; have := HB1.out.size; omega) _
  generalize (w1.alloc (.cells #[] 3)).alloc (.cells #[] 3) = w2 at *
  have HO1 := Lib.hid ho1; have HO2 := Lib.hid ho2; have HRR := Lib.hid hrr; have HBB := Lib.hid hbb
  have hw1w : w.heap.size ≤ w1.heap.size := HB1.out.size
  clear ho1 ho2 hrr hbb
  refine (pick_any _ _ _ _ HRR.out (by omega)).mono ?_
  rintro e w3 ⟨k1, rfl, hk1, hg3, hr3⟩
  have HO13 := Lib.hid (own_pick HO1.out HRR.out (by decide) hg3); have HO23 := Lib.hid (own_pick HO2.out HRR.out (by decide) hg3)
  have HB3 := Lib.hid (below_pick HBB.out hg3 hR1 HBB.out.size); have HR3 := Lib.hid hr3
  clear hg3 hr3 HO1 HO2 HBB HRR
  go_wp2_with fail
  refine (pick_any _ _ _ _ HR3.out (by omega)).mono ?_
  rintro e w4 ⟨k2, rfl, hk2, hg4, hr4⟩
  have HO14 := Lib.hid (own_pick HO13.out HR3.out (by decide) hg4); have HO24 := Lib.hid (own_pick HO23.out HR3.out (by decide) hg4)
  have HB4 := Lib.hid (below_pick HB3.out hg4 hR1 HB3.out.size); have HR4 := Lib.hid hr4
  clear hg4 hr4 HO13 HO23 HB3 HR3
  have hk1' : (k1 : Int) ≤ 20 := by omega
  have hk2' : k2 ≤ 8 := by omega
  clear hk1 hk2
  go_wp2_with fail
  go_loopw [6, 7, 8, 9] (fun v1 v2 z kk wr => ∃ (r j : Nat) (y : Int), r + j ≤ 8 ∧ kk = .int .i64 j ∧ z = .int .i64 y ∧ -30 * (r : Int) ≤ y ∧ y ≤ 20 + 20 * (r : Int) ∧ FRI w wr w.heap.size w0.heap.size R v1 v2 r) (fun _ _ _ kk _ => (intOf kk).toNat)
  case atStart =>
    exact ⟨0, k2, k1, by omega, rfl, rfl, by omega, by omega, ⟨⟨[], [], HO14.out, HO24.out⟩, .inr (by rw [ownG, ownG]; intro e; injection e with e; omega), .inr (by rw [ownG, ownG]; intro e; injection e with e; omega), rdr_more HR4.out (by omega), HB4.out, HB4.out.size⟩⟩
  case round =>
    clear HO14 HO24 HB4 HR4
    obtain ⟨r, j, y, hrj, rfl, rfl, hy1, hy2, hI⟩ := hrel
    obtain ⟨⟨ts, ds, ho1, ho2⟩, hap1, hap2, hrd, hbl, hsz⟩ := hI
    have HO1 := Lib.hid ho1; have HO2 := Lib.hid ho2; have HA1 := Lib.hid hap1; have HA2 := Lib.hid hap2; have HRD := Lib.hid hrd; have HBL := Lib.hid hbl
    clear ho1 ho2 hap1 hap2 hrd hbl
    by_cases hj : 0 < j
    · go_wp2_with (first
        | (at_builtin; refine wpList_append1g _ rfl _ _ 33 rfl w.heap.size 3 i0 (.int .i64 0) 1 8 Try.underlying33 HI.out HZ0.out HZ1.out HZ2.out rfl (by decide) [.int .i64 y] rfl ?c1 _ r (iv ts) _ _ HO1.out rfl rfl _ rfl ?c2 ?c3 ?c4 ?c5 ?_))
      case c1 => intro u hu; simp at hu; subst hu; rfl
      case c2 => simp
      case c3 => simp only [maxLen]; omega
      case c4 => omega
      case c5 => exact hsz
      intro g1 cap1 w5 ho5 hg5 hat5 hgl5
      have HO15 := Lib.hid ho5
      have HO25 := Lib.hid (HO2.out.kept hg5 HA2.out)
      have hRne := own_rdr HO1.out HRD.out (by decide)
      have HR5 := Lib.hid (rdr_grown HRD.out hg5 hRne (fun k hk => by have := (HO1.out.lt k hk).1; omega))
      have HB5 := Lib.hid (HBL.out.grown hg5 HBL.out.size (fun k hk => (HO1.out.lt k hk).1))
      have HA25 : Hid (u7.ownBlock = none ∨ u7.ownBlock ≠ some g1) := by
        refine Lib.hid ?_
        rcases HA2.out with e | e
        · exact .inl e
        · cases hv : u7.ownBlock with
          | none => exact .inl rfl
          | some q =>
            refine .inr ?_
            have hq := (HO2.out.lt q hv).2
            rcases hat5 with e1 | e1
            · rw [hv, e1] at e; exact e
            · intro e2; injection e2 with e2; omega
      clear ho5 hg5 hRne HO1 HO2 HA1 HA2 HRD HBL hat5
      go_wp2_with fail
      refine (pick_any _ _ _ _ HR5.out (by omega)).mono ?_
      rintro e w6 ⟨k3, rfl, hk3, hg6, hr6⟩
      have HO16 := Lib.hid (own_pick HO15.out HR5.out (by decide) hg6); have HO26 := Lib.hid (own_pick HO25.out HR5.out (by decide) hg6)
      have HB6 := Lib.hid (below_pick HB5.out hg6 hR1 HB5.out.size); have HR6 := Lib.hid hr6
      clear hg6 hr6 hk3 HO15 HO25 HB5 HR5
      go_wp2_with fail
      refine (pick_any _ _ _ _ (rdr_alloc HR6.out _) (by omega)).mono ?_
      rintro e w7 ⟨k4, rfl, hk4, hg7, hr7⟩
      have hc0 : w7.cell? ⟨w6.heap.size, 0, none⟩ = some (.int .i64 k3) := hg7.cell (a := ⟨w6.heap.size, 0, none⟩) (by simp [go_sem]) (fun e => by injection e with e; have := rdr_lt HR6.out; simp at e; omega)
      have hc1 : w7.cell? ⟨w6.heap.size, 1, none⟩ = some (.int .i64 (-1)) := hg7.cell (a := ⟨w6.heap.size, 1, none⟩) (by simp [go_sem]) (fun e => by injection e with e; have := rdr_lt HR6.out; simp at e; omega)
      have HO17 := Lib.hid (own_pick (HO16.out.alloc _) (rdr_alloc HR6.out _) (by decide) hg7); have HO27 := Lib.hid (own_pick (HO26.out.alloc _) (rdr_alloc HR6.out _) (by decide) hg7)
      have HB7 := Lib.hid (below_pick (HB6.out.alloc HB6.out.size _) hg7 hR1 (by simp; have := HB6.out.size; omega)); have HR7 := Lib.hid hr7
      have hk4' : (k4 : Int) ≤ 59 := by omega
      have hsz7 : w6.heap.size < w7.heap.size := by have := hg7.size; simp at this; omega
      clear hg7 hr7 hk4 HO16 HO26 HB6 HR6
      obtain ⟨qz, hqz⟩ : ∃ x, (k4 : Int) / 59 = x := ⟨_, rfl⟩
      have hq01 : qz = 0 ∨ qz = 1 := by omega
      rcases hq01 with rfl | rfl
      all_goals
        go_wp2_with (first
          | (at_builtin; refine wpList_append1g _ rfl _ _ 33 rfl w.heap.size 3 i0 (.int .i64 0) 1 8 Try.underlying33 HI.out HZ0.out HZ1.out HZ2.out rfl (by decide) [_] rfl (fun u hu => by simp at hu; subst hu; rfl) _ r (iv ds) _ _ HO27.out rfl rfl _ rfl rfl (by simp only [maxLen]; omega) (by omega) HB7.out.size ?_))
        intro g2 cap2 w8 ho8 hg8 hat8 hgl8
        have HO28 := Lib.hid ho8
        have hne : some g1 ≠ u7.ownBlock := fun e => by
          rcases HA25.out with e1 | e1
          · rw [e1] at e; cases e
          · exact e1 e.symm
        have HO18 := Lib.hid (HO17.out.kept hg8 (.inr hne))
        have hg12 : g1 ≠ g2 := fun e => by
          rcases hat8 with e1 | e1
          · rw [e1] at hne; exact hne (by rw [e])
          · have := (HO17.out.lt g1 rfl).2; omega
        have hRne := own_rdr HO27.out HR7.out (by decide)
        have HR8 := Lib.hid (rdr_grown HR7.out hg8 hRne (fun k hk => by have := (HO27.out.lt k hk).1; omega))
        have HB8 := Lib.hid (HB7.out.grown hg8 HB7.out.size (fun k hk => (HO27.out.lt k hk).1))
        have HG12 := Lib.hid hg12
        clear ho8 hg8 hat8 hne hg12 hRne HO17 HO27 HR7 HB7 hc0 hc1 HA25
        go_wp2_with fail
        refine (pick_any _ _ _ _ HR8.out (by omega)).mono ?_
        rintro e w9 ⟨k5, rfl, hk5, hg9, hr9⟩
        have HO19 := Lib.hid (own_pick HO18.out HR8.out (by decide) hg9); have HO29 := Lib.hid (own_pick HO28.out HR8.out (by decide) hg9)
        have HB9 := Lib.hid (below_pick HB8.out hg9 hR1 HB8.out.size); have HR9 := Lib.hid hr9
        clear hg9 hr9 HO18 HO28 HB8 HR8
        go_wp2_with fail
        refine (pick_any _ _ _ _ HR9.out (by omega)).mono ?_
        rintro e wt ⟨k6, rfl, hk6, hgt, hrt⟩
        have HO1t := Lib.hid (own_pick HO19.out HR9.out (by decide) hgt); have HO2t := Lib.hid (own_pick HO29.out HR9.out (by decide) hgt)
        have HBt := Lib.hid (below_pick HB9.out hgt hR1 HB9.out.size); have HRt := Lib.hid hrt
        clear hgt hrt HO19 HO29 HB9 HR9
        have hk5' : (k5 : Int) ≤ 20 := by omega
        obtain ⟨q6, hq6, hq6a, hq6b⟩ : ∃ x : Int, (k6 : Int) / 39 = x ∧ 0 ≤ x ∧ x ≤ 1 := ⟨_, rfl, by omega, by omega⟩
        clear hk5 hk6
        go_wp2_with fail
        go_roundw
        case rel =>
          first
            | exact ⟨r + 1, j - 1, _, by omega, by go_num, rfl, by omega, by omega, ⟨⟨ts ++ [y], ds ++ [(k3 : Int)], by rw [iv_app]; exact HO1t.out, by rw [iv_app]; exact HO2t.out⟩, .inr (by rw [ownG, ownG]; intro e; injection e with e; exact HG12.out e), .inr (by rw [ownG, ownG]; intro e; injection e with e; exact HG12.out e.symm), rdr_more HRt.out (by omega), HBt.out, HBt.out.size⟩⟩
            | exact ⟨r + 1, j - 1, _, by omega, by go_num, rfl, by omega, by omega, ⟨⟨ts ++ [y], ds ++ [(-1 : Int)], by rw [iv_app]; exact HO1t.out, by rw [iv_app]; exact HO2t.out⟩, .inr (by rw [ownG, ownG]; intro e; injection e with e; exact HG12.out e), .inr (by rw [ownG, ownG]; intro e; injection e with e; exact HG12.out e.symm), rdr_more HRt.out (by omega), HBt.out, HBt.out.size⟩⟩
        case measure => simp [intOf]; omega
    · obtain rfl : j = 0 := by omega
      go_wp2_with fail
      refine (odd_any _ _ _ _ HRD.out (by omega) (by omega)).mono ?_
      rintro e w5 ⟨ob, rfl, _, hg5, hr5⟩
      have HO15 := Lib.hid (own_pick HO1.out HRD.out (by decide) hg5); have HO25 := Lib.hid (own_pick HO2.out HRD.out (by decide) hg5)
      have HB5 := Lib.hid (below_pick HBL.out hg5 hR1 HBL.out.size); have HR5 := Lib.hid hr5
      clear hg5 hr5
      cases ob
      · go_wp2_with fail
        refine (pick_any _ _ _ _ HR5.out (by omega)).mono ?_
        rintro e w11 ⟨k5, rfl, hk5, hg11, hr11⟩
        have HO1x := Lib.hid (own_pick HO15.out HR5.out (by decide) hg11); have HO2x := Lib.hid (own_pick HO25.out HR5.out (by decide) hg11)
        have HBx := Lib.hid (below_pick HB5.out hg11 hR1 HB5.out.size); have HRx := Lib.hid hr11
        clear hg11 hr11
        go_wp2_with fail
        refine (pick_any _ _ _ _ HRx.out (by omega)).mono ?_
        rintro e w12 ⟨k6, rfl, hk6, hg12, hr12⟩
        have HO1y := Lib.hid (own_pick HO1x.out HRx.out (by decide) hg12); have HO2y := Lib.hid (own_pick HO2x.out HRx.out (by decide) hg12)
        have HBy := Lib.hid (below_pick HBx.out hg12 hR1 HBx.out.size)
        clear hg12 hr12 hk5 hk6
        go_wp2_with fail
        refine bodyPost_ret (v := .tuple #[u6, u7, .int .i64 _]) (by simp [results, Try.results29, go_sem]; rfl) rfl ⟨u6, u7, _, r, r, ts, ds, rfl, by omega, by omega, HO1y.out, HO2y.out, HBy.out⟩
      · go_wp2_with (first
          | (at_builtin; refine wpList_append1g _ rfl _ _ 33 rfl w.heap.size 3 i0 (.int .i64 0) 1 8 Try.underlying33 HI.out HZ0.out HZ1.out HZ2.out rfl (by decide) [.int .i64 1] rfl (fun u hu => by simp at hu; subst hu; rfl) _ r (iv ds) _ _ HO25.out rfl rfl _ rfl rfl (by simp only [maxLen]; omega) (by omega) HB5.out.size ?_))
        intro g2 cap2 w8 ho8 hg8 hat8 hgl8
        have HO28 := Lib.hid ho8
        have HA2x : Hid (u6.ownBlock = none ∨ u6.ownBlock ≠ u7.ownBlock) := HA1
        have HO18 := Lib.hid (HO15.out.kept hg8 HA2x.out)
        have hRne := own_rdr HO25.out HR5.out (by decide)
        have HR8 := Lib.hid (rdr_grown HR5.out hg8 hRne (fun k hk => by have := (HO25.out.lt k hk).1; omega))
        have HB8 := Lib.hid (HB5.out.grown hg8 HB5.out.size (fun k hk => (HO25.out.lt k hk).1))
        clear ho8 hg8 hat8 hRne
        go_wp2_with fail
        refine (pick_any _ _ _ _ HR8.out (by omega)).mono ?_
        rintro e w11 ⟨k5, rfl, hk5, hg11, hr11⟩
        have HO1x := Lib.hid (own_pick HO18.out HR8.out (by decide) hg11); have HO2x := Lib.hid (own_pick HO28.out HR8.out (by decide) hg11)
        have HBx := Lib.hid (below_pick HB8.out hg11 hR1 HB8.out.size); have HRx := Lib.hid hr11
        clear hg11 hr11
        go_wp2_with fail
        refine (pick_any _ _ _ _ HRx.out (by omega)).mono ?_
        rintro e w12 ⟨k6, rfl, hk6, hg12, hr12⟩
        have HO1y := Lib.hid (own_pick HO1x.out HRx.out (by decide) hg12); have HO2y := Lib.hid (own_pick HO2x.out HRx.out (by decide) hg12)
        have HBy := Lib.hid (below_pick HBx.out hg12 hR1 HBx.out.size)
        clear hg12 hr12 hk5 hk6
        go_wp2_with fail
        refine bodyPost_ret (v := .tuple #[u6, .slice (some ⟨g2, 0, none⟩) (r + 1) cap2, .int .i64 _]) (by simp [results, Try.results29, go_sem]; rfl) rfl ⟨u6, _, _, r, r + 1, ts, ds ++ [1], rfl, by omega, by omega, HO1y.out, by rw [iv_app]; exact HO2y.out, HBy.out⟩
end Go.Proofs.Ytgbbobpakjlddaa
