/-
  The drawing of HostRun's inputs.
-/
import Derived.Test.YtkdpambhdjinjaaDrawMore
import Derived.Test.YtkdpambhdjinjaaDrawHost2
import Derived.Test.YtkdpambhdjinjaaBoolS
import Derived.Test.YtkdpambhdjinjaaHost4
namespace Go.Proofs.Ytkdpambhdjinjaa
open Go.ChangeShapes Go.WideShapes Go.ChangeAt Go.RowKit Go.Joins
set_option linter.unusedVariables false
variable {L : Nat}

theorem bvs_app (a b : List Bool) : bvs (a ++ b) = bvs a ++ bvs b := by simp [bvs]
/-- Two rows under way. -/
structure HRI (w wr : World) (L R : Nat) (v1 v2 : Value) (r : Nat) : Prop where
  rows : ∃ (ts : List Int) (gs : List Bool), wr.ownsRow w.heap.size 3 1 v1 r (iv ts) ∧ wr.ownsRow w.heap.size 4 1 v2 r (bvs gs)
  ap1 : v1.ownBlock = none ∨ v1.ownBlock ≠ v2.ownBlock
  ap2 : v2.ownBlock = none ∨ v2.ownBlock ≠ v1.ownBlock
  rdr : Rdr wr L R (110 + 4 * r)
  below : w.grownBy wr (some R)
theorem ownG (g n c : Nat) : (Value.slice (some ⟨g, 0, none⟩) n c).ownBlock = some g := rfl

set_option maxRecDepth 100000 in
set_option maxHeartbeats 8000000 in
theorem dhrun_any (a : Option Addr) (len cap : Nat) (zs : List Int) (w0 w : World) (h : IsCode w0 a len cap zs) (hB : Below w0.heap.size w0 w) :
    Calls Try.prog 24 #[.slice a len cap] w fun e w' => ∃ (s : ByteArray) (f u : Int) (v1 v2 : Value) (n m : Nat) (ts : List Int) (gs : List Bool), e = .returned (.tuple #[sv s f u, v1, v2]) ∧ hostSm s f u ∧ n ≤ 20 ∧ m ≤ 20 ∧ w'.ownsRow w.heap.size 3 1 v1 n (iv ts) ∧ w'.ownsRow w.heap.size 4 1 v2 m (bvs gs) ∧ Below w.heap.size w w' := by
  have H := Lib.hid h; have HB0 := Lib.hid hB
  have hL := hB.size
  clear h hB
  obtain ⟨i0, hi, hz0, hz1, hz2⟩ := info_parts i64_info
  have HI := Lib.hid hi; have HZ0 := Lib.hid hz0; have HZ1 := Lib.hid hz1; have HZ2 := Lib.hid hz2
  clear hi hz0 hz1 hz2
  obtain ⟨i1, hi, hz0, hz1, hz2⟩ := info_parts bool_info
  have JI := Lib.hid hi; have JZ0 := Lib.hid hz0; have JZ1 := Lib.hid hz1; have JZ2 := Lib.hid hz2
  clear hi hz0 hz1 hz2
  go_enter Try.func24, Try.ntmps24
  go_wp2_with fail
  refine (open_any _ _ _ _ _ _ H.out (HB0.out.alloc HB0.out.size _)).mono ?_
  rintro e w1 ⟨R, rfl, hb1, hR1, hR2, hr1⟩
  have HB1 := Lib.hid hb1; have HR1 := Lib.hid hr1; have HL := Lib.hid hL
  have KS : SB (w.alloc (.cells #[.string ⟨#[]⟩, .int .i64 0, .int .i64 0] 26)) w.heap.size ⟨#[]⟩ 0 0 := SB.new w _ _ _ rfl
  have KS1 := Lib.hid (KS.below hb1)
  have HBW1 : Hid (Below w.heap.size w w1) := Lib.hid (below_slot rfl hb1)
  simp only [World.size_alloc] at hR1
  clear hb1 hr1 KS
  go_wp2_with fail
  refine (l20h_any _ _ 0 _ HR1.out (by omega) (by omega)).mono ?_
  rintro e w2 ⟨s, f, u, rfl, hsm, hg, hr⟩
  have HSM := Lib.hid hsm
  have hRS : R ≠ w.heap.size := by omega
  have KS2 : Hid (SB w2 w.heap.size ⟨#[]⟩ 0 0) := Lib.hid ((hg.block w.heap.size KS1.out.lt (fun e => hRS (by injection e with e; exact e.symm))).trans KS1.out)
  have HBW2 : Hid (Below w.heap.size w w2) := Lib.hid (below_of_grown HBW1.out (by omega) hg)
  have HR2 := Lib.hid hr
  have hRlt := rdr_lt hr
  clear hg hr hsm
  go_wp2_with fail
  have hU : SB (w2.alloc (.cells #[.string s, .int .i64 f, .int .i64 u] 26)) w2.heap.size s f u := SB.new w2 _ _ _ rfl
  have hS : SB (w2.alloc (.cells #[.string s, .int .i64 f, .int .i64 u] 26)) w.heap.size ⟨#[]⟩ 0 0 := KS2.out.alloc _
  have hBB : Below w.heap.size w (w2.alloc (.cells #[.string s, .int .i64 f, .int .i64 u] 26)) := HBW2.out.alloc HBW2.out.size _
  have hRR : Rdr (w2.alloc (.cells #[.string s, .int .i64 f, .int .i64 u] 26)) w0.heap.size R 100 := rdr_more (rdr_alloc HR2.out _) (by omega)
  have hWs : (w2.alloc (.cells #[.string s, .int .i64 f, .int .i64 u] 26)).heap.size = w2.heap.size + 1 := by simp
  generalize w2.alloc (.cells #[.string s, .int .i64 f, .int .i64 u] 26) = W at *
  generalize hUdef : w2.heap.size = U at *
  have hRU : R < U := by omega
  have hUW := hU.lt
  have hSW := hS.lt
  have hSU : w.heap.size < U := by have := KS2.out.lt; omega
  have KU := Lib.hid hU; have KS3 := Lib.hid hS; have HBW := Lib.hid hBB; have HRW := Lib.hid hRR
  clear hU hS hBB hRR hUdef KS1 KS2 HBW1 HBW2 HR1 HR2 HB1
  have ho1 : ((W.alloc (.cells #[] 3)).alloc (.cells #[] 4)).ownsRow W.heap.size 3 1 (.slice (some ⟨U + 1, 0, none⟩) 0 0) 0 (iv []) := by
    rw [← hWs]; exact (World.ownsRow_made W #[] 0 (Nat.le_refl _) (by simp) (by simp)).alloc _
  have ho2 : ((W.alloc (.cells #[] 3)).alloc (.cells #[] 4)).ownsRow W.heap.size 4 1 (.slice (some ⟨U + 1 + 1, 0, none⟩) 0 0) 0 (bvs []) := by
    rw [← hWs]
    have := World.ownsRow_made (base := W.heap.size) (e := 4) (size := 1) (W.alloc (.cells #[] 3)) #[] 0 (by simp) (by simp) (by simp)
    simpa [bvs] using this
  have hrr := rdr_alloc (rdr_alloc HRW.out (.cells #[] 3)) (.cells #[] 4)
  have hbb : W.grownBy ((W.alloc (.cells #[] 3)).alloc (.cells #[] 4)) (some R) := only_alloc (World.grownBy_alloc W _ _) _
  generalize (W.alloc (.cells #[] 3)).alloc (.cells #[] 4) = w3 at *
  have HO1 := Lib.hid ho1; have HO2 := Lib.hid ho2; have HRR := Lib.hid hrr; have HBB := Lib.hid hbb
  clear ho1 ho2 hrr hbb hWs
  have hRW : R < W.heap.size := by omega
  refine (pick_any _ _ _ _ HRR.out (by omega)).mono ?_
  rintro e w4 ⟨k1, rfl, hk1, hg3, hr3⟩
  have HO13 := Lib.hid (own_pick HO1.out HRR.out (by decide) hg3); have HO23 := Lib.hid (own_pick HO2.out HRR.out (by decide) hg3)
  have HB3 := Lib.hid (grown_tr HBB.out hg3); have HR3 := Lib.hid hr3
  clear hg3 hr3 HO1 HO2 HBB HRR
  go_wp2_with fail
  refine (pick_any _ _ _ _ HR3.out (by omega)).mono ?_
  rintro e w5 ⟨k2, rfl, hk2, hg4, hr4⟩
  have HO14 := Lib.hid (own_pick HO13.out HR3.out (by decide) hg4); have HO24 := Lib.hid (own_pick HO23.out HR3.out (by decide) hg4)
  have HB4 := Lib.hid (grown_tr HB3.out hg4); have HR4 := Lib.hid hr4
  clear hg4 hr4 HO13 HO23 HB3 HR3
  have hk1' : (k1 : Int) ≤ 100 := by omega
  have hk2' : k2 ≤ 8 := by omega
  clear hk1 hk2
  go_wp2_with fail
  go_loopw [7, 8, 9, 10] (fun v1 v2 z kk wr => ∃ (r j : Nat) (y : Int), r + j ≤ 8 ∧ kk = .int .i64 j ∧ z = .int .i64 y ∧ -300 * (r : Int) ≤ y ∧ y ≤ 100 + 250 * (r : Int) ∧ HRI W wr w0.heap.size R v1 v2 r) (fun _ _ _ kk _ => (intOf kk).toNat)
  case atStart =>
    exact ⟨0, k2, k1, by omega, rfl, rfl, by omega, by omega, ⟨⟨[], [], HO14.out, HO24.out⟩, .inr (by rw [ownG, ownG]; intro e; injection e with e; omega), .inr (by rw [ownG, ownG]; intro e; injection e with e; omega), rdr_more HR4.out (by omega), HB4.out⟩⟩
  case round =>
    clear HO14 HO24 HB4 HR4
    obtain ⟨r, j, y, hrj, rfl, rfl, hy1, hy2, hI⟩ := hrel
    obtain ⟨⟨ts, ds, ho1, ho2⟩, hap1, hap2, hrd, hbl⟩ := hI
    have hsz := hbl.size
    have HO1 := Lib.hid ho1; have HO2 := Lib.hid ho2; have HA1 := Lib.hid hap1; have HA2 := Lib.hid hap2; have HRD := Lib.hid hrd; have HBL := Lib.hid hbl
    clear ho1 ho2 hap1 hap2 hrd hbl
    by_cases hj : 0 < j
    · go_wp2_with (first
        | (at_builtin; refine wpList_append1g _ rfl _ _ 42 rfl W.heap.size 3 i0 (.int .i64 0) 1 8 Try.underlying42 HI.out HZ0.out HZ1.out HZ2.out rfl (by decide) [.int .i64 y] rfl ?c1 _ r (iv ts) _ _ HO1.out rfl rfl _ rfl ?c2 ?c3 ?c4 ?c5 ?_))
      case c1 => intro u hu; simp at hu; subst hu; rfl
      case c2 => simp
      case c3 => simp only [maxLen]; omega
      case c4 => omega
      case c5 => exact hsz
      intro g1 cap1 w5 ho5 hg5 hat5 hgl5
      have HO15 := Lib.hid ho5
      have HO25 := Lib.hid (HO2.out.kept hg5 HA2.out)
      have hRne := own_rdr HO1.out HRD.out (by decide)
      have HR5 := Lib.hid (rdr_grown HRD.out hg5 hRne (fun k hk => by have := (HO1.out.lt k hk).1; have := HBW.out.size; omega))
      have HB5 : Hid (W.grownBy w5 (some R)) := Lib.hid (grown_own HBL.out hg5 HO1.out)
      have HA25 : Hid (u8.ownBlock = none ∨ u8.ownBlock ≠ some g1) := by
        refine Lib.hid ?_
        rcases HA2.out with e | e
        · exact .inl e
        · cases hv : u8.ownBlock with
          | none => exact .inl rfl
          | some q =>
            refine .inr ?_
            have hq := (HO2.out.lt q hv).2
            rcases hat5 with e1 | e1
            · rw [hv, e1] at e; exact e
            · intro e2; injection e2 with e2; omega
      clear ho5 hg5 hRne HO1 HO2 HA1 HA2 HRD HBL hat5
      go_wp2_with fail
      refine (pick_any _ _ _ _ HR5.out (by omega)).mono ?_
      rintro e w7 ⟨k3, rfl, hk3, hg6, hr6⟩
      have HO17 := Lib.hid (own_pick HO15.out HR5.out (by decide) hg6); have HO27 := Lib.hid (own_pick HO25.out HR5.out (by decide) hg6)
      have HB7 : Hid (W.grownBy w7 (some R)) := Lib.hid (grown_tr HB5.out hg6); have HR7 := Lib.hid hr6
      clear hg6 hr6 hk3 HO15 HO25 HB5 HR5
      obtain ⟨gb, hgb⟩ : ∃ x : Bool, ((k3 : Int) == 0) = x := ⟨_, rfl⟩
      go_wp2_with (first
          | (at_builtin; refine wpList_append1g _ rfl _ _ 43 rfl W.heap.size 4 i1 (.bool false) 1 1 Try.underlying43 JI.out JZ0.out JZ1.out JZ2.out rfl (by decide) [_] rfl (fun u hu => by simp at hu; subst hu; rfl) _ r (bvs ds) _ _ HO27.out rfl rfl _ rfl rfl (by simp only [maxLen]; omega) (by omega) HB7.out.size ?_))
      intro g2 cap2 w8 ho8 hg8 hat8 hgl8
      have HO28 := Lib.hid ho8
      have hne : some g1 ≠ u8.ownBlock := fun e => by
        rcases HA25.out with e1 | e1
        · rw [e1] at e; cases e
        · exact e1 e.symm
      have HO18 := Lib.hid (HO17.out.kept hg8 (.inr hne))
      have hg12 : g1 ≠ g2 := fun e => by
        rcases hat8 with e1 | e1
        · rw [e1] at hne; exact hne (by rw [e])
        · have := (HO17.out.lt g1 rfl).2; omega
      have hRne := own_rdr HO27.out HR7.out (by decide)
      have HR8 := Lib.hid (rdr_grown HR7.out hg8 hRne (fun k hk => by have := (HO27.out.lt k hk).1; have := HBW.out.size; omega))
      have HB8 : Hid (W.grownBy w8 (some R)) := Lib.hid (grown_own HB7.out hg8 HO27.out)
      have HG12 := Lib.hid hg12
      clear ho8 hg8 hat8 hne hg12 hRne HO17 HO27 HR7 HB7 HA25
      go_wp2_with fail
      refine (pick_any _ _ _ _ HR8.out (by omega)).mono ?_
      rintro e w9 ⟨k5, rfl, hk5, hg9, hr9⟩
      have HO19 := Lib.hid (own_pick HO18.out HR8.out (by decide) hg9); have HO29 := Lib.hid (own_pick HO28.out HR8.out (by decide) hg9)
      have HB9 := Lib.hid (grown_tr HB8.out hg9); have HR9 := Lib.hid hr9
      clear hg9 hr9 HO18 HO28 HB8 HR8
      go_wp2_with fail
      refine (pick_any _ _ _ _ HR9.out (by omega)).mono ?_
      rintro e wt ⟨k6, rfl, hk6, hgt, hrt⟩
      have HO1t := Lib.hid (own_pick HO19.out HR9.out (by decide) hgt); have HO2t := Lib.hid (own_pick HO29.out HR9.out (by decide) hgt)
      have HBt := Lib.hid (grown_tr HB9.out hgt); have HRt := Lib.hid hrt
      clear hgt hrt HO19 HO29 HB9 HR9
      have hk5' : (k5 : Int) ≤ 249 := by omega
      obtain ⟨q6, hq6, hq6a, hq6b⟩ : ∃ x : Int, (k6 : Int) / 39 = x ∧ 0 ≤ x ∧ x ≤ 1 := ⟨_, rfl, by omega, by omega⟩
      clear hk5 hk6
      go_wp2_with fail
      go_roundw
      case rel => exact ⟨r + 1, j - 1, _, by omega, by go_num, rfl, by omega, by omega, ⟨⟨ts ++ [y], ds ++ [_], by rw [iv_app]; exact HO1t.out, by rw [bvs_app]; exact HO2t.out⟩, .inr (by rw [ownG, ownG]; intro e; injection e with e; exact HG12.out e), .inr (by rw [ownG, ownG]; intro e; injection e with e; exact HG12.out e.symm), rdr_more HRt.out (by omega), HBt.out⟩⟩
      case measure => simp [intOf]; omega
    · obtain rfl : j = 0 := by omega
      go_wp2_with fail
      refine (odd_any _ _ _ _ HRD.out (by omega) (by omega)).mono ?_
      rintro e w5 ⟨ob, rfl, _, hg5, hr5⟩
      have HO15 := Lib.hid (own_pick HO1.out HRD.out (by decide) hg5); have HO25 := Lib.hid (own_pick HO2.out HRD.out (by decide) hg5)
      have HB5 : Hid (W.grownBy w5 (some R)) := Lib.hid (grown_tr HBL.out hg5); have HR5 := Lib.hid hr5
      clear hg5 hr5
      obtain ⟨A1, c1, rfl, _, _, _⟩ := own_form HO15.out
      obtain ⟨A2, c2, rfl, _, _, _⟩ := own_form HO25.out
      cases ob
      · obtain ⟨cz, hcz⟩ : ∃ cz, cz = c2 := ⟨_, rfl⟩
        subst hcz
        have KUz : SB w5 U s f u := (HB5.out.block U hUW (fun e => by injection e with e; omega)).trans KU.out
        have KSz : SB w5 w.heap.size ⟨#[]⟩ 0 0 := (HB5.out.block w.heap.size hSW (fun e => by injection e with e; omega)).trans KS3.out
        obtain ⟨⟨c0, c1', c2'⟩, _⟩ := KUz.cells
        obtain ⟨⟨d0, d1, d2⟩, f0, f1, f2⟩ := KSz.cells
        obtain ⟨⟨t0, t1, t2⟩, _⟩ := (KSz.store s f u).cells
        have T0 := Lib.hid t0; have T1 := Lib.hid t1; have T2 := Lib.hid t2
        have hq1 : some w.heap.size ≠ (Value.slice A1 r c1).ownBlock := own_base HO15.out hSW (Nat.le_refl _)
        have hq2 : some w.heap.size ≠ (Value.slice A2 (r) cz).ownBlock := own_base HO25.out hSW (Nat.le_refl _)
        have Hq1 := Lib.hid hq1; have Hq2 := Lib.hid hq2
        have HBz : Hid (Below w.heap.size w w5) := Lib.hid (below_of_grown HBW.out (by omega) HB5.out)
        clear t0 t1 t2 hq1 hq2 KUz KSz
        go_wp2_with fail
        refine bodyPost_ret (v := .tuple #[sv s f u, .slice A1 r c1, .slice A2 (r) cz]) (by simp [results, Try.results24, go_sem, T0.out, T1.out, T2.out]; try (first | rfl | (and_intros <;> rfl))) rfl ?_
        exact ⟨s, f, u, _, _, r, r, ts, ds, rfl, HSM.out, by omega, by omega, own_less (own_set (own_set (own_set HO15.out Hq1.out _) Hq1.out _) Hq1.out _) HBW.out.size, own_less (own_set (own_set (own_set HO25.out Hq2.out _) Hq2.out _) Hq2.out _) HBW.out.size, ((HBz.out.setCell (Nat.le_refl _) _).setCell (Nat.le_refl _) _).setCell (Nat.le_refl _) _⟩
      · have hA1 : (Value.slice A1 r c1).ownBlock = none ∨ (Value.slice A1 r c1).ownBlock ≠ (Value.slice A2 r c2).ownBlock := HA1.out
        go_wp2_with (first
          | (at_builtin; refine wpList_append1g _ rfl _ _ 43 rfl W.heap.size 4 i1 (.bool false) 1 1 Try.underlying43 JI.out JZ0.out JZ1.out JZ2.out rfl (by decide) [.bool true] rfl (fun u hu => by simp at hu; subst hu; rfl) _ r (bvs ds) _ _ HO25.out rfl rfl _ rfl rfl (by simp only [maxLen]; omega) (by omega) HB5.out.size ?_))
        intro g2 cz w8 ho8 hg8 hat8 hgl8
        have HO28 : Hid (w8.ownsRow W.heap.size 4 1 (.slice (some ⟨g2, 0, none⟩) (r + 1) cz) (r + 1) (bvs (ds ++ [true]))) := Lib.hid (by rw [bvs_app]; exact ho8)
        have HO18 := Lib.hid (HO15.out.kept hg8 hA1)
        have HB8 : Hid (W.grownBy w8 (some R)) := Lib.hid (grown_own HB5.out hg8 HO25.out)
        clear ho8 hg8 hat8
        have KUz : SB w8 U s f u := (HB8.out.block U hUW (fun e => by injection e with e; omega)).trans KU.out
        have KSz : SB w8 w.heap.size ⟨#[]⟩ 0 0 := (HB8.out.block w.heap.size hSW (fun e => by injection e with e; omega)).trans KS3.out
        obtain ⟨⟨c0, c1', c2'⟩, _⟩ := KUz.cells
        obtain ⟨⟨d0, d1, d2⟩, f0, f1, f2⟩ := KSz.cells
        obtain ⟨⟨t0, t1, t2⟩, _⟩ := (KSz.store s f u).cells
        have T0 := Lib.hid t0; have T1 := Lib.hid t1; have T2 := Lib.hid t2
        have hq1 : some w.heap.size ≠ (Value.slice A1 r c1).ownBlock := own_base HO18.out hSW (Nat.le_refl _)
        have hq2 : some w.heap.size ≠ (Value.slice (some ⟨g2, 0, none⟩) (r + 1) cz).ownBlock := own_base HO28.out hSW (Nat.le_refl _)
        have Hq1 := Lib.hid hq1; have Hq2 := Lib.hid hq2
        have HBz : Hid (Below w.heap.size w w8) := Lib.hid (below_of_grown HBW.out (by omega) HB8.out)
        clear t0 t1 t2 hq1 hq2 KUz KSz
        go_wp2_with fail
        refine bodyPost_ret (v := .tuple #[sv s f u, .slice A1 r c1, .slice (some ⟨g2, 0, none⟩) (r + 1) cz]) (by simp [results, Try.results24, go_sem, T0.out, T1.out, T2.out]; try (first | rfl | (and_intros <;> rfl))) rfl ?_
        exact ⟨s, f, u, _, _, r, r + 1, ts, ds ++ [true], rfl, HSM.out, by omega, by omega, own_less (own_set (own_set (own_set HO18.out Hq1.out _) Hq1.out _) Hq1.out _) HBW.out.size, own_less (own_set (own_set (own_set HO28.out Hq2.out _) Hq2.out _) Hq2.out _) HBW.out.size, ((HBz.out.setCell (Nat.le_refl _) _).setCell (Nat.le_refl _) _).setCell (Nat.le_refl _) _⟩
end Go.Proofs.Ytkdpambhdjinjaa
