/-
  The drawing of lists of blocks.
-/
import Derived.Test.YtajfglcoigklnaaDrawMore
import Derived.Test.YtajfglcoigklnaaDrawBlock
import Derived.Test.YtajfglcoigklnaaBlocksV
import Derived.Test.YtajfglcoigklnaaAppendAny
namespace Go.Proofs.Ytajfglcoigklnaa
open Go.ChangeShapes Go.WideShapes Go.ChangeAt Go.RowKit Go.Joins
set_option linter.unusedVariables false
variable {L : Nat}

structure DWI (w wr : World) (L R q : Nat) (v : Value) (n : Nat) (l : List Bl) : Prop where
  row : wr.ownsRow w.heap.size 26 3 v n (bls l)
  small : ∀ z ∈ l, z.a.size ≤ 9
  rdr : Rdr wr L R q
  below : w.grownBy wr (some R)

theorem bls_oneC (l : List Bl) : ∀ u ∈ bls l, u.oneCell' = true := by
  intro u hu
  simp only [bls, List.mem_flatMap, blc, List.mem_cons, List.not_mem_nil, or_false] at hu
  obtain ⟨z, _, rfl | rfl | rfl⟩ := hu <;> rfl
set_option maxRecDepth 100000 in
set_option maxHeartbeats 80000000 in
theorem l20bls_any (w : World) (R q : Nat) (m : Int) (h : Rdr w L R q) (hq : q ≤ 100) (hm : m ≤ 1000) :
    Calls Try.prog 45 #[.pointer (some ⟨R, 0, none⟩), .int .i64 m] w fun e w' => ∃ (v : Value) (n : Nat) (l : List Bl), e = .returned v ∧ n ≤ 6 ∧ w'.ownsRow w.heap.size 26 3 v n (bls l) ∧ (∀ z ∈ l, z.a.size ≤ 9) ∧ w.grownBy w' (some R) ∧ Rdr w' L R (q + 300) := by
  have H := Lib.hid h
  have hRl := rdr_lt h
  clear h
  obtain ⟨i0, hi, hz0, hz1, hz2⟩ := info_parts bl_info
  have HI := Lib.hid hi; have HZ0 := Lib.hid hz0; have HZ1 := Lib.hid hz1; have HZ2 := Lib.hid hz2
  clear hi hz0 hz1 hz2
  go_enter Try.func45, Try.ntmps45
  go_wp2_with fail
  refine (pick_any _ _ _ _ (rdr_alloc H.out _) (by omega)).mono ?_
  rintro e w1 ⟨k1, rfl, hk1, hg1, hr1⟩
  have hk1' : k1 ≤ 4 := by omega
  have HI1 : Hid (DWI w w1 L R (q + 4) (.slice (some ⟨w.heap.size, 0, none⟩) 0 0) 0 []) := Lib.hid ⟨own_pick (World.ownsRow_made w #[] 0 (Nat.le_refl _) (by simp) (by simp)) (rdr_alloc H.out _) (by decide) hg1, by simp, rdr_more hr1 (by omega), grown_tr (World.grownBy_alloc w _ _) hg1⟩
  clear hk1 hg1 hr1
  go_wp2_with fail
  go_loopw [5, 6] (fun v kk wr => ∃ (j n : Nat) (l : List Bl), n + j ≤ 4 ∧ kk = .int .i64 j ∧ DWI w wr L R (q + 4 + 50 * (4 - j)) v n l) (fun _ kk _ => (intOf kk).toNat)
  case atStart => exact ⟨k1, 0, [], by omega, rfl, ⟨HI1.out.row, HI1.out.small, rdr_more HI1.out.rdr (by omega), HI1.out.below⟩⟩
  case round =>
    clear HI1
    obtain ⟨j, n, l, hnj, rfl, hI⟩ := hrel
    obtain ⟨ho, hs, hr, hb⟩ := hI
    have HO := Lib.hid ho; have HS := Lib.hid hs; have HR := Lib.hid hr; have HB := Lib.hid hb
    clear ho hs hr hb
    by_cases hj : 0 < j
    · go_wp2_with fail
      refine (l20bl_any _ _ (q + 4 + 50 * (4 - j)) _ HR.out (by omega) (by omega)).mono ?_
      rintro e x1 ⟨s, pe, po, rfl, hs1, hx1, hr1⟩
      have HO1 := Lib.hid (own_pick HO.out HR.out (by decide) hx1)
      have HB1 := Lib.hid (grown_trans' HB.out hx1)
      have hgw : wr.heap.size ≤ x1.heap.size := hx1.size
      have sz0 : w.heap.size ≤ wr.heap.size := HB.out.size
      have hLR : L ≤ R := by obtain ⟨_, _, _, _, _, _, _, _, _, hh, _⟩ := H.out; exact hh
      have Hr1 := Lib.hid hr1
      clear hx1 hr1
      go_wp2_with fail
      have hK : Bk (x1.alloc (.cells #[.string s, .bool pe, .bool po] 26)) x1.heap.size 26 #[.string s, .bool pe, .bool po] := Bk.new x1 26 #[.string s, .bool pe, .bool po]
      have hO : (x1.alloc (.cells #[.string s, .bool pe, .bool po] 26)).ownsRow w.heap.size 26 3 u5 n (bls l) := HO1.out.alloc _
      have hRr : Rdr (x1.alloc (.cells #[.string s, .bool pe, .bool po] 26)) L R (q + 4 + 50 * (4 - j) + 40) := rdr_alloc Hr1.out _
      have hBr : w.grownBy (x1.alloc (.cells #[.string s, .bool pe, .bool po] 26)) (some R) := only_alloc HB1.out _
      generalize x1.alloc (.cells #[.string s, .bool pe, .bool po] 26) = wq at *
      generalize x1.heap.size = gq at *
      clear HO1 HB1 Hr1
      obtain ⟨A, c, rfl, hnc, hcm, _⟩ := own_form hO
      have k0 := hK.cell 0 (v := .string s) rfl
      have k1' := hK.cell 1 (v := .bool pe) rfl
      have k2'' := hK.cell 2 (v := .bool po) rfl
      have hgl := hK.lt
      have hszq := hBr.size
      have HK := Lib.hid hK; have HOq := Lib.hid hO; have HRq := Lib.hid hRr; have HBq := Lib.hid hBr; have HS1 := Lib.hid hs1
      have HRE : Hid (Reads wq wq.heap.size 3 A n (bls l)) := Lib.hid (reads_of_rd (rd_own hO) (by omega))
      have HRL : Hid (R < wq.heap.size) := Lib.hid (rdr_lt hRr)
      have HLW : Hid (L ≤ w.heap.size) := Lib.hid (by omega)
      have hNB : n + 1 ≤ maxLen := by simp only [maxLen]; omega
      have hSB : ∀ z ∈ l ++ [(⟨s, pe, po⟩ : Bl)], z.a.size ≤ maxLen := by
        intro z hz
        simp only [maxLen]
        rcases List.mem_append.1 hz with h | h
        · have := HS.out z h; omega
        · simp only [List.mem_cons, List.not_mem_nil, or_false] at h; subst h; simp only; omega
      have HNB := Lib.hid hNB; have HSB := Lib.hid hSB
      have HM0 : Hid (0 + n ≤ maxLen) := Lib.hid (by simp only [maxLen]; omega)
      have HM1 : Hid ((0 + n) * 24 ≤ 140737488355328) := Lib.hid (by omega)
      have HM2 : Hid (n + 1 ≤ maxLen) := Lib.hid hNB
      have HM3 : Hid ((n + 1) * 24 ≤ 140737488355328) := Lib.hid (by omega)
      have HW0 : Hid (w.heap.size ≤ wq.heap.size) := Lib.hid hszq
      have HW1 : Hid (w.heap.size ≤ wq.heap.size + 1) := Lib.hid (by omega)
      have HN0 : Hid (some gq ≠ some wq.heap.size) := Lib.hid (by intro e; injection e with e; omega)
      have HN1 : Hid (some gq ≠ some (wq.heap.size + 1)) := Lib.hid (by intro e; injection e with e; omega)
      have HN2 : Hid (some (wq.heap.size + 1) ≠ some wq.heap.size) := Lib.hid (by intro e; injection e with e; omega)
      have HN3 : Hid (some wq.heap.size ≠ some (wq.heap.size + 1)) := Lib.hid (by intro e; injection e with e; omega)
      have HOC : Hid (∀ u ∈ blc (⟨s, pe, po⟩ : Bl), u.oneCell' = true) := Lib.hid (by intro u hu; simp [blc] at hu; rcases hu with rfl | rfl | rfl <;> rfl)
      clear hK hO hRr hBr hs1 hNB hSB
      go_wp2_with fail
      go_region_held3 (fun w' => w'.cell? ⟨gq, 0, none⟩ = some (.string s) ∧ w'.cell? ⟨gq, 1, none⟩ = some (.bool pe) ∧ w'.cell? ⟨gq, 2, none⟩ = some (.bool po))
        (refine ⟨?_, ?_, ?_⟩ <;> (try refine drew_some ?_) <;> (repeat refine alloc_some ?_ _) <;> assumption)
        (first
          | (refine step_append_any _ rfl _ _ _ rfl wq.heap.size 26 i0 (.agg #[.string ⟨#[]⟩, .bool false, .bool false]) 3 24 Try.underlying34 HI.out HZ0.out HZ1.out HZ2.out rfl (by omega) (.slice (some ⟨wq.heap.size, 0, none⟩) 0 0) 0 [] rfl ?_ wq.heap.size A n c (bls l) rfl ?_ (bls_oneC l) HM0.out HM1.out ?_ ?_
             · exact own_zero (new_blk wq _ rfl) (Nat.le_refl _)
             · exact (Reads.alloc HRE.out (Nat.le_refl _) _)
             · exact (al1_le wq _ (Nat.le_refl _))
             intro v1 w1 hown1 hg1 hat1
             simp only [Nat.zero_add, List.nil_append] at hown1
             obtain ⟨A1, c1, rfl, _, _, _⟩ := own_form hown1
             have HBa : Hid (Below wq.heap.size wq w1) := Lib.hid (bw1 hg1 (Nat.le_refl _))
             have e0 : w1.cell? ⟨gq, 0, none⟩ = some (.string s) := (HBa.out.cell (p := ⟨gq, 0, none⟩) hgl).trans k0
             have e1 : w1.cell? ⟨gq, 1, none⟩ = some (.bool pe) := (HBa.out.cell (p := ⟨gq, 1, none⟩) hgl).trans k1'
             have e2 : w1.cell? ⟨gq, 2, none⟩ = some (.bool po) := (HBa.out.cell (p := ⟨gq, 2, none⟩) hgl).trans k2''
             have Hown1 := Lib.hid hown1
             clear hg1 hown1 hat1)
          | (refine step_append_any _ rfl _ _ _ rfl wq.heap.size 26 i0 (.agg #[.string ⟨#[]⟩, .bool false, .bool false]) 3 24 Try.underlying34 HI.out HZ0.out HZ1.out HZ2.out rfl (by omega) (.slice (some ⟨wq.heap.size, 0, none⟩) 0 0) 0 [] rfl ?_ wq.heap.size A n c (bls l) rfl ?_ (bls_oneC l) HM0.out HM1.out ?_ ?_
             · exact own_zero (blk_under wq _ _) (Nat.le_refl _)
             · exact (reads_al2 HRE.out _ _)
             · exact (al2_le wq _ _ (Nat.le_refl _))
             intro v1 w1 hown1 hg1 hat1
             simp only [Nat.zero_add, List.nil_append] at hown1
             obtain ⟨A1, c1, rfl, _, _, _⟩ := own_form hown1
             have HBa : Hid (Below wq.heap.size wq w1) := Lib.hid (bw2 hg1 (Nat.le_refl _))
             have HZB : Hid (Bk w1 (wq.heap.size + 1) 26 #[.string s, .bool pe, .bool po]) := Lib.hid (Bk.grown (Bk.drew (bk_over wq _ 26 #[.string s, .bool pe, .bool po])) hg1 HN2.out)
             have e0 : w1.cell? ⟨gq, 0, none⟩ = some (.string s) := (HBa.out.cell (p := ⟨gq, 0, none⟩) hgl).trans k0
             have e1 : w1.cell? ⟨gq, 1, none⟩ = some (.bool pe) := (HBa.out.cell (p := ⟨gq, 1, none⟩) hgl).trans k1'
             have e2 : w1.cell? ⟨gq, 2, none⟩ = some (.bool po) := (HBa.out.cell (p := ⟨gq, 2, none⟩) hgl).trans k2''
             have Hown1 := Lib.hid hown1
             clear hg1 hown1 hat1)
          | (refine step_append_any _ rfl _ _ _ rfl wq.heap.size 26 i0 (.agg #[.string ⟨#[]⟩, .bool false, .bool false]) 3 24 Try.underlying34 HI.out HZ0.out HZ1.out HZ2.out rfl (by omega) (.slice (some ⟨wq.heap.size + 1, 0, none⟩) 0 0) 0 [] rfl ?_ wq.heap.size A n c (bls l) rfl ?_ (bls_oneC l) HM0.out HM1.out ?_ ?_
             · exact own_zero (blk_over wq _ _) (Nat.le_succ _)
             · exact (reads_al2 HRE.out _ _)
             · exact (al2_le wq _ _ (Nat.le_refl _))
             intro v1 w1 hown1 hg1 hat1
             simp only [Nat.zero_add, List.nil_append] at hown1
             obtain ⟨A1, c1, rfl, _, _, _⟩ := own_form hown1
             have HBa : Hid (Below wq.heap.size wq w1) := Lib.hid (bw2 hg1 (Nat.le_succ _))
             have HZC : Hid (Bk w1 wq.heap.size 26 #[.string s, .bool pe, .bool po]) := Lib.hid (Bk.grown (Bk.drew ((Bk.new wq 26 #[.string s, .bool pe, .bool po]).alloc _)) hg1 HN3.out)
             have e0 : w1.cell? ⟨gq, 0, none⟩ = some (.string s) := (HBa.out.cell (p := ⟨gq, 0, none⟩) hgl).trans k0
             have e1 : w1.cell? ⟨gq, 1, none⟩ = some (.bool pe) := (HBa.out.cell (p := ⟨gq, 1, none⟩) hgl).trans k1'
             have e2 : w1.cell? ⟨gq, 2, none⟩ = some (.bool po) := (HBa.out.cell (p := ⟨gq, 2, none⟩) hgl).trans k2''
             have Hown1 := Lib.hid hown1
             clear hg1 hown1 hat1)
          | (refine step_append_any _ rfl _ _ _ rfl wq.heap.size 26 i0 (.agg #[.string ⟨#[]⟩, .bool false, .bool false]) 3 24 Try.underlying34 HI.out HZ0.out HZ1.out HZ2.out rfl (by omega) (.slice A1 n c1) n (bls l) rfl ?_ (w1.heap.size + 1) (some ⟨w1.heap.size, 0, none⟩) 1 1 (blc (⟨s, pe, po⟩ : Bl)) rfl ?_ HOC.out HM2.out HM3.out ?_ ?_
             · exact (Hown1.out.alloc _)
             · exact (reads_bk' (Bk.new w1 26 #[.string s, .bool pe, .bool po]) rfl (Nat.lt_succ_self _))
             · exact (al1_le w1 _ HBa.out.size)
             intro v2 w2 hown2 hg2 hat2
             obtain ⟨A2, c2, rfl, _, _, _⟩ := own_form hown2
             have HBb : Hid (Below wq.heap.size wq w2) := Lib.hid (bw4 HBa.out HBa.out.size Hown1.out hg2)
             have f0 : w2.cell? ⟨gq, 0, none⟩ = some (.string s) := (HBb.out.cell (p := ⟨gq, 0, none⟩) hgl).trans k0
             have f1 : w2.cell? ⟨gq, 1, none⟩ = some (.bool pe) := (HBb.out.cell (p := ⟨gq, 1, none⟩) hgl).trans k1'
             have f2 : w2.cell? ⟨gq, 2, none⟩ = some (.bool po) := (HBb.out.cell (p := ⟨gq, 2, none⟩) hgl).trans k2''
             have hRB : Rd w2 3 A2 (n + 1) (bls (l ++ [(⟨s, pe, po⟩ : Bl)])) := by rw [bls_app, bls_one]; exact rd_own hown2
             have HRB := Lib.hid hRB
             clear hg2 hown2 hat2 hRB)
          | (refine step_append_any _ rfl _ _ _ rfl wq.heap.size 26 i0 (.agg #[.string ⟨#[]⟩, .bool false, .bool false]) 3 24 Try.underlying34 HI.out HZ0.out HZ1.out HZ2.out rfl (by omega) (.slice A1 n c1) n (bls l) rfl ?_ ((wq.heap.size + 1) + 1) (some ⟨(wq.heap.size + 1), 0, none⟩) 1 1 (blc (⟨s, pe, po⟩ : Bl)) rfl ?_ HOC.out HM2.out HM3.out ?_ ?_
             · exact Hown1.out
             · exact (reads_bk' HZB.out rfl (Nat.lt_succ_self _))
             · exact HBa.out.size
             intro v2 w2 hown2 hg2 hat2
             obtain ⟨A2, c2, rfl, _, _, _⟩ := own_form hown2
             have HBb : Hid (Below wq.heap.size wq w2) := Lib.hid (bw3 HBa.out HBa.out.size Hown1.out hg2)
             have f0 : w2.cell? ⟨gq, 0, none⟩ = some (.string s) := (HBb.out.cell (p := ⟨gq, 0, none⟩) hgl).trans k0
             have f1 : w2.cell? ⟨gq, 1, none⟩ = some (.bool pe) := (HBb.out.cell (p := ⟨gq, 1, none⟩) hgl).trans k1'
             have f2 : w2.cell? ⟨gq, 2, none⟩ = some (.bool po) := (HBb.out.cell (p := ⟨gq, 2, none⟩) hgl).trans k2''
             have hRB : Rd w2 3 A2 (n + 1) (bls (l ++ [(⟨s, pe, po⟩ : Bl)])) := by rw [bls_app, bls_one]; exact rd_own hown2
             have HRB := Lib.hid hRB
             clear hg2 hown2 hat2 hRB)
          | (refine step_append_any _ rfl _ _ _ rfl wq.heap.size 26 i0 (.agg #[.string ⟨#[]⟩, .bool false, .bool false]) 3 24 Try.underlying34 HI.out HZ0.out HZ1.out HZ2.out rfl (by omega) (.slice A1 n c1) n (bls l) rfl ?_ (wq.heap.size + 1) (some ⟨wq.heap.size, 0, none⟩) 1 1 (blc (⟨s, pe, po⟩ : Bl)) rfl ?_ HOC.out HM2.out HM3.out ?_ ?_
             · exact Hown1.out
             · exact (reads_bk' HZC.out rfl (Nat.lt_succ_self _))
             · exact HBa.out.size
             intro v2 w2 hown2 hg2 hat2
             obtain ⟨A2, c2, rfl, _, _, _⟩ := own_form hown2
             have HBb : Hid (Below wq.heap.size wq w2) := Lib.hid (bw3 HBa.out HBa.out.size Hown1.out hg2)
             have f0 : w2.cell? ⟨gq, 0, none⟩ = some (.string s) := (HBb.out.cell (p := ⟨gq, 0, none⟩) hgl).trans k0
             have f1 : w2.cell? ⟨gq, 1, none⟩ = some (.bool pe) := (HBb.out.cell (p := ⟨gq, 1, none⟩) hgl).trans k1'
             have f2 : w2.cell? ⟨gq, 2, none⟩ = some (.bool po) := (HBb.out.cell (p := ⟨gq, 2, none⟩) hgl).trans k2''
             have hRB : Rd w2 3 A2 (n + 1) (bls (l ++ [(⟨s, pe, po⟩ : Bl)])) := by rw [bls_app, bls_one]; exact rd_own hown2
             have HRB := Lib.hid hRB
             clear hg2 hown2 hat2 hRB)
          | (go_at_call 19
             have hsw := sbv_any A2 (n + 1) c2 (l ++ [(⟨s, pe, po⟩ : Bl)]) w2 HRB.out HNB.out HSB.out
             refine Calls.mono hsw ?_
             clear hsw
             rintro e w3 ⟨rfl, hb3⟩
             have HBc : Hid (Below wq.heap.size wq w3) := Lib.hid (belB HBb.out HBb.out.size hb3)
             have d0 : w3.cell? ⟨gq, 0, none⟩ = some (.string s) := (HBc.out.cell (p := ⟨gq, 0, none⟩) hgl).trans k0
             have d1 : w3.cell? ⟨gq, 1, none⟩ = some (.bool pe) := (HBc.out.cell (p := ⟨gq, 1, none⟩) hgl).trans k1'
             have d2 : w3.cell? ⟨gq, 2, none⟩ = some (.bool po) := (HBc.out.cell (p := ⟨gq, 2, none⟩) hgl).trans k2''
             clear hb3))
      all_goals
        have HO3 := Lib.hid (own_below HOq.out HBc.out)
        have HR3 := Lib.hid (rdr_below HRq.out HBc.out HRL.out)
        have HB3 := Lib.hid (grown_trans' HBq.out (grown_of_below HBc.out))
        have hgl3 : gq < w3.heap.size := Nat.lt_of_lt_of_le hgl HBc.out.size
        clear HOq HRq HBq HBc HBb HBa HRE HK k0 k1' k2'' e0 e1 e2 f0 f1 f2 Hown1 HRB HNB HSB HM0 HM1 HN0 HN1 HN2 HN3 HOC
        cases hv : bvB (l ++ [(⟨s, pe, po⟩ : Bl)])
        · go_wp2_with fail
          go_roundw
          case rel => exact ⟨j - 1, n, l, by omega, by go_num, ⟨HO3.out, HS.out, rdr_more HR3.out (by omega), HB3.out⟩⟩
          case measure => simp [intOf]; omega
        · clear hv
          go_wp2_with (first
            | (at_builtin; refine wpList_append1 _ rfl _ _ 34 rfl w.heap.size 26 i0 (.agg #[.string ⟨#[]⟩, .bool false, .bool false]) 3 24 Try.underlying34 HI.out HZ0.out HZ1.out HZ2.out rfl (by decide) [.string s, .bool pe, .bool po] rfl (by intro u hu; simp at hu; rcases hu with rfl | rfl | rfl <;> rfl) _ n (bls l) _ _ HO3.out rfl rfl _ rfl rfl HM2.out HM3.out HB3.out.size ?_))
          intro v' w5 ho5 hg5
          have hRne : some R ≠ (Value.slice A n c).ownBlock := own_rdr HO3.out HR3.out (by decide)
          have hRne := own_base HO3.out hRl (Nat.le_refl _)
          have HR5 := Lib.hid (rdr_grown HR3.out hg5 hRne (fun k hk => by have := (HO3.out.lt k hk).1; have := HLW.out; omega))
          have HB5 : Hid (w.grownBy w5 (some R)) := Lib.hid (grown_own HB3.out hg5 HO3.out)
          have HO5 := Lib.hid ho5
          clear ho5 hg5 hRne HO3 HR3 HB3
          go_wp2_with fail
          go_roundw
          case rel => exact ⟨j - 1, n + 1, l ++ [(⟨s, pe, po⟩ : Bl)], by omega, by go_num, ⟨by rw [bls_app, bls_one]; exact HO5.out, by
            intro z hz
            rcases List.mem_append.1 hz with h | h
            · exact HS.out z h
            · simp only [List.mem_cons, List.not_mem_nil, or_false] at h; subst h; exact HS1.out, rdr_more HR5.out (by omega), HB5.out⟩⟩
          case measure => simp [intOf]; omega
    · obtain rfl : j = 0 := by omega
      have hszr := HB.out.size
      have hRw := rdr_lt HR.out
      have hLR : L ≤ R := by obtain ⟨_, _, _, _, _, _, _, _, _, hh, _⟩ := H.out; exact hh
      go_wp2_with fail
      refine (odd_any _ _ _ _ HR.out (by omega) (by omega)).mono ?_
      rintro e x1 ⟨ob, rfl, _, hx1, hr1⟩
      have HO1 := Lib.hid (own_pick HO.out HR.out (by decide) hx1); have HB1 := Lib.hid (grown_trans' HB.out hx1); have HR1 := Lib.hid hr1
      have hR1 := rdr_lt hr1
      clear hx1 hr1
      cases ob
      · go_wp2_with fail
        go_ret
        exact ⟨_, n, l, rfl, by omega, HO1.out, HS.out, HB1.out, rdr_more HR1.out (by omega)⟩
      · have HNN : Hid (n + 1 ≤ maxLen) := Lib.hid (by simp only [maxLen]; omega)
        obtain ⟨A, c, rfl, hnc, hcm, _⟩ := own_form HO1.out
        have HNC := Lib.hid hnc; have HCM := Lib.hid hcm
        clear hnc hcm
        by_cases hn0 : 0 < n
        · go_wp2_with fail
          refine (pick_any _ _ _ _ HR1.out (by omega)).mono ?_
          rintro e x2 ⟨k4, rfl, hk4, hx2, hr2⟩
          have HO2 := Lib.hid (own_pick HO1.out HR1.out (by decide) hx2); have HB2 := Lib.hid (grown_trans' HB1.out hx2); have HR2 := Lib.hid hr2
          clear hx2 hr2
          by_cases hk0 : k4 = 0
          · subst hk0
            obtain ⟨g, rfl, hgb, hgl⟩ := own_at HO2.out hn0
            obtain ⟨b, off, z, e1, _, hz, hc0, hc1, hc2⟩ := (rd_own HO2.out).bl hn0
            injection e1 with e1; injection e1 with e1 e2
            subst e1; subst e2
            have HMEM := Lib.hid (List.mem_of_getElem? hz)
            clear hz
            have c0 : x2.cell? ⟨g, 0, none⟩ = some (.string z.a) := by simpa using hc0
            have c1 : x2.cell? ⟨g, 1, none⟩ = some (.bool z.b) := by simpa using hc1
            have c2 : x2.cell? ⟨g, 2, none⟩ = some (.bool z.c) := by simpa using hc2
            clear hc0 hc1 hc2
            go_wp2_with (first
              | (at_builtin; refine wpList_append1 _ rfl _ _ 34 rfl w.heap.size 26 i0 (.agg #[.string ⟨#[]⟩, .bool false, .bool false]) 3 24 Try.underlying34 HI.out HZ0.out HZ1.out HZ2.out rfl (by decide) [.string z.a, .bool z.b, .bool z.c] rfl (by intro u hu; simp at hu; rcases hu with rfl | rfl | rfl <;> rfl) _ n (bls l) _ _ HO2.out rfl rfl _ rfl rfl HNN.out (by omega) HB2.out.size ?_))
            intro v' w5 ho5 hg5
            have HR5 := Lib.hid (rdr_grown HR2.out hg5 (own_base HO2.out hRl (Nat.le_refl _)) (fun k hk => by have := (HO2.out.lt k hk).1; omega))
            have HB5 : Hid (w.grownBy w5 (some R)) := Lib.hid (grown_own HB2.out hg5 HO2.out)
            have HO5 := Lib.hid ho5
            clear ho5 hg5
            go_wp2_with fail
            go_ret
            exact ⟨_, n + 1, l ++ [z], rfl, by omega, by rw [bls_app, bls_one]; exact HO5.out, by
              intro z1 hz1
              rcases List.mem_append.1 hz1 with h | h
              · exact HS.out z1 h
              · simp only [List.mem_cons, List.not_mem_nil, or_false] at h; subst h; exact HS.out _ HMEM.out, HB5.out, rdr_more HR5.out (by omega)⟩
          · have hk0' : ((k4 : Int) == 0) = false := by simp [hk0]
            go_wp2_with (first
              | (at_builtin; refine wpList_append1 _ rfl _ _ 34 rfl w.heap.size 26 i0 (.agg #[.string ⟨#[]⟩, .bool false, .bool false]) 3 24 Try.underlying34 HI.out HZ0.out HZ1.out HZ2.out rfl (by decide) [.string ⟨#[65]⟩, .bool false, .bool false] rfl (by intro u hu; simp at hu; rcases hu with rfl | rfl | rfl <;> rfl) _ n (bls l) _ _ HO2.out rfl rfl _ rfl rfl HNN.out (by omega) HB2.out.size ?_))
            intro v' w5 ho5 hg5
            have HR5 := Lib.hid (rdr_grown HR2.out hg5 (own_base HO2.out hRl (Nat.le_refl _)) (fun k hk => by have := (HO2.out.lt k hk).1; omega))
            have HB5 : Hid (w.grownBy w5 (some R)) := Lib.hid (grown_own HB2.out hg5 HO2.out)
            have HO5 := Lib.hid ho5
            clear ho5 hg5
            go_wp2_with fail
            go_ret
            exact ⟨_, n + 1, l ++ [(⟨⟨#[65]⟩, false, false⟩ : Bl)], rfl, by omega, by rw [bls_app, bls_one]; exact HO5.out, by
              intro z1 hz1
              rcases List.mem_append.1 hz1 with h | h
              · exact HS.out z1 h
              · simp only [List.mem_cons, List.not_mem_nil, or_false] at h; subst h; decide, HB5.out, rdr_more HR5.out (by omega)⟩
        · obtain rfl : n = 0 := by omega
          go_wp2_with (first
            | (at_builtin; refine wpList_append1 _ rfl _ _ 34 rfl w.heap.size 26 i0 (.agg #[.string ⟨#[]⟩, .bool false, .bool false]) 3 24 Try.underlying34 HI.out HZ0.out HZ1.out HZ2.out rfl (by decide) [.string ⟨#[65]⟩, .bool false, .bool false] rfl (by intro u hu; simp at hu; rcases hu with rfl | rfl | rfl <;> rfl) _ 0 (bls l) _ _ HO1.out rfl rfl _ rfl rfl HNN.out (by omega) HB1.out.size ?_))
          intro v' w5 ho5 hg5
          have HR5 := Lib.hid (rdr_grown HR1.out hg5 (own_base HO1.out hRl (Nat.le_refl _)) (fun k hk => by have := (HO1.out.lt k hk).1; omega))
          have HB5 : Hid (w.grownBy w5 (some R)) := Lib.hid (grown_own HB1.out hg5 HO1.out)
          have HO5 := Lib.hid ho5
          clear ho5 hg5
          go_wp2_with fail
          go_ret
          exact ⟨_, 0 + 1, l ++ [(⟨⟨#[65]⟩, false, false⟩ : Bl)], rfl, by omega, by rw [bls_app, bls_one]; exact HO5.out, by
            intro z1 hz1
            rcases List.mem_append.1 hz1 with h | h
            · exact HS.out z1 h
            · simp only [List.mem_cons, List.not_mem_nil, or_false] at h; subst h; decide, HB5.out, rdr_more HR5.out (by omega)⟩
end Go.Proofs.Ytajfglcoigklnaa
