/-
  The drawing of followers; of KeepFans' input; the law's comparison of two lists of handles.
-/
import Derived.Test.YtpbnbekkmifbpaaDoorDrawHandleM
import Derived.Test.YtpbnbekkmifbpaaDoorDrawMore
import Derived.Test.YtpbnbekkmifbpaaDoorFollowM
import Derived.Test.YtpbnbekkmifbpaaDoorSameHa
namespace Go.Proofs.YtpbnbekkmifbpaaDoor
open Go.ChangeShapes Go.WideShapes Go.ChangeAt Go.RowKit Go.Joins
set_option linter.unusedVariables false

variable {L : Nat}
structure DFI (w wr : World) (L R q : Nat) (v : Value) (n : Nat) (l : List Ha) : Prop where
  row : wr.ownsRow w.heap.size 29 2 v n (has l)
  small : ∀ z ∈ l, z.a.size ≤ 9 ∧ z.b.size ≤ 9
  rdr : Rdr wr L R q
  below : w.grownBy wr (some R)
theorem smh_app {l : List Ha} {z : Ha} (h : ∀ z ∈ l, z.a.size ≤ 9 ∧ z.b.size ≤ 9) (hz : z.a.size ≤ 9 ∧ z.b.size ≤ 9) : ∀ y ∈ l ++ [z], y.a.size ≤ 9 ∧ y.b.size ≤ 9 := by
  intro y hy
  rcases List.mem_append.1 hy with h1 | h1
  · exact h y h1
  · simp only [List.mem_cons, List.not_mem_nil, or_false] at h1; subst h1; exact hz
theorem smh_max {l : List Ha} (h : ∀ z ∈ l, z.a.size ≤ 9 ∧ z.b.size ≤ 9) : ∀ z ∈ l, z.a.size ≤ maxLen ∧ z.b.size ≤ maxLen := fun z hz => by have := h z hz; simp only [maxLen]; omega
set_option maxRecDepth 100000 in
set_option maxHeartbeats 8000000 in
theorem l20fa_any (w : World) (R q : Nat) (m : Int) (h : Rdr w L R q) (hq : q ≤ 300) (hm : m ≤ 1000) :
    Calls Tryd.prog 43 #[.pointer (some ⟨R, 0, none⟩), .int .i64 m] w fun e w' => ∃ (v : Value) (n : Nat) (l : List Ha), e = .returned v ∧ n ≤ 7 ∧ w'.ownsRow w.heap.size 29 2 v n (has l) ∧ (∀ z ∈ l, z.a.size ≤ 9 ∧ z.b.size ≤ 9) ∧ w.grownBy w' (some R) ∧ Rdr w' L R (q + 400) := by
  have H := Lib.hid h
  have hRl := rdr_lt h
  clear h
  obtain ⟨i0, hi, hz0, hz1, hz2⟩ := info_parts ha_info
  have HI := Lib.hid hi; have HZ0 := Lib.hid hz0; have HZ1 := Lib.hid hz1; have HZ2 := Lib.hid hz2
  clear hi hz0 hz1 hz2
  go_enter Tryd.func43, Tryd.ntmps43
  go_wp2_with fail
  refine (pick_any _ R q _ (rdr_alloc H.out _) (by omega)).mono ?_
  rintro e w1 ⟨k1, rfl, hk1, hg1, hr1⟩
  have hk1' : k1 ≤ 5 := by omega
  have HI1 : Hid (DFI w w1 L R (q + 4) (.slice (some ⟨w.heap.size, 0, none⟩) 0 0) 0 []) := Lib.hid ⟨own_pick (World.ownsRow_made w #[] 0 (Nat.le_refl _) (by simp) (by simp)) (rdr_alloc H.out _) (by decide) hg1, by simp, rdr_more hr1 (by omega), grown_tr (World.grownBy_alloc w _ _) hg1⟩
  clear hk1 hg1 hr1
  go_wp2_with fail
  go_loopw [5, 6] (fun v kk wr => ∃ (j n : Nat) (l : List Ha), n + j ≤ 5 ∧ kk = .int .i64 j ∧ DFI w wr L R (q + 4 + 60 * (5 - j)) v n l) (fun _ kk _ => (intOf kk).toNat)
  case atStart => exact ⟨k1, 0, [], by omega, rfl, ⟨HI1.out.row, HI1.out.small, rdr_more HI1.out.rdr (by omega), HI1.out.below⟩⟩
  case round =>
    clear HI1
    obtain ⟨j, n, l, hnj, rfl, hI⟩ := hrel
    obtain ⟨ho, hs, hr, hb⟩ := hI
    obtain ⟨A, c, rfl, hnc, hcm, _⟩ := own_form ho
    have HO := Lib.hid ho; have HS := Lib.hid hs; have HR := Lib.hid hr; have HB := Lib.hid hb; have HNC := Lib.hid hnc; have HCM := Lib.hid hcm
    clear ho hs hr hb hnc hcm
    by_cases hj : 0 < j
    · go_wp2_with fail
      refine (l20ha_any _ R (q + 4 + 60 * (5 - j)) 0 HR.out (by omega) (by omega)).mono ?_
      rintro e x1 ⟨z, rfl, hz, hx1, hr1⟩
      have HO1 := Lib.hid (own_pick HO.out HR.out (by decide) hx1)
      have HB1 := Lib.hid (grown_trans' HB.out hx1)
      have HR1 := Lib.hid hr1; have HZ := Lib.hid hz
      clear hx1 hr1 hz HO HR HB
      go_wp2_with fail
      refine (sfo_any A n c l z x1 (rd_own HO1.out) (by omega) HNC.out HCM.out (smh_max HS.out) (by have := HZ.out; simp only [maxLen]; omega)).mono ?_
      rintro e x2 ⟨v2, rfl, ho2, hb2⟩
      have hRx := rdr_lt HR1.out
      have HO2 := Lib.hid (own_less ho2 HB1.out.size)
      have HR2 := Lib.hid (rdr_below HR1.out hb2 hRx)
      have HB2 := Lib.hid (grown_trans' HB1.out (grown_of_below hb2))
      have HS2 := Lib.hid (foL_small HS.out HZ.out)
      have hlen := foL_len l z
      have hln := own_len HO1.out
      rw [has_len] at hln
      clear ho2 hb2 hRx HO1 HR1 HB1
      go_wp2_with fail
      go_roundw
      case rel => first | exact ⟨j - 1, _, _, by omega, by go_num, ⟨HO2.out, HS2.out, rdr_more HR2.out (by omega), HB2.out⟩⟩ | ((repeat apply Exists.intro); exact ⟨⟨j - 1, _, _, by omega, by go_num, ⟨HO2.out, HS2.out, rdr_more HR2.out (by omega), HB2.out⟩⟩, rfl⟩)
      case measure => simp [intOf]; omega
    · obtain rfl : j = 0 := by omega
      have hLR : L ≤ R := by obtain ⟨_, _, _, _, _, _, _, _, _, hh, _⟩ := H.out; exact hh
      go_wp2_with fail
      refine (odd_any _ R (q + 4 + 60 * (5 - 0)) _ HR.out (by omega) (by omega)).mono ?_
      rintro e x1 ⟨bo, rfl, _, hx1, hr1⟩
      have HO1 := Lib.hid (own_pick HO.out HR.out (by decide) hx1)
      have HB1 := Lib.hid (grown_trans' HB.out hx1)
      have HR1 := Lib.hid hr1
      clear hx1 hr1 HO HR HB
      cases bo
      · go_wp2_with fail
        go_ret
        exact ⟨_, n, l, rfl, by omega, HO1.out, HS.out, HB1.out, rdr_more HR1.out (by omega)⟩
      · by_cases h0 : 0 < n
        · have hd0 : decide (0 < n) = true := by simpa using h0
          go_wp2_with fail
          refine (pick_any _ R (q + 4 + 60 * (5 - 0) + 1) _ (rdr_more HR1.out (by omega)) (by omega)).mono ?_
          rintro e x2 ⟨k2, rfl, hk2, hx2, hr2⟩
          have HO2 := Lib.hid (own_pick HO1.out HR1.out (by decide) hx2)
          have HB2 := Lib.hid (grown_trans' HB1.out hx2)
          have HR2 := Lib.hid hr2
          clear hx2 hr2 HO1 HR1 HB1
          by_cases hk0 : k2 = 0
          · subst hk0
            obtain ⟨g, eA, _, _⟩ := own_at HO2.out h0
            subst eA
            obtain ⟨b, off, z, eA, hbl, hz, hc0, hc1⟩ := (rd_own HO2.out).ha h0
            injection eA with eA; injection eA with e1 e2
            subst e1; subst e2
            have c0 : x2.cell? ⟨g, 0, none⟩ = some (.string z.a) := by simpa using hc0
            have c1 : x2.cell? ⟨g, 1, none⟩ = some (.string z.b) := by simpa using hc1
            have HS2 := Lib.hid (smh_app HS.out (HS.out z (List.mem_of_getElem? hz)))
            obtain ⟨za, zb⟩ := z
            clear hc0 hc1 hz
            go_wp2_with (first
              | (at_builtin
                 refine wpList_append1 _ rfl _ _ 24 rfl w.heap.size 29 i0 (.agg #[.string ⟨#[]⟩, .string ⟨#[]⟩]) 2 32 Tryd.underlying24 HI.out HZ0.out HZ1.out HZ2.out rfl (by decide) [.string za, .string zb] rfl (by intro u hu; simp at hu; rcases hu with rfl | rfl <;> rfl) _ n (has l) _ _ HO2.out rfl rfl _ rfl rfl (by simp only [maxLen]; omega) (by omega) HB2.out.size ?_
                 intro v' w5 ho5 hg5
                 have HO5 : Hid (w5.ownsRow w.heap.size 29 2 v' (n + 1) (has (l ++ [(⟨za, zb⟩ : Ha)]))) := Lib.hid (by rw [has_app, has_one]; exact ho5)
                 have hRne := own_base HO2.out hRl (Nat.le_refl _)
                 have HB5 : Hid (w.grownBy w5 (some R)) := Lib.hid (grown_own HB2.out hg5 HO2.out)
                 have HR5 := Lib.hid (rdr_grown HR2.out hg5 hRne (fun k hk => by have := (HO2.out.lt k hk).1; omega))
                 clear ho5 hg5))
            go_wp2_with fail
            go_ret
            exact ⟨_, n + 1, _, rfl, by omega, HO5.out, HS2.out, HB5.out, rdr_more HR5.out (by omega)⟩
          · have hk0' : ((k2 : Int) == 0) = false := by simpa using hk0
            have HS2 := Lib.hid (smh_app (z := ⟨⟨#[122]⟩, ⟨#[]⟩⟩) HS.out (by decide))
            go_wp2_with (first
              | (at_builtin
                 refine wpList_append1 _ rfl _ _ 24 rfl w.heap.size 29 i0 (.agg #[.string ⟨#[]⟩, .string ⟨#[]⟩]) 2 32 Tryd.underlying24 HI.out HZ0.out HZ1.out HZ2.out rfl (by decide) [.string ⟨#[122]⟩, .string ⟨#[]⟩] rfl (by intro u hu; simp at hu; rcases hu with rfl | rfl <;> rfl) _ n (has l) _ _ HO2.out rfl rfl _ rfl rfl (by simp only [maxLen]; omega) (by omega) HB2.out.size ?_
                 intro v' w5 ho5 hg5
                 have HO5 : Hid (w5.ownsRow w.heap.size 29 2 v' (n + 1) (has (l ++ [(⟨⟨#[122]⟩, ⟨#[]⟩⟩ : Ha)]))) := Lib.hid (by rw [has_app, has_one]; exact ho5)
                 have hRne := own_base HO2.out hRl (Nat.le_refl _)
                 have HB5 : Hid (w.grownBy w5 (some R)) := Lib.hid (grown_own HB2.out hg5 HO2.out)
                 have HR5 := Lib.hid (rdr_grown HR2.out hg5 hRne (fun k hk => by have := (HO2.out.lt k hk).1; omega))
                 clear ho5 hg5))
            go_wp2_with fail
            go_ret
            exact ⟨_, n + 1, _, rfl, by omega, HO5.out, HS2.out, HB5.out, rdr_more HR5.out (by omega)⟩
        · obtain rfl : n = 0 := by omega
          have HS2 := Lib.hid (smh_app (z := ⟨⟨#[122]⟩, ⟨#[]⟩⟩) HS.out (by decide))
          have HO2 := Lib.hid HO1.out; have HB2 := Lib.hid HB1.out; have HR2 := Lib.hid HR1.out
          clear HO1 HB1 HR1
          go_wp2_with (first
            | (at_builtin
               refine wpList_append1 _ rfl _ _ 24 rfl w.heap.size 29 i0 (.agg #[.string ⟨#[]⟩, .string ⟨#[]⟩]) 2 32 Tryd.underlying24 HI.out HZ0.out HZ1.out HZ2.out rfl (by decide) [.string ⟨#[122]⟩, .string ⟨#[]⟩] rfl (by intro u hu; simp at hu; rcases hu with rfl | rfl <;> rfl) _ 0 (has l) _ _ HO2.out rfl rfl _ rfl rfl (by simp only [maxLen]; omega) (by omega) HB2.out.size ?_
               intro v' w5 ho5 hg5
               have HO5 : Hid (w5.ownsRow w.heap.size 29 2 v' (0 + 1) (has (l ++ [(⟨⟨#[122]⟩, ⟨#[]⟩⟩ : Ha)]))) := Lib.hid (by rw [has_app, has_one]; exact ho5)
               have hRne := own_base HO2.out hRl (Nat.le_refl _)
               have HB5 : Hid (w.grownBy w5 (some R)) := Lib.hid (grown_own HB2.out hg5 HO2.out)
               have HR5 := Lib.hid (rdr_grown HR2.out hg5 hRne (fun k hk => by have := (HO2.out.lt k hk).1; omega))
               clear ho5 hg5))
          go_wp2_with fail
          go_ret
          exact ⟨_, 0 + 1, _, rfl, by omega, HO5.out, HS2.out, HB5.out, rdr_more HR5.out (by omega)⟩

end Go.Proofs.YtpbnbekkmifbpaaDoor
