/-
  The contract of TryFirst of the program.
-/
import Derived.Test.YtadgmncngkkdnaaPau
import Derived.Test.YtadgmncngkkdnaaAddSpec
import Derived.Test.YtadgmncngkkdnaaIns
import Derived.Test.YtadgmncngkkdnaaTypedS
import Derived.Deep.DeepCutAuto
namespace Go.Proofs.Ytadgmncngkkdnaa
open Go.ChangeShapes Go.WideShapes Go.ChangeAt Go.RowKit Go.Joins
set_option linter.unusedVariables false

theorem tfR_bad {l : List De} {now : Int} {arr : Bool} (h : tfV l now = false) : tfR l now arr = ([], -1) := by simp [tfR, h]
theorem tfR_nil {now : Int} {arr : Bool} : tfR [] now arr = ([], -1) := by unfold tfR; split <;> rfl
theorem tfR_late {z : De} {l : List De} {now : Int} {arr : Bool} (h : tfV (z :: l) now = true) (hz : now < z.d) : tfR (z :: l) now arr = (z :: l, -1) := by simp [tfR, h, hz]
theorem tfR_arr {z : De} {l : List De} {now : Int} (h : tfV (z :: l) now = true) (hz : ¬ now < z.d) : tfR (z :: l) now true = (l, 1) := by simp [tfR, h, hz]
theorem tfR_end {z : De} {l : List De} {now : Int} (h : tfV (z :: l) now = true) (hz : ¬ now < z.d) (hc : z.c + 1 = 6) : tfR (z :: l) now false = (l, 2) := by simp [tfR, h, hz, hc]
theorem tfR_more {z : De} {l : List De} {now : Int} (h : tfV (z :: l) now = true) (hz : ¬ now < z.d) (hc : z.c + 1 ≠ 6) : tfR (z :: l) now false = (adL l (tfD z now), 0) := by simp [tfR, h, hz, hc]
theorem tfV_mk {l : List De} {now : Int} {p q : Bool} (h1 : deB l = p) (h2 : wi now 0 1000000 = q) : tfV l now = (p && q) := by rw [tfV, h1, h2]

def dez : Array Value := #[.int .i64 0, .string ⟨#[]⟩, .int .i64 0, .int .i64 0]
structure TfJ (B n : Nat) (SL pz : Value) (z : De) (l' : List De) (w0 : World) (f : Nat → Bool) (s : Nat → Value) (w : World) : Prop where
  m0 : f 0 = true → s 31 = SL
  m1 : f 1 = true → s 32 = pz
  m2 : f 2 = true → s 33 = dev z
  m3 : f 3 = true → s 34 = SL
  below : Below B w0 w
  r4 : f 4 = true → w.ownsRow B 25 4 (s 35) (n - 1) (des l')
  r5 : f 5 = true → ∃ g, s 8 = .pointer (some ⟨g, 0, none⟩) ∧ B ≤ g ∧ Bk w g 25 (if f 6 = true then (dec z).toArray else dez) ∧ (f 4 = true → some g ≠ (s 35).ownBlock)
  r7 : f 7 = true → s 9 = s 35
section
variable {B n : Nat} {SL pz : Value} {z : De} {l' : List De} {w0 w : World} {f : Nat → Bool} {s : Nat → Value}
theorem TfJ.start (h : Below B w0 w) : TfJ B n SL pz z l' w0 (fun _ => false) s w := by
  refine ⟨?_, ?_, ?_, ?_, h, ?_, ?_, ?_⟩ <;> intro h <;> cases h
theorem TfJ.pure (i d : Nat) (v : Value) (h : TfJ B n SL pz z l' w0 f s w) (hd : (i = 0 ∧ d = 31 ∧ v = SL) ∨ (i = 1 ∧ d = 32 ∧ v = pz) ∨ (i = 2 ∧ d = 33 ∧ v = dev z) ∨ (i = 3 ∧ d = 34 ∧ v = SL) ∨ (i = 7 ∧ d = 9 ∧ v = s 35)) :
    TfJ B n SL pz z l' w0 (upF f i) (upS s d v) w := by
  rcases hd with ⟨rfl, rfl, rfl⟩ | ⟨rfl, rfl, rfl⟩ | ⟨rfl, rfl, rfl⟩ | ⟨rfl, rfl, rfl⟩ | ⟨rfl, rfl, rfl⟩
  all_goals
    refine ⟨?_, ?_, ?_, ?_, h.below, ?_, ?_, ?_⟩
    · first | (rw [upF_ne (by decide), upS_ne (by decide)]; exact h.m0) | (intro _; rw [upS_eq])
    · first | (rw [upF_ne (by decide), upS_ne (by decide)]; exact h.m1) | (intro _; rw [upS_eq])
    · first | (rw [upF_ne (by decide), upS_ne (by decide)]; exact h.m2) | (intro _; rw [upS_eq])
    · first | (rw [upF_ne (by decide), upS_ne (by decide)]; exact h.m3) | (intro _; rw [upS_eq])
    · rw [upF_ne (by decide), upS_ne (by decide)]; exact h.r4
    · rw [upF_ne (by decide), upF_ne (by decide), upF_ne (by decide), upS_ne (by decide), upS_ne (by decide)]; exact h.r5
    · first | (rw [upF_ne (by decide), upS_ne (by decide), upS_ne (by decide)]; exact h.r7) | (intro _; rw [upS_eq, upS_ne (by decide)])
theorem TfJ.step4 (h : TfJ B n SL pz z l' w0 f s w) (hB : B ≤ w.heap.size) (h7 : f 7 = false) {v : Value} {w' : World} (ho : w'.ownsRow w.heap.size 25 4 v (n - 1) (des l')) (hb : Below w.heap.size w w') :
    TfJ B n SL pz z l' w0 (upF f 4) (upS s 35 v) w' := by
  refine ⟨?_, ?_, ?_, ?_, belB h.below hB hb, ?_, ?_, ?_⟩
  · rw [upF_ne (by decide), upS_ne (by decide)]; exact h.m0
  · rw [upF_ne (by decide), upS_ne (by decide)]; exact h.m1
  · rw [upF_ne (by decide), upS_ne (by decide)]; exact h.m2
  · rw [upF_ne (by decide), upS_ne (by decide)]; exact h.m3
  · intro _; rw [upS_eq]; exact own_less ho hB
  · rw [upF_ne (by decide), upF_ne (by decide), upS_ne (by decide), upS_eq]
    intro h5
    obtain ⟨g, e1, e2, e3, _⟩ := h.r5 h5
    exact ⟨g, e1, e2, e3.keep hb, fun _ e => by have := (ho.lt _ e.symm).1; have := e3.lt; omega⟩
  · rw [upF_ne (by decide), h7]; intro e; cases e
theorem TfJ.step5 (h : TfJ B n SL pz z l' w0 f s w) (hB : B ≤ w.heap.size) (h6 : f 6 = false) :
    TfJ B n SL pz z l' w0 (upF f 5) (upS s 8 (.pointer (some ⟨w.heap.size, 0, none⟩))) (w.alloc (.cells dez 25)) := by
  refine ⟨?_, ?_, ?_, ?_, h.below.alloc hB _, ?_, ?_, ?_⟩
  · rw [upF_ne (by decide), upS_ne (by decide)]; exact h.m0
  · rw [upF_ne (by decide), upS_ne (by decide)]; exact h.m1
  · rw [upF_ne (by decide), upS_ne (by decide)]; exact h.m2
  · rw [upF_ne (by decide), upS_ne (by decide)]; exact h.m3
  · rw [upF_ne (by decide), upS_ne (by decide)]; exact fun a => (h.r4 a).alloc _
  · intro _
    rw [upF_ne (by decide), upF_ne (by decide), upS_eq, upS_ne (by decide), h6]
    exact ⟨w.heap.size, rfl, hB, Bk.new w _ _, fun a e => by have := ((h.r4 a).lt _ e.symm).2; omega⟩
  · rw [upF_ne (by decide), upS_ne (by decide), upS_ne (by decide)]; exact h.r7
theorem TfJ.step6 (h : TfJ B n SL pz z l' w0 f s w) (h5 : f 5 = true) {g : Nat} (e1 : s 8 = .pointer (some ⟨g, 0, none⟩)) (e2 : B ≤ g) (e3 : Bk w g 25 dez) (e4 : f 4 = true → some g ≠ (s 35).ownBlock) :
    TfJ B n SL pz z l' w0 (upF f 6) s ((((w.setCell ⟨g, 0, none⟩ (.int .i64 z.a)).setCell ⟨g, 1, none⟩ (.string z.b)).setCell ⟨g, 2, none⟩ (.int .i64 z.c)).setCell ⟨g, 3, none⟩ (.int .i64 z.d)) := by
  refine ⟨?_, ?_, ?_, ?_, (((h.below.setCell e2 _).setCell e2 _).setCell e2 _).setCell e2 _, ?_, ?_, ?_⟩
  · rw [upF_ne (by decide)]; exact h.m0
  · rw [upF_ne (by decide)]; exact h.m1
  · rw [upF_ne (by decide)]; exact h.m2
  · rw [upF_ne (by decide)]; exact h.m3
  · rw [upF_ne (by decide)]
    intro a
    have q := e4 a
    exact own_set (own_set (own_set (own_set (h.r4 a) (p := ⟨g, 0, none⟩) q _) (p := ⟨g, 1, none⟩) q _) (p := ⟨g, 2, none⟩) q _) (p := ⟨g, 3, none⟩) q _
  · intro _
    rw [upF_eq, upF_ne (by decide)]
    refine ⟨g, e1, e2, ?_, e4⟩
    have := (((e3.set_ 0 (.int .i64 z.a)).set_ 1 (.string z.b)).set_ 2 (.int .i64 z.c)).set_ 3 (.int .i64 z.d)
    exact this
  · rw [upF_ne (by decide)]; exact h.r7
end
set_option maxRecDepth 100000 in
set_option maxHeartbeats 4000000 in
theorem itf_any (A : Option Addr) (n c : Nat) (l : List De) (now : Int) (arr : Bool) (w : World) (h : Rd w 4 A n (des l)) (hn : n ≤ 1048576) (hnc : n ≤ c) (hc : c ≤ maxLen) (hs : ∀ z ∈ l, z.b.size ≤ maxLen) :
    Calls Try.prog 22 #[.slice A n c, .int .i64 now, .bool arr] w fun e w' => ∃ v, e = .returned (.tuple #[v, .int .i64 (tfR l now arr).2]) ∧ w'.ownsRow w.heap.size 25 4 v (tfR l now arr).1.length (des (tfR l now arr).1) ∧ Below w.heap.size w w' := by
  have hll := rd_delen h
  have H := Lib.hid h; have HLL := Lib.hid hll; have HS := Lib.hid hs; have HNC := Lib.hid hnc; have HC := Lib.hid hc; have HN := Lib.hid hn
  clear h hll hs hnc hc
  generalize hr : tfR l now arr = RR
  obtain ⟨R, rn⟩ := RR
  have HR := Lib.hid hr; clear hr
  simp only
  cases hv : deB l
  · have HE : Hid (R = [] ∧ rn = -1) := Lib.hid (by have := HR.out; rw [tfR_bad (tfV_mk hv rfl)] at this; injection this with h1 h2; exact ⟨h1.symm, h2.symm⟩)
    have HV := Lib.hid hv; clear hv
    go_enter Try.func22, Try.ntmps22
    go_wp2_with fail
    refine (ide_any _ _ _ _ _ H.out HNC.out HC.out HS.out).mono ?_
    rw [HV.out]
    rintro e w1 ⟨rfl, hb1⟩
    have HB1 := Lib.hid hb1; clear hb1
    go_wp2_with fail
    go_ret2
    exact ⟨_, by rw [HE.out.2]; rfl, by rw [HE.out.1]; exact World.ownsRow_nil _ _ _ _, HB1.out⟩
  · cases hwi : wi now 0 1000000
    · have HE : Hid (R = [] ∧ rn = -1) := Lib.hid (by have := HR.out; rw [tfR_bad (tfV_mk hv hwi)] at this; injection this with h1 h2; exact ⟨h1.symm, h2.symm⟩)
      have HV := Lib.hid hv; clear hv
      go_enter Try.func22, Try.ntmps22
      go_wp2_with fail
      refine (ide_any _ _ _ _ _ H.out HNC.out HC.out HS.out).mono ?_
      rw [HV.out]
      rintro e w1 ⟨rfl, hb1⟩
      have HB1 := Lib.hid hb1; clear hb1
      go_wp2_with (go_at_call 33; refine (within_any _ _ _ _).mono ?_; rintro e w' ⟨rfl, rfl⟩)
      go_ret2
      exact ⟨_, by rw [HE.out.2]; rfl, by rw [HE.out.1]; exact World.ownsRow_nil _ _ _ _, HB1.out⟩
    · obtain ⟨hn0, hn1⟩ := wi_iff.1 hwi
      have HTV := Lib.hid (tfV_mk hv hwi)
      have HV := Lib.hid hv; clear hv
      go_enter Try.func22, Try.ntmps22
      go_wp2_with fail
      refine (ide_any _ _ _ _ _ H.out HNC.out HC.out HS.out).mono ?_
      rw [HV.out]
      rintro e w1 ⟨rfl, hb1⟩
      have HB1 := Lib.hid hb1; clear hb1
      by_cases h0 : n = 0
      · have hl0 : l = [] := List.eq_nil_of_length_eq_zero (by rw [HLL.out]; exact h0)
        subst hl0
        have HE : Hid (R = [] ∧ rn = -1) := Lib.hid (by have := HR.out; rw [tfR_nil] at this; injection this with h1 h2; exact ⟨h1.symm, h2.symm⟩)
        have h0' : ((n : Int) == 0) = true := by simp [h0]
        have HN0 := Lib.hid h0
        clear h0
        go_wp2_with (go_at_call 33; refine (within_any _ _ _ _).mono ?_; rintro e w' ⟨rfl, rfl⟩)
        refine (cpd_any _ _ _ [] _ (H.out.below HB1.out) HN.out).mono ?_
        rintro e w4 ⟨v4, rfl, ho4, hb4⟩
        have HB4 := Lib.hid (belB HB1.out HB1.out.size hb4)
        have HO4 := Lib.hid (own_less ho4 HB1.out.size)
        clear hb4 ho4
        go_wp2_with fail
        go_ret2
        exact ⟨_, by rw [HE.out.2]; rfl, by rw [HE.out.1]; have := HO4.out; rw [HN0.out] at this; exact this, HB4.out⟩
      · have h0' : ((n : Int) == 0) = false := by simp [h0]
        have hnp : 0 < n := by omega
        obtain ⟨z, l', rfl⟩ : ∃ z l', l = z :: l' := by
          cases l with
          | nil => have := HLL.out; simp at this; omega
          | cons z l' => exact ⟨z, l', rfl⟩
        have HL' : Hid (l'.length = n - 1) := Lib.hid (by have := HLL.out; simp at this; omega)
        obtain ⟨b, off, z', rfl, hbl, hz, hc0, hc1, hc2, hc3⟩ := (H.out.below HB1.out).de hnp
        simp only [List.getElem?_cons_zero, Option.some.injEq] at hz
        subst hz
        simp only [Nat.zero_mul, Nat.add_zero] at hc0 hc1 hc2 hc3
        by_cases hlate : now < z.d
        · have HE : Hid (R = z :: l' ∧ rn = -1) := Lib.hid (by have := HR.out; rw [tfR_late HTV.out hlate] at this; injection this with h1 h2; exact ⟨h1.symm, h2.symm⟩)
          clear hc0 hc1 hc2
          go_wp2_with (go_at_call 33; refine (within_any _ _ _ _).mono ?_; rintro e w' ⟨rfl, rfl⟩)
          refine (cpd_any _ _ _ (z :: l') _ (H.out.below HB1.out) HN.out).mono ?_
          rintro e w4 ⟨v4, rfl, ho4, hb4⟩
          have HB4 := Lib.hid (belB HB1.out HB1.out.size hb4)
          have HO4 := Lib.hid (own_less ho4 HB1.out.size)
          clear hb4 ho4
          go_wp2_with fail
          go_ret2
          exact ⟨_, by rw [HE.out.2]; rfl, by rw [HE.out.1, HLL.out]; exact HO4.out, HB4.out⟩
        · have HLA := Lib.hid hlate
          go_wp2_with (go_at_call 33; refine (within_any _ _ _ _).mono ?_; rintro e w' ⟨rfl, rfl⟩)
          have HRD1 := Lib.hid (H.out.below HB1.out)
          refine wp_region_inv (TfJ w1.heap.size n (.slice (some ⟨b, off, none⟩) n c) (.pointer (some ⟨b, off, none⟩)) z l' w1) (by kernel_rfl) (regOkG_of (by kernel_rfl) (by kernel_rfl)) (TfJ.start (Below.refl _ _).drew) ?_ ?_
          · intro i o f bx wb ho hf hrd hcl hsz hfr hJ K hK
            have hi := (Array.getElem?_eq_some_iff.1 ho).1
            simp only [List.size_toArray, List.length_cons, List.length_nil] at hi
            have hcases : i = 0 ∨ i = 1 ∨ i = 2 ∨ i = 3 ∨ i = 4 ∨ i = 5 ∨ i = 6 ∨ i = 7 := by omega
            have c75 : f 4 = false → f 7 = false := fun h => by
              cases e : f 7
              · rfl
              · rw [hcl 7 _ ⟨4, .data⟩ rfl e (by simp) rfl] at h; cases h
            have c65 : f 5 = false → f 6 = false := fun h => by
              cases e : f 6
              · rfl
              · rw [hcl 6 _ ⟨5, .data⟩ rfl e (by simp) rfl] at h; cases h
            have hB : w1.heap.size ≤ wb.heap.size := hJ.below.size
            have g0 := (hJ.below.cell (p := ⟨b, off, none⟩) hbl).trans hc0
            have g1 := (hJ.below.cell (p := ⟨b, off + 1, none⟩) hbl).trans hc1
            have g2 := (hJ.below.cell (p := ⟨b, off + 2, none⟩) hbl).trans hc2
            have g3 := (hJ.below.cell (p := ⟨b, off + 3, none⟩) hbl).trans hc3
            have hbl' : b < wb.heap.size := Nat.lt_of_lt_of_le hbl hB
            clear hc0 hc1 hc2 hc3
            rcases hcases with rfl | rfl | rfl | rfl | rfl | rfl | rfl | rfl
            · cases (show some _ = some o from ho)
              refine ite_yes (by rfl) ?_
              have h0 : bx.tmps.getD 0 undef = _ := hfr 0 (noDst_of (by kernel_rfl))
              have f0 := getD_opt h0
              have HK := Lib.hid hK; have HJ := Lib.hid hJ
              clear hK hJ hcl hrd hfr hsz ho
              go_simp
              exact HK.out _ _ (HJ.out.pure 0 31 _ (.inl ⟨rfl, rfl, rfl⟩))
            · cases (show some _ = some o from ho)
              refine ite_yes (by rfl) ?_
              have h31 : bx.tmps.getD 31 undef = _ := hJ.m0 (hrd ⟨0, .data⟩ (by simp) rfl)
              have f31 := getD_opt h31
              have HK := Lib.hid hK; have HJ := Lib.hid hJ
              clear hK hJ hcl hrd hfr hsz ho
              go_simp
              exact HK.out _ _ (HJ.out.pure 1 32 _ (.inr (.inl ⟨rfl, rfl, rfl⟩)))
            · cases (show some _ = some o from ho)
              refine ite_yes (by rfl) ?_
              have h32 : bx.tmps.getD 32 undef = _ := hJ.m1 (hrd ⟨1, .data⟩ (by simp) rfl)
              have f32 := getD_opt h32
              have HK := Lib.hid hK; have HJ := Lib.hid hJ
              clear hK hJ hcl hrd hfr hsz ho
              go_simp
              exact HK.out _ _ (HJ.out.pure 2 33 _ (.inr (.inr (.inl ⟨rfl, rfl, rfl⟩))))
            · cases (show some _ = some o from ho)
              refine ite_yes (by rfl) ?_
              have h0 : bx.tmps.getD 0 undef = _ := hfr 0 (noDst_of (by kernel_rfl))
              have f0 := getD_opt h0
              have HK := Lib.hid hK; have HJ := Lib.hid hJ
              clear hK hJ hcl hrd hfr hsz ho
              go_simp
              exact HK.out _ _ (HJ.out.pure 3 34 _ (.inr (.inr (.inr (.inl ⟨rfl, rfl, rfl⟩)))))
            · cases (show some _ = some o from ho)
              refine ite_yes (by rfl) ?_
              have h7 := c75 hf
              have h34 : bx.tmps.getD 34 undef = _ := hJ.m3 (hrd ⟨3, .data⟩ (by simp) rfl)
              have f34 := getD_opt h34
              have HK := Lib.hid hK; have HJ := Lib.hid hJ
              clear hK hcl hrd hfr hsz ho
              go_simp
              refine (wout_any (some ⟨b, off, none⟩) n c 0 (z :: l') wb (HRD1.out.below HJ.out.below) HN.out HNC.out HC.out hnp).mono ?_
              rintro e x2 ⟨v2, rfl, ho, hb⟩
              exact HK.out _ _ (HJ.out.step4 hB h7 ho hb)
            · cases (show some _ = some o from ho)
              refine ite_yes (by rfl) ?_
              have h6 := c65 hf
              have HK := Lib.hid hK; have HJ := Lib.hid hJ
              clear hK hJ hcl hrd hfr hsz ho
              go_simp
              exact HK.out _ _ (HJ.out.step5 hB h6)
            · cases (show some _ = some o from ho)
              refine ite_yes (by rfl) ?_
              have h5 : f 5 = true := hrd ⟨5, .data⟩ (by simp) rfl
              have h33 : bx.tmps.getD 33 undef = dev z := hJ.m2 (hrd ⟨2, .data⟩ (by simp) rfl)
              have f33 := getD_opt h33
              obtain ⟨g, e1, e2, e3, e4⟩ := hJ.r5 h5
              rw [hf, if_neg (by simp)] at e3
              have h8 : bx.tmps.getD 8 undef = .pointer (some ⟨g, 0, none⟩) := e1
              have f8 := getD_opt h8
              have z0 := e3.cell 0 (v := .int .i64 0) rfl
              have z1 := e3.cell 1 (v := .string ⟨#[]⟩) rfl
              have z2 := e3.cell 2 (v := .int .i64 0) rfl
              have z3 := e3.cell 3 (v := .int .i64 0) rfl
              have y0 := e3.free 0
              have y1 := e3.free 1
              have y2 := e3.free 2
              have y3 := e3.free 3
              have yl := e3.lt
              have HK := Lib.hid hK; have HJ := Lib.hid hJ; have E1 := Lib.hid e1; have E3 := Lib.hid e3; have E4 := Lib.hid e4
              clear hK hJ hcl hrd hfr hsz ho e1 e3 e4 h8 h33
              go_simp
              exact HK.out undef _ (HJ.out.step6 h5 E1.out e2 E3.out E4.out)
            · cases (show some _ = some o from ho)
              refine ite_yes (by rfl) ?_
              obtain ⟨A', c', h35, _, _, _⟩ := own_form (hJ.r4 (hrd ⟨4, .data⟩ (by simp) rfl))
              have h35 : bx.tmps.getD 35 undef = .slice A' (n - 1) c' := h35
              have f35 := getD_opt h35
              have HK := Lib.hid hK; have HJ := Lib.hid hJ; have H35 := Lib.hid h35
              clear hK hJ hcl hrd hfr hsz ho h35
              go_simp
              exact HK.out _ _ (HJ.out.pure 7 9 _ (.inr (.inr (.inr (.inr ⟨rfl, rfl, H35.out.symm⟩)))))
          · intro f bx wb hall hsz hdf hfr hJ
            have hO := hJ.r4 (hall 4 (by decide))
            have h9 : bx.tmps.getD 9 undef = bx.tmps.getD 35 undef := hJ.r7 (hall 7 (by decide))
            obtain ⟨gq, e8, hgq, hK, hne⟩ := hJ.r5 (hall 5 (by decide))
            rw [hall 6 (by decide), if_pos rfl] at hK
            have hne := hne (hall 4 (by decide))
            have hO : wb.ownsRow w1.heap.size 25 4 (bx.tmps.getD 35 undef) (n - 1) (des l') := hO
            have hne : some gq ≠ (bx.tmps.getD 35 undef).ownBlock := hne
            have e8 : bx.tmps.getD 8 undef = .pointer (some ⟨gq, 0, none⟩) := e8
            rw [← h9] at hO hne
            obtain ⟨A9, c9, e9, hnc9, hcm9, _⟩ := own_form hO
            rw [e9] at hO hne
            have HBQ := Lib.hid (belB HB1.out HB1.out.size hJ.below)
            have HO9 := Lib.hid (own_less hO HB1.out.size); have HNC9 := Lib.hid hnc9; have HC9 := Lib.hid hcm9; have HNE := Lib.hid hne; have HKQ := Lib.hid hK
            have HGQ : Hid (w.heap.size ≤ gq) := Lib.hid (Nat.le_trans HB1.out.size hgq)
            clear hJ hall h9 hO hnc9 hcm9 hne hK hgq hc0 hc1 hc2 hc3 hbl
            obtain ⟨tm, df⟩ := bx
            obtain rfl : df = [] := hdf
            have q1 : tm.getD 1 undef = .int .i64 now := hfr 1 (noDst_of (by kernel_rfl))
            have q2 : tm.getD 2 undef = .bool arr := hfr 2 (noDst_of (by kernel_rfl))
            have q8 : tm.getD 8 undef = .pointer (some ⟨gq, 0, none⟩) := e8
            have q9 : tm.getD 9 undef = .slice A9 (n - 1) c9 := e9
            have q := lit_of tm 59 hsz
            simp only [List.range, List.range.loop, List.map, q1, q2, q8, q9] at q
            have HQ := Lib.hid q
            clear q hsz hfr q1 q2 q8 q9 e8 e9
            rw [HQ.out]
            generalize tm.getD 0 undef = x0
            generalize tm.getD 3 undef = x3
            generalize tm.getD 4 undef = x4
            generalize tm.getD 5 undef = x5
            generalize tm.getD 6 undef = x6
            generalize tm.getD 7 undef = x7
            generalize tm.getD 10 undef = x10
            generalize tm.getD 11 undef = x11
            generalize tm.getD 12 undef = x12
            generalize tm.getD 13 undef = x13
            generalize tm.getD 14 undef = x14
            generalize tm.getD 15 undef = x15
            generalize tm.getD 16 undef = x16
            generalize tm.getD 17 undef = x17
            generalize tm.getD 18 undef = x18
            generalize tm.getD 19 undef = x19
            generalize tm.getD 20 undef = x20
            generalize tm.getD 21 undef = x21
            generalize tm.getD 22 undef = x22
            generalize tm.getD 23 undef = x23
            generalize tm.getD 24 undef = x24
            generalize tm.getD 25 undef = x25
            generalize tm.getD 26 undef = x26
            generalize tm.getD 27 undef = x27
            generalize tm.getD 28 undef = x28
            generalize tm.getD 29 undef = x29
            generalize tm.getD 30 undef = x30
            generalize tm.getD 31 undef = x31
            generalize tm.getD 32 undef = x32
            generalize tm.getD 33 undef = x33
            generalize tm.getD 34 undef = x34
            generalize tm.getD 35 undef = x35
            generalize tm.getD 36 undef = x36
            generalize tm.getD 37 undef = x37
            generalize tm.getD 38 undef = x38
            generalize tm.getD 39 undef = x39
            generalize tm.getD 40 undef = x40
            generalize tm.getD 41 undef = x41
            generalize tm.getD 42 undef = x42
            generalize tm.getD 43 undef = x43
            generalize tm.getD 44 undef = x44
            generalize tm.getD 45 undef = x45
            generalize tm.getD 46 undef = x46
            generalize tm.getD 47 undef = x47
            generalize tm.getD 48 undef = x48
            generalize tm.getD 49 undef = x49
            generalize tm.getD 50 undef = x50
            generalize tm.getD 51 undef = x51
            generalize tm.getD 52 undef = x52
            generalize tm.getD 53 undef = x53
            generalize tm.getD 54 undef = x54
            generalize tm.getD 55 undef = x55
            generalize tm.getD 56 undef = x56
            generalize tm.getD 57 undef = x57
            generalize tm.getD 58 undef = x58
            clear HQ
            have k0 := HKQ.out.cell 0 (v := .int .i64 z.a) rfl
            have k1 := HKQ.out.cell 1 (v := .string z.b) rfl
            have k2 := HKQ.out.cell 2 (v := .int .i64 z.c) rfl
            have k3 := HKQ.out.cell 3 (v := .int .i64 z.d) rfl
            have u2 := HKQ.out.free 2
            have u3 := HKQ.out.free 3
            have hgl := HKQ.out.lt
            cases arr
            · obtain ⟨b1, b2, b3, b4, b5, b6, b7⟩ := deB_ok HV.out (k := 0) (z := z) rfl
              by_cases h6 : z.c + 1 = 6
              · have h6' : (z.c + 1 == 6) = true := by simpa using h6
                have HE : Hid (R = l' ∧ rn = 2) := Lib.hid (by have := HR.out; rw [tfR_end HTV.out (by have := HLA.out; omega) h6] at this; injection this with h1 h2; exact ⟨h1.symm, h2.symm⟩)
                clear b3 b6 b7
                go_wp2_with fail
                go_ret2
                refine ⟨_, by rw [HE.out.2]; rfl, ?_, HBQ.out.setCell HGQ.out _⟩
                rw [HE.out.1, HL'.out]
                exact own_set HO9.out (p := ⟨gq, 2, none⟩) HNE.out _
              · have h6' : (z.c + 1 == 6) = false := by simpa using h6
                have HE : Hid (R = adL l' (tfD z now) ∧ rn = 0) := Lib.hid (by have := HR.out; rw [tfR_more HTV.out (by have := HLA.out; omega) h6] at this; injection this with h1 h2; exact ⟨h1.symm, h2.symm⟩)
                have HP := pau_bd (t := z.c + 1) (by omega) (by omega)
                have HB3 : Hid (wvB z.b = true) := Lib.hid b3
                have HTD : Hid (tfD z now = ⟨z.a, z.b, z.c + 1, now + pau (z.c + 1)⟩) := Lib.hid rfl
                clear b3 b6 b7
                generalize hpt : pau (z.c + 1) = pt at *
                have HPT := Lib.hid hpt; clear hpt
                go_wp2_with (first | (go_at_call 38; refine (pa_impl _ _).mono ?_; rw [HPT.out]; rintro e w' ⟨rfl, rfl⟩))
                refine (iad_any A9 (n - 1) c9 l' ⟨z.a, z.b, z.c + 1, now + pt⟩ _ ?_ (by omega) HNC9.out HC9.out (fun y hy => HS.out y (List.mem_cons_of_mem _ hy)) (HS.out z (List.mem_cons_self ..))).mono ?_
                · have := rd_own (own_set (own_set HO9.out (p := ⟨gq, 2, none⟩) HNE.out (.int .i64 (z.c + 1))) (p := ⟨gq, 3, none⟩) HNE.out (.int .i64 (now + pt)))
                  exact this
                rintro e w5 ⟨v5, rfl, ho5, hb5⟩
                have HO5 := Lib.hid (own_less ho5 (show w.heap.size ≤ _ by have := HBQ.out.size; simpa [World.setCell] using this))
                have HB5 := Lib.hid (((HBQ.out.setCell HGQ.out (p := ⟨gq, 2, none⟩) (.int .i64 (z.c + 1))).setCell HGQ.out (p := ⟨gq, 3, none⟩) (.int .i64 (now + pt))).trans (hb5.mono (by have := HBQ.out.size; simpa [World.setCell] using this)))
                clear ho5 hb5
                go_wp2_with fail
                go_ret2
                exact ⟨_, by rw [HE.out.2]; rfl, by rw [HE.out.1, HTD.out]; exact HO5.out, HB5.out⟩
            · have HE : Hid (R = l' ∧ rn = 1) := Lib.hid (by have := HR.out; rw [tfR_arr HTV.out (by have := HLA.out; omega)] at this; injection this with h1 h2; exact ⟨h1.symm, h2.symm⟩)
              go_wp2_with fail
              go_ret2
              exact ⟨_, by rw [HE.out.2]; rfl, by rw [HE.out.1, HL'.out]; exact HO9.out, HBQ.out⟩
end Go.Proofs.Ytadgmncngkkdnaa
