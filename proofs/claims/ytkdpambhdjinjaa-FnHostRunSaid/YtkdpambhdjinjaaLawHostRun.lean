/-
  The walk of the law of HostRun.
-/
import Derived.Test.YtkdpambhdjinjaaDrawHostRun
import Derived.Test.YtkdpambhdjinjaaHost6
import Derived.Test.YtkdpambhdjinjaaTab
import Derived.Deep.DeepCutAuto
namespace Go.Proofs.Ytkdpambhdjinjaa
open Go.ChangeShapes Go.WideShapes Go.ChangeAt Go.RowKit Go.Joins
set_option linter.unusedVariables false

theorem hr_shift (s : ByteArray) (f u : Int) (t : Int) (g : Bool) (ts : List Int) (gs : List Bool) (k : Nat) :
    hrS s f u (t :: ts) (g :: gs) (k + 1) = ⟨(hrS s (hrStep s ⟨f, u, 0⟩ t g).f (hrStep s ⟨f, u, 0⟩ t g).u ts gs k).f, (hrS s (hrStep s ⟨f, u, 0⟩ t g).f (hrStep s ⟨f, u, 0⟩ t g).u ts gs k).u, (hrS s (hrStep s ⟨f, u, 0⟩ t g).f (hrStep s ⟨f, u, 0⟩ t g).u ts gs k).m + (hrStep s ⟨f, u, 0⟩ t g).m⟩ := by
  induction k with
  | zero =>
    show hrStep s ⟨f, u, 0⟩ t g = _
    simp only [hrS]
    generalize hrStep s ⟨f, u, 0⟩ t g = p
    obtain ⟨a, b, c⟩ := p
    simp
  | succ k ih =>
    rw [hrS, ih]
    simp only [List.getD_cons_succ]
    generalize hrStep s ⟨f, u, 0⟩ t g = p
    rw [hrS]
    generalize hrS s p.f p.u ts gs k = q
    unfold hrStep
    simp only
    split
    · simp only [HS.mk.injEq, true_and]; omega
    · rfl
theorem st_hv {s : ByteArray} {f u n : Int} (g : Bool) (h : stV s f u n = true) : hvB s (stF f g) (stU f n g) = true := by
  simp only [stV, Bool.and_eq_true] at h
  obtain ⟨h1, ⟨hf1, hf2⟩, ⟨hu1, hu2⟩, hfu⟩ := hvB_iff.1 h.1
  obtain ⟨hn1, hn2⟩ := wi_iff.1 h.2
  cases g
  · have e1 : stF f false = min (f + 1) 20 := by simp [stF]
    have e2 : stU f n false = if 3 ≤ f + 1 then n + 100 * min (f + 1) 20 else 0 := by simp [stU]
    refine hvB_iff.2 ⟨h1, ?_, ?_, ?_⟩
    · rw [e1]; omega
    · rw [e2]; split <;> omega
    · rw [e1, e2]; split <;> omega
  · have e1 : stF f true = 0 := by simp [stF]
    have e2 : stU f n true = 0 := by simp [stU]
    rw [e1, e2]; exact hvB_iff.2 ⟨h1, by omega, by omega, by omega⟩
theorem hrStep_hv {s : ByteArray} {p : HS} {t : Int} {g : Bool} (h : hvB s p.f p.u = true) (ht : wi t 0 1000000 = true) : hvB s (hrStep s p t g).f (hrStep s p t g).u = true := by
  unfold hrStep
  split
  · exact st_hv g (by rw [stV, h, ht]; rfl)
  · exact h
theorem tOk_w' {ts : List Int} {k : Nat} (h : tOk ts k = true) : wi (ts.getD k 0) 0 1000000 = true := by
  unfold tOk at h; simp only [Bool.and_eq_true] at h; exact h.1
theorem hrS_hv {s : ByteArray} {f u : Int} {ts : List Int} {gs : List Bool} (h : hvB s f u = true) : ∀ k, tvTo ts k → hvB s (hrS s f u ts gs k).f (hrS s f u ts gs k).u = true := by
  intro k
  induction k with
  | zero => intro _; exact h
  | succ k ih =>
    intro ht
    exact hrStep_hv (ih (fun j hj => ht j (by omega))) (tOk_w' (ht k (by omega)))
theorem tv_tail {t : Int} {ts : List Int} (h : tvB (t :: ts) = true) : tvB ts = true := by
  obtain ⟨h1, h2⟩ := tvB_iff.1 h
  simp only [List.length_cons] at h1 h2
  refine tvB_iff.2 ⟨by omega, fun j hj => ?_⟩
  have := h2 (j + 1) (by omega)
  unfold tOk at this ⊢
  simp only [Bool.and_eq_true, Bool.or_eq_true, beq_iff_eq, decide_eq_true_eq, List.getD_cons_succ, Nat.add_sub_cancel] at this ⊢
  refine ⟨this.1, ?_⟩
  rcases this.2 with h | h
  · omega
  · cases j with
    | zero => exact .inl rfl
    | succ j => exact .inr (by simpa using h)
theorem hrV_parts {s : ByteArray} {f u : Int} {ts : List Int} {gs : List Bool} (h : hrV s f u ts gs = true) : hvB s f u = true ∧ ts.length = gs.length ∧ tvB ts = true := by
  simp only [hrV, Bool.and_eq_true, beq_iff_eq] at h; exact ⟨h.1.1, h.1.2, h.2⟩
theorem hrV_tail {s : ByteArray} {f u t : Int} {g : Bool} {ts : List Int} {gs : List Bool} (h : hrV s f u (t :: ts) (g :: gs) = true) : hrV s (hrStep s ⟨f, u, 0⟩ t g).f (hrStep s ⟨f, u, 0⟩ t g).u ts gs = true := by
  obtain ⟨h1, h2, h3⟩ := hrV_parts h
  have h0 := (tvB_iff.1 h3).2 0 (by simp)
  exact hrV_yes (hrStep_hv h1 (by simpa using tOk_w' h0)) (by simpa using h2) (tv_tail h3)

set_option maxRecDepth 100000 in
set_option maxHeartbeats 8000000 in
theorem walkHostRun (a : Option Addr) (len cap : Nat) (zs : List Int) (w : World) (h : IsCode w a len cap zs) :
    Calls Try.prog 9 #[.slice a len cap] w fun e w' => e = .returned (.bool true) ∧ Below w.heap.size w w' := by
  obtain ⟨hl, hm⟩ := code_len h
  unfold maxLen at hm
  have H := Lib.hid h; clear h
  by_cases hb : (1048576 : Int) < (len : Int)
  · go_enter Try.func9, Try.ntmps9
    go_wp2
    go_ret
    exact ⟨rfl, Below.refl _ _⟩
  · go_enter Try.func9, Try.ntmps9
    go_wp2_with fail
    refine (dhrun_any _ _ _ _ _ _ H.out (Below.refl _ _)).mono ?_
    rintro e x1 ⟨s, f, u, v1, v2, n, m, ts, gs, rfl, hsm, hn, hm2, ho1, ho2, hb1⟩
    obtain ⟨A1, c1, rfl, hnc1, hcm1, _⟩ := own_form ho1
    obtain ⟨A2, c2, rfl, hnc2, hcm2, _⟩ := own_form ho2
    have HS : Hid (s.size ≤ maxLen) := Lib.hid (by have := hsm.1; unfold maxLen; omega)
    have HB1 := Lib.hid hb1
    have HN : Hid (n ≤ 1048576) := Lib.hid (by omega)
    have HL1 := Lib.hid (rd_ilen (rd_own ho1)); have HL2 := Lib.hid (rd_blen (rd_own ho2))
    have HC1 := Lib.hid hnc1; have HC2 := Lib.hid hnc2; have HM1 := Lib.hid hcm1; have HM2 := Lib.hid hcm2
    have R1 := Lib.hid ho1; have R2 := Lib.hid ho2
    clear ho1 ho2 hb1 hsm hnc1 hnc2 hcm1 hcm2
    generalize hr : hrR s f u ts gs = Rr
    generalize hwd : hrW s f u ts gs = Wd
    have HR := Lib.hid hr; have HWD := Lib.hid hwd; clear hr hwd
    obtain ⟨zf, zu, zm⟩ := Rr
    go_wp2_with fail
    have hK : SB (x1.alloc (.cells #[.string s, .int .i64 f, .int .i64 u] 26)) x1.heap.size s f u := SB.new x1 _ _ _ rfl
    have hB2 : Below w.heap.size w (x1.alloc (.cells #[.string s, .int .i64 f, .int .i64 u] 26)) := HB1.out.alloc HB1.out.size _
    have q1 := Lib.hid (R1.out.alloc (.cells #[.string s, .int .i64 f, .int .i64 u] 26)); have q2 := Lib.hid (R2.out.alloc (.cells #[.string s, .int .i64 f, .int .i64 u] 26))
    generalize x1.alloc (.cells #[.string s, .int .i64 f, .int .i64 u] 26) = x2 at *
    generalize x1.heap.size = gh at *
    have K2 := Lib.hid hK; have HB2 := Lib.hid hB2
    clear hK hB2 HB1 R1 R2
    refine (ihr_any s f u A1 A2 n c1 m c2 ts gs x2 HS.out (rd_own q1.out) (rd_own q2.out) HN.out).mono ?_
    rw [HR.out, HWD.out]
    rintro e x3 ⟨rfl, hb3⟩
    have K3 := Lib.hid (K2.out.below hb3); have r1 := Lib.hid (own_below q1.out hb3); have r2 := Lib.hid (own_below q2.out hb3); have HB3 := Lib.hid (belB HB2.out HB2.out.size hb3)
    clear hb3 K2 q1 q2 HB2
    obtain ⟨⟨h0, h1, h2⟩, _⟩ := K3.out.cells
    have hgl := K3.out.lt
    go_wp2_with fail
    clear h0 h1 h2
    have hG : SB (x3.alloc (.cells #[.string Wd, .int .i64 zf, .int .i64 zu] 26)) x3.heap.size Wd zf zu := SB.new x3 _ _ _ rfl
    have hK := K3.out.alloc (.cells #[.string Wd, .int .i64 zf, .int .i64 zu] 26)
    have hB4 : Below w.heap.size w (x3.alloc (.cells #[.string Wd, .int .i64 zf, .int .i64 zu] 26)) := HB3.out.alloc HB3.out.size _
    have q1 := Lib.hid (r1.out.alloc (.cells #[.string Wd, .int .i64 zf, .int .i64 zu] 26)); have q2 := Lib.hid (r2.out.alloc (.cells #[.string Wd, .int .i64 zf, .int .i64 zu] 26))
    generalize x3.alloc (.cells #[.string Wd, .int .i64 zf, .int .i64 zu] 26) = x4 at *
    generalize x3.heap.size = gg at *
    have K4 := Lib.hid hK; have G4 := Lib.hid hG; have HB4 := Lib.hid hB4
    clear hK hG hB4 HB3 r1 r2 K3 hgl
    refine (shr_any s f u A1 A2 n c1 m c2 ts gs x4 HS.out (rd_own q1.out) (rd_own q2.out) HN.out).mono ?_
    rw [HR.out, HWD.out]
    rintro e x5 ⟨rfl, hb5⟩
    have K5 := Lib.hid (K4.out.below hb5); have G5 := Lib.hid (G4.out.below hb5); have r1 := Lib.hid (own_below q1.out hb5); have r2 := Lib.hid (own_below q2.out hb5); have HB5 := Lib.hid (belB HB4.out HB4.out.size hb5)
    clear hb5 K4 G4 q1 q2 HB4
    obtain ⟨⟨h0, h1, h2⟩, _⟩ := K5.out.cells
    have hgl := K5.out.lt
    obtain ⟨⟨g0, g1, g2⟩, _⟩ := G5.out.cells
    have hgl2 := G5.out.lt
    cases hv : hrV s f u ts gs
    · have e1 := (hr_no hv).1; have e2 := (hr_no hv).2
      rw [HWD.out] at e1; rw [HR.out] at e2
      injection e2 with e2 e3 e4
      subst e1 e2 e3 e4
      clear hv
      go_wp2_with (go_at_call 18; refine (alive_any _).mono ?_; rintro e w' ⟨rfl, rfl⟩)
      go_ret
      exact ⟨rfl, HB5.out.alloc HB5.out.size _⟩
    · obtain ⟨e1, e2⟩ := hr_yes hv
      rw [HWD.out] at e1; rw [HR.out, HL1.out] at e2
      obtain ⟨p1, p2, p3⟩ := hrV_parts hv
      have hmb := hrS_m s f u ts gs n
      rw [← e2] at hmb
      obtain ⟨hm0, hm1⟩ := hmb
      simp only at hm0 hm1
      have hm0' : ¬ zm < 0 := by omega
      have hfin : hvB s zf zu = true := by
        have := hrS_hv p1 (gs := gs) n (by have := (tvB_iff.1 p3).2; rw [HL1.out] at this; exact this)
        rw [← e2] at this; exact this
      have HFIN := Lib.hid hfin; have E2 := Lib.hid e2; have HV := Lib.hid hv; have P1 := Lib.hid p1
      subst e1
      obtain rfl : n = m := by rw [← HL1.out, ← HL2.out]; exact p2
      clear e2 hfin hv p1 p2 p3
      by_cases hn0 : n = 0
      · have hn0' : ((n : Int) == 0) = true := by simp [hn0]
        have ez := E2.out
        rw [hn0] at ez
        simp only [hrS] at ez
        injection ez with e3 e4 e5
        subst e3 e4 e5
        go_wp2_with (go_at_call 18; refine (alive_any _).mono ?_; rintro e w' ⟨rfl, rfl⟩)
        go_ret
        exact ⟨rfl, HB5.out.alloc HB5.out.size _⟩
      · have hn0' : ((n : Int) == 0) = false := by simp [hn0]
        have hnp : 0 < n := by omega
        clear hn0
        obtain ⟨t, ts', rfl⟩ : ∃ t ts', ts = t :: ts' := by
          cases ts with
          | nil => have := HL1.out; simp at this; omega
          | cons t ts' => exact ⟨t, ts', rfl⟩
        obtain ⟨g, gs', rfl⟩ : ∃ g gs', gs = g :: gs' := by
          cases gs with
          | nil => have := HL2.out; simp at this; omega
          | cons g gs' => exact ⟨g, gs', rfl⟩
        obtain ⟨b1, off1, t1, rfl, hbl1, ht1, hc1⟩ := (rd_own r1.out).iv hnp
        obtain ⟨b2, off2, g1', rfl, hbl2, ht2, hc2⟩ := (rd_own r2.out).bv hnp
        simp only [List.getElem?_cons_zero, Option.some.injEq] at ht1 ht2
        subst ht1 ht2
        have hc1 : x5.cell? ⟨b1, off1, none⟩ = some (.int .i64 t) := hc1
        have hc2 : x5.cell? ⟨b2, off2, none⟩ = some (.bool g) := hc2
        go_wp2_with fail
        clear h0 h1 h2 g0 g1 g2
        have hT : SB ((x5.alloc (.cells #[.string Wd, .int .i64 zf, .int .i64 zu] 26)).alloc (.cells #[.string Wd, .int .i64 f, .int .i64 u] 26)) (x5.heap.size + 1) Wd f u := SB.new _ _ _ _ (by simp)
        have hK := (K5.out.alloc (.cells #[.string Wd, .int .i64 zf, .int .i64 zu] 26)).alloc (.cells #[.string Wd, .int .i64 f, .int .i64 u] 26)
        have hG := (G5.out.alloc (.cells #[.string Wd, .int .i64 zf, .int .i64 zu] 26)).alloc (.cells #[.string Wd, .int .i64 f, .int .i64 u] 26)
        have hB6 : Below w.heap.size w ((x5.alloc (.cells #[.string Wd, .int .i64 zf, .int .i64 zu] 26)).alloc (.cells #[.string Wd, .int .i64 f, .int .i64 u] 26)) := (HB5.out.alloc HB5.out.size _).alloc (by have := HB5.out.size; simp; omega) _
        have hd1 := (((Below.refl x5.heap.size x5).alloc (Nat.le_refl _) (.cells #[.string Wd, .int .i64 zf, .int .i64 zu] 26)).alloc (by simp) (.cells #[.string Wd, .int .i64 f, .int .i64 u] 26)).cell (p := ⟨b1, off1, none⟩) hbl1 |>.trans hc1
        have hd2 := (((Below.refl x5.heap.size x5).alloc (Nat.le_refl _) (.cells #[.string Wd, .int .i64 zf, .int .i64 zu] 26)).alloc (by simp) (.cells #[.string Wd, .int .i64 f, .int .i64 u] 26)).cell (p := ⟨b2, off2, none⟩) hbl2 |>.trans hc2
        have q1 := Lib.hid ((r1.out.alloc (.cells #[.string Wd, .int .i64 zf, .int .i64 zu] 26)).alloc (.cells #[.string Wd, .int .i64 f, .int .i64 u] 26)); have q2 := Lib.hid ((r2.out.alloc (.cells #[.string Wd, .int .i64 zf, .int .i64 zu] 26)).alloc (.cells #[.string Wd, .int .i64 f, .int .i64 u] 26))
        have hbl1' : b1 < ((x5.alloc (.cells #[.string Wd, .int .i64 zf, .int .i64 zu] 26)).alloc (.cells #[.string Wd, .int .i64 f, .int .i64 u] 26)).heap.size := by simp; omega
        have hbl2' : b2 < ((x5.alloc (.cells #[.string Wd, .int .i64 zf, .int .i64 zu] 26)).alloc (.cells #[.string Wd, .int .i64 f, .int .i64 u] 26)).heap.size := by simp; omega
        have hne1 : gh ≠ x5.heap.size + 1 := by omega
        have hne2 : gg ≠ x5.heap.size + 1 := by omega
        have hws : w.heap.size ≤ x5.heap.size + 1 := by have := HB5.out.size; omega
        have hap1 : some (x5.heap.size + 1) ≠ (Value.slice (some ⟨b1, off1, none⟩) n c1).ownBlock := fun e => by have := (r1.out.lt _ e.symm).2; omega
        have hap2 : some (x5.heap.size + 1) ≠ (Value.slice (some ⟨b2, off2, none⟩) n c2).ownBlock := fun e => by have := (r2.out.lt _ e.symm).2; omega
        clear hc1 hc2 hbl1 hbl2 hgl hgl2
        generalize (x5.alloc (.cells #[.string Wd, .int .i64 zf, .int .i64 zu] 26)).alloc (.cells #[.string Wd, .int .i64 f, .int .i64 u] 26) = x6 at *
        generalize x5.heap.size + 1 = gt at *
        have K6 := Lib.hid hK; have G6 := Lib.hid hG; have T6 := Lib.hid hT; have HB6 := Lib.hid hB6
        clear hK hG hT hB6 K5 G5 r1 r2 HB5
        obtain ⟨⟨h0, h1, h2⟩, _⟩ := K6.out.cells
        have htw : wi t 0 1000000 = true := by
          have h3 := (hrV_parts HV.out).2.2
          simpa using tOk_w' ((tvB_iff.1 h3).2 0 (by simp))
        have HTW := Lib.hid htw; clear htw
        go_still_tail 4, (by kernel_rfl)
        change wpList _ _ _ _ _ x6.drew
        go_wp2_with fail
        refine (imt_b _ _ _ _ _ HS.out).mono ?_
        rintro e x7 ⟨rfl, hb7⟩
        have hb7 := beld hb7
        have K7 := Lib.hid (K6.out.below hb7); have G7 := Lib.hid (G6.out.below hb7); have T7 := Lib.hid (T6.out.below hb7); have r1 := Lib.hid (own_below q1.out hb7); have r2 := Lib.hid (own_below q2.out hb7); have HB7 := Lib.hid (belB HB6.out HB6.out.size hb7)
        have he1 := (hb7.cell (p := ⟨b1, off1, none⟩) hbl1').trans hd1
        have he2 := (hb7.cell (p := ⟨b2, off2, none⟩) hbl2').trans hd2
        clear hb7 h0 h1 h2 hd1 hd2 K6 G6 T6 q1 q2 HB6 hbl1' hbl2'
        obtain ⟨⟨h0, h1, h2⟩, _⟩ := K7.out.cells
        have hglk := K7.out.lt
        have hgt := T7.out.lt
        obtain ⟨⟨k0, k1, k2⟩, f0, f1, f2⟩ := T7.out.cells
        cases hmt : mtB Wd f u t
        · have HST : Hid (hrStep Wd ⟨f, u, 0⟩ t g = ⟨f, u, 0⟩) := Lib.hid (by rw [hrStep, if_neg (by rw [hmt]; simp)])
          have HCON : Hid (∀ (x : World) (A B : Option Addr) (c d : Nat), Rd x 1 A (n - 1) (iv ts') → Rd x 1 B (n - 1) (bvs gs') → Calls Try.prog 25 #[sv Wd f u, .slice A (n - 1) c, .slice B (n - 1) d] x fun e w' => e = .returned (.tuple #[sv Wd zf zu, .int .i64 zm]) ∧ Below x.heap.size x w') := by
            refine Lib.hid ?_
            intro x A B c d r1 r2
            have hst : hrStep Wd ⟨f, u, 0⟩ t g = ⟨f, u, 0⟩ := HST.out
            have hvt := hrV_tail HV.out
            have e := E2.out
            rw [show n = (n - 1) + 1 by omega, hr_shift] at e
            rw [hst] at hvt e
            have hsz : ts'.length = n - 1 := by have := HL1.out; simp at this; omega
            have := ihr_any Wd f u A B (n - 1) c (n - 1) d ts' gs' x HS.out r1 r2 (by have := HN.out; omega)
            rw [(hr_yes hvt).1, (hr_yes hvt).2, hsz] at this
            injection e with ea eb ec
            simp only at ea eb ec this
            rw [← ea, ← eb] at this
            rw [show zm = (hrS Wd f u ts' gs' (n - 1)).m by rw [ec]; omega]
            exact this
          have cu1 : Rd x7 1 (if c1 = 1 then some ⟨b1, off1, none⟩ else some ⟨b1, off1 + 1, none⟩) (n - 1) (iv ts') := by
            have := (rd_own r1.out).cut (k := 1) hnp HC1.out
            by_cases hc : c1 = 1
            · rw [if_pos hc] at this ⊢; exact this
            · rw [if_neg hc] at this ⊢; exact this
          have cu2 : Rd x7 1 (if c2 = 1 then some ⟨b2, off2, none⟩ else some ⟨b2, off2 + 1, none⟩) (n - 1) (bvs gs') := by
            have := (rd_own r2.out).cut (k := 1) hnp HC2.out
            by_cases hc : c2 = 1
            · rw [if_pos hc] at this ⊢; exact this
            · rw [if_neg hc] at this ⊢; exact this
          have hgtT : gt < x7.heap.size := T7.out.lt
          have hnp1 : 1 ≤ n := hnp
          have hnc1 := HC1.out; have hnc2 := HC2.out
          have hcm1 := HM1.out; have hcm2 := HM2.out
          unfold maxLen at hcm1 hcm2
          go_wp2_with fail
          refine wp_region_inv' (TabJ 12 (fun j => [86, 87, 88, 89, 90, 91, 85, 92, 93, 12, 1010, 13].getD j 0) (fun j v => match j with
            | 0 => v = .agg #[.string Wd, .int .i64 f, .int .i64 u]
            | 1 => v = .slice (some ⟨b1, off1, none⟩) n c1
            | 2 => ∃ A' c', v = .slice A' (n - 1) c' ∧ Rd x7 1 A' (n - 1) (iv ts')
            | 3 => v = .slice (some ⟨b2, off2, none⟩) n c2
            | 4 => ∃ A' c', v = .slice A' (n - 1) c' ∧ Rd x7 1 A' (n - 1) (bvs gs')
            | 5 => v = .tuple #[.agg #[.string Wd, .int .i64 zf, .int .i64 zu], .int .i64 (zm)]
            | 6 => v = .tuple #[.agg #[.string Wd, .int .i64 zf, .int .i64 zu], .int .i64 (zm)]
            | 7 => v = .agg #[.string Wd, .int .i64 zf, .int .i64 zu]
            | 8 => v = .int .i64 (zm)
            | 11 => v = .int .i64 (zm)
            | _ => True) 19 (undef) 9 10 26 #[.string ⟨#[]⟩, .int .i64 0, .int .i64 0] #[.string Wd, .int .i64 zf, .int .i64 zu] x7) (by kernel_rfl) (regOkI_of (by kernel_rfl)) (TabJ.start (by intro h; exact absurd h (by decide))) ?_ ?_
          · intro i o ff bx wb ho hf hrd hcl hsz hfr hJ K hK
            have hi := (Array.getElem?_eq_some_iff.1 ho).1
            simp only [List.size_toArray, List.length_cons, List.length_nil] at hi
            have hcases : i = 0 ∨ i = 1 ∨ i = 2 ∨ i = 3 ∨ i = 4 ∨ i = 5 ∨ i = 6 ∨ i = 7 ∨ i = 8 ∨ i = 9 ∨ i = 10 ∨ i = 11 := by omega
            have hB := hJ.below.size
            rcases hcases with rfl | rfl | rfl | rfl | rfl | rfl | rfl | rfl | rfl | rfl | rfl | rfl
            · cases (show some _ = some o from ho)
              refine ite_yes (by rfl) ?_
              have h10 : bx.tmps.getD 10 undef = .pointer (some ⟨gt, 0, none⟩) := hfr 10 (noDst_of (by kernel_rfl))
              have f10 := getD_opt h10
              have d0 := (hJ.below.cell (p := ⟨gt, 0, none⟩) hgtT).trans k0
              have d1 := (hJ.below.cell (p := ⟨gt, 1, none⟩) hgtT).trans k1
              have d2 := (hJ.below.cell (p := ⟨gt, 2, none⟩) hgtT).trans k2
              have HK := Lib.hid hK
              have HJ := Lib.hid hJ
              clear hK hJ hcl hrd hfr hsz ho
              go_simp
              exact HK.out _ _ (HJ.out.pure (by decide +kernel) 0 (by decide) (by decide) (by decide) rfl)
            · cases (show some _ = some o from ho)
              refine ite_yes (by rfl) ?_
              have h4 : bx.tmps.getD 4 undef = .slice (some ⟨b1, off1, none⟩) n c1 := hfr 4 (noDst_of (by kernel_rfl))
              have f4 := getD_opt h4
              have HK := Lib.hid hK
              have HJ := Lib.hid hJ
              clear hK hJ hcl hrd hfr hsz ho
              go_simp
              exact HK.out _ _ (HJ.out.pure (by decide +kernel) 1 (by decide) (by decide) (by decide) rfl)
            · cases (show some _ = some o from ho)
              refine ite_yes (by rfl) ?_
              have h87 : bx.tmps.getD 87 undef = .slice (some ⟨b1, off1, none⟩) n c1 := hJ.m 1 (by decide) (hrd ⟨1, .data⟩ (by simp) rfl)
              have f87 := getD_opt h87
              have HK := Lib.hid hK
              have HJ := Lib.hid hJ
              have hR := cu1
              clear hK hJ hcl hrd hfr hsz ho
              by_cases hx : c1 = 1
              · rw [if_pos hx] at hR
                have hn1 : n = 1 := by omega
                go_simp
                try rw [if_pos (by omega)]
                exact HK.out _ _ (HJ.out.pure (by decide +kernel) 2 (by decide) (by decide) (by decide) ⟨_, 0, by first | rfl | (rw [show n - 1 = 0 by omega]), hR⟩)
              · rw [if_neg hx] at hR
                have hx' : (c1 == 1) = false := by simpa using hx
                have hx2 : 1 < c1 := by omega
                have hx3 : 1 ≤ c1 := by omega
                go_simp
                try rw [if_pos (by omega)]
                exact HK.out _ _ (HJ.out.pure (by decide +kernel) 2 (by decide) (by decide) (by decide) ⟨_, _, rfl, hR⟩)
            · cases (show some _ = some o from ho)
              refine ite_yes (by rfl) ?_
              have h5 : bx.tmps.getD 5 undef = .slice (some ⟨b2, off2, none⟩) n c2 := hfr 5 (noDst_of (by kernel_rfl))
              have f5 := getD_opt h5
              have HK := Lib.hid hK
              have HJ := Lib.hid hJ
              clear hK hJ hcl hrd hfr hsz ho
              go_simp
              exact HK.out _ _ (HJ.out.pure (by decide +kernel) 3 (by decide) (by decide) (by decide) rfl)
            · cases (show some _ = some o from ho)
              refine ite_yes (by rfl) ?_
              have h89 : bx.tmps.getD 89 undef = .slice (some ⟨b2, off2, none⟩) n c2 := hJ.m 3 (by decide) (hrd ⟨3, .data⟩ (by simp) rfl)
              have f89 := getD_opt h89
              have HK := Lib.hid hK
              have HJ := Lib.hid hJ
              have hR := cu2
              clear hK hJ hcl hrd hfr hsz ho
              by_cases hx : c2 = 1
              · rw [if_pos hx] at hR
                have hn1 : n = 1 := by omega
                go_simp
                try rw [if_pos (by omega)]
                exact HK.out _ _ (HJ.out.pure (by decide +kernel) 4 (by decide) (by decide) (by decide) ⟨_, 0, by first | rfl | (rw [show n - 1 = 0 by omega]), hR⟩)
              · rw [if_neg hx] at hR
                have hx' : (c2 == 1) = false := by simpa using hx
                have hx2 : 1 < c2 := by omega
                have hx3 : 1 ≤ c2 := by omega
                go_simp
                try rw [if_pos (by omega)]
                exact HK.out _ _ (HJ.out.pure (by decide +kernel) 4 (by decide) (by decide) (by decide) ⟨_, _, rfl, hR⟩)
            · cases (show some _ = some o from ho)
              refine ite_yes (by rfl) ?_
              obtain ⟨A1', c1', h88, hr1⟩ := hJ.m 2 (by decide) (hrd ⟨2, .data⟩ (by simp) rfl)
              obtain ⟨A2', c2', h90, hr2⟩ := hJ.m 4 (by decide) (hrd ⟨4, .data⟩ (by simp) rfl)
              have h88 : bx.tmps.getD 88 undef = _ := h88
              have h90 : bx.tmps.getD 90 undef = _ := h90
              have h86 : bx.tmps.getD 86 undef = .agg #[.string Wd, .int .i64 f, .int .i64 u] := hJ.m 0 (by decide) (hrd ⟨0, .data⟩ (by simp) rfl)
              have f86 := getD_opt h86
              have f88 := getD_opt h88
              have f90 := getD_opt h90
              have HK := Lib.hid hK
              have HJ := Lib.hid hJ
              clear hK hJ hcl hrd hfr hsz ho h86 h88 h90
              go_simp
              refine (HCON.out wb A1' A2' c1' c2' (hr1.below HJ.out.below) (hr2.below HJ.out.below)).mono ?_
              rintro e w' ⟨rfl, hb⟩
              exact HK.out _ _ (HJ.out.step (by decide +kernel) 5 (by decide) (by decide) (by decide) hb rfl)
            · cases (show some _ = some o from ho)
              refine ite_yes (by rfl) ?_
              have h91 : bx.tmps.getD 91 undef = .tuple #[.agg #[.string Wd, .int .i64 zf, .int .i64 zu], .int .i64 (zm)] := hJ.m 5 (by decide) (hrd ⟨5, .data⟩ (by simp) rfl)
              have f91 := getD_opt h91
              have HK := Lib.hid hK
              have HJ := Lib.hid hJ
              clear hK hJ hcl hrd hfr hsz ho
              go_simp
              exact HK.out _ _ (HJ.out.pure (by decide +kernel) 6 (by decide) (by decide) (by decide) rfl)
            · cases (show some _ = some o from ho)
              refine ite_yes (by rfl) ?_
              have h85 : bx.tmps.getD 85 undef = .tuple #[.agg #[.string Wd, .int .i64 zf, .int .i64 zu], .int .i64 (zm)] := hJ.m 6 (by decide) (hrd ⟨6, .data⟩ (by simp) rfl)
              have f85 := getD_opt h85
              have HK := Lib.hid hK
              have HJ := Lib.hid hJ
              clear hK hJ hcl hrd hfr hsz ho
              go_simp
              exact HK.out _ _ (HJ.out.pure (by decide +kernel) 7 (by decide) (by decide) (by decide) rfl)
            · cases (show some _ = some o from ho)
              refine ite_yes (by rfl) ?_
              have h85 : bx.tmps.getD 85 undef = .tuple #[.agg #[.string Wd, .int .i64 zf, .int .i64 zu], .int .i64 (zm)] := hJ.m 6 (by decide) (hrd ⟨6, .data⟩ (by simp) rfl)
              have f85 := getD_opt h85
              have HK := Lib.hid hK
              have HJ := Lib.hid hJ
              clear hK hJ hcl hrd hfr hsz ho
              go_simp
              exact HK.out _ _ (HJ.out.pure (by decide +kernel) 8 (by decide) (by decide) (by decide) rfl)
            · cases (show some _ = some o from ho)
              refine ite_yes (by rfl) ?_
              have hjs : ff 10 = false := by
                cases e : ff 10
                · rfl
                · exfalso
                  have e1 := hcl 10 _ ⟨9, .data⟩ rfl e (by simp) rfl
                  rw [show ff 9 = true from e1] at hf; cases hf
              have HK := Lib.hid hK
              have HJ := Lib.hid hJ
              clear hK hJ hcl hrd hfr hsz ho
              go_simp
              exact HK.out _ _ (HJ.out.alloc (by decide +kernel) (by decide) hjs (by decide) (by decide) (fun _ => trivial))
            · cases (show some _ = some o from ho)
              refine ite_yes (by rfl) ?_
              have hfa : ff 9 = true := hrd ⟨9, .data⟩ (by simp) rfl
              obtain ⟨g, e1, e2, e3⟩ := hJ.blk (by decide) hfa
              rw [hf, if_neg (by simp)] at e3
              have h12 : bx.tmps.getD 12 undef = .pointer (some ⟨g, 0, none⟩) := e1
              have f12 := getD_opt h12
              have h92 : bx.tmps.getD 92 undef = .agg #[.string Wd, .int .i64 zf, .int .i64 zu] := hJ.m 7 (by decide) (hrd ⟨7, .data⟩ (by simp) rfl)
              have f92 := getD_opt h92
              have z0' := e3.cell 0 (v := .string ⟨#[]⟩) rfl
              have z1' := e3.cell 1 (v := .int .i64 0) rfl
              have z2' := e3.cell 2 (v := .int .i64 0) rfl
              have y0' := e3.free 0
              have y1' := e3.free 1
              have y2' := e3.free 2
              have yl' := e3.lt
              have HK := Lib.hid hK
              have HJ := Lib.hid hJ
              have E1 := Lib.hid e1
              have E3 := Lib.hid e3
              clear hK hJ hcl hrd hfr hsz ho e1 e3 h12 h92
              go_simp
              exact HK.out undef _ (HJ.out.store (by decide) hfa (by decide) (by decide) (fun _ => trivial) E1.out e2 (((E3.out.set_ 0 (.string Wd)).set_ 1 (.int .i64 zf)).set_ 2 (.int .i64 zu)) ((((Below.refl g wb).setCell (Nat.le_refl _) _).setCell (Nat.le_refl _) _).setCell (Nat.le_refl _) _))
            · cases (show some _ = some o from ho)
              refine ite_yes (by rfl) ?_
              have h93 : bx.tmps.getD 93 undef = .int .i64 (zm) := hJ.m 8 (by decide) (hrd ⟨8, .data⟩ (by simp) rfl)
              have f93 := getD_opt h93
              have HK := Lib.hid hK
              have HJ := Lib.hid hJ
              clear hK hJ hcl hrd hfr hsz ho
              go_simp
              exact HK.out _ _ (HJ.out.pure (by decide +kernel) 11 (by decide) (by decide) (by decide) rfl)
          · intro ff bx wb hall hsz hdf hfr hJ
            have HBW := Lib.hid hJ.below
            obtain ⟨tm, df⟩ := bx
            obtain rfl : df = [] := hdf
            have q4 : tm.getD 4 undef = .slice (some ⟨b1, off1, none⟩) n c1 := hfr 4 (noDst_of (by kernel_rfl))
            have q6 : tm.getD 6 undef = .pointer (some ⟨gg, 0, none⟩) := hfr 6 (noDst_of (by kernel_rfl))
            have q7 : tm.getD 7 undef = .int .i64 zm := hfr 7 (noDst_of (by kernel_rfl))
            have q11 : tm.getD 11 undef = .int .i64 0 := hfr 11 (noDst_of (by kernel_rfl))
            have q13 : tm.getD 13 undef = .int .i64 (zm) := hJ.m 11 (by decide) (hall 11 (by decide))
            obtain ⟨ga, q12, hga, hka⟩ := hJ.blk (by decide) (hall 9 (by decide))
            rw [hall 10 (by decide), if_pos rfl] at hka
            have q12 : tm.getD 12 undef = .pointer (some ⟨ga, 0, none⟩) := q12
            have HKA := Lib.hid hka; have HGA := Lib.hid hga
            clear hka hga
            have q := lit_of tm 114 hsz
            simp only [List.range, List.range.loop, List.map, q4, q6, q7, q11, q13, q12] at q
            have HQ := Lib.hid q
            clear q hsz hfr hJ hall q4 q6 q7 q11 q13 q12
            rw [HQ.out]
            generalize tm.getD 0 undef = x0
            generalize tm.getD 1 undef = x1
            generalize tm.getD 2 undef = x2
            generalize tm.getD 3 undef = x3
            generalize tm.getD 5 undef = x5
            generalize tm.getD 8 undef = x8
            generalize tm.getD 9 undef = x9
            generalize tm.getD 10 undef = x10
            generalize tm.getD 14 undef = x14
            generalize tm.getD 15 undef = x15
            generalize tm.getD 16 undef = x16
            generalize tm.getD 17 undef = x17
            generalize tm.getD 18 undef = x18
            generalize tm.getD 19 undef = x19
            generalize tm.getD 20 undef = x20
            generalize tm.getD 21 undef = x21
            generalize tm.getD 22 undef = x22
            generalize tm.getD 23 undef = x23
            generalize tm.getD 24 undef = x24
            generalize tm.getD 25 undef = x25
            generalize tm.getD 26 undef = x26
            generalize tm.getD 27 undef = x27
            generalize tm.getD 28 undef = x28
            generalize tm.getD 29 undef = x29
            generalize tm.getD 30 undef = x30
            generalize tm.getD 31 undef = x31
            generalize tm.getD 32 undef = x32
            generalize tm.getD 33 undef = x33
            generalize tm.getD 34 undef = x34
            generalize tm.getD 35 undef = x35
            generalize tm.getD 36 undef = x36
            generalize tm.getD 37 undef = x37
            generalize tm.getD 38 undef = x38
            generalize tm.getD 39 undef = x39
            generalize tm.getD 40 undef = x40
            generalize tm.getD 41 undef = x41
            generalize tm.getD 42 undef = x42
            generalize tm.getD 43 undef = x43
            generalize tm.getD 44 undef = x44
            generalize tm.getD 45 undef = x45
            generalize tm.getD 46 undef = x46
            generalize tm.getD 47 undef = x47
            generalize tm.getD 48 undef = x48
            generalize tm.getD 49 undef = x49
            generalize tm.getD 50 undef = x50
            generalize tm.getD 51 undef = x51
            generalize tm.getD 52 undef = x52
            generalize tm.getD 53 undef = x53
            generalize tm.getD 54 undef = x54
            generalize tm.getD 55 undef = x55
            generalize tm.getD 56 undef = x56
            generalize tm.getD 57 undef = x57
            generalize tm.getD 58 undef = x58
            generalize tm.getD 59 undef = x59
            generalize tm.getD 60 undef = x60
            generalize tm.getD 61 undef = x61
            generalize tm.getD 62 undef = x62
            generalize tm.getD 63 undef = x63
            generalize tm.getD 64 undef = x64
            generalize tm.getD 65 undef = x65
            generalize tm.getD 66 undef = x66
            generalize tm.getD 67 undef = x67
            generalize tm.getD 68 undef = x68
            generalize tm.getD 69 undef = x69
            generalize tm.getD 70 undef = x70
            generalize tm.getD 71 undef = x71
            generalize tm.getD 72 undef = x72
            generalize tm.getD 73 undef = x73
            generalize tm.getD 74 undef = x74
            generalize tm.getD 75 undef = x75
            generalize tm.getD 76 undef = x76
            generalize tm.getD 77 undef = x77
            generalize tm.getD 78 undef = x78
            generalize tm.getD 79 undef = x79
            generalize tm.getD 80 undef = x80
            generalize tm.getD 81 undef = x81
            generalize tm.getD 82 undef = x82
            generalize tm.getD 83 undef = x83
            generalize tm.getD 84 undef = x84
            generalize tm.getD 85 undef = x85
            generalize tm.getD 86 undef = x86
            generalize tm.getD 87 undef = x87
            generalize tm.getD 88 undef = x88
            generalize tm.getD 89 undef = x89
            generalize tm.getD 90 undef = x90
            generalize tm.getD 91 undef = x91
            generalize tm.getD 92 undef = x92
            generalize tm.getD 93 undef = x93
            generalize tm.getD 94 undef = x94
            generalize tm.getD 95 undef = x95
            generalize tm.getD 96 undef = x96
            generalize tm.getD 97 undef = x97
            generalize tm.getD 98 undef = x98
            generalize tm.getD 99 undef = x99
            generalize tm.getD 100 undef = x100
            generalize tm.getD 101 undef = x101
            generalize tm.getD 102 undef = x102
            generalize tm.getD 103 undef = x103
            generalize tm.getD 104 undef = x104
            generalize tm.getD 105 undef = x105
            generalize tm.getD 106 undef = x106
            generalize tm.getD 107 undef = x107
            generalize tm.getD 108 undef = x108
            generalize tm.getD 109 undef = x109
            generalize tm.getD 110 undef = x110
            generalize tm.getD 111 undef = x111
            generalize tm.getD 112 undef = x112
            generalize tm.getD 113 undef = x113
            clear HQ
            have hA := HKA.out
            have hG := G7.out.below HBW.out
            have HBZ := Lib.hid (belB HB7.out HB7.out.size HBW.out)
            obtain ⟨⟨p0, p1, p2⟩, _⟩ := hG.cells
            have pl := hG.lt
            have a0 := hA.cell 0 (v := .string Wd) rfl
            have a1 := hA.cell 1 (v := .int .i64 zf) rfl
            have a2 := hA.cell 2 (v := .int .i64 zu) rfl
            have al := hA.lt
            have hq : ((0 : Int) + (zm) == zm) = true := by simp; try omega
            have hq2 : (zm ≤ (n : Int)) := hm1
            clear HKA HGA HBW hA hG
            go_wp2_with fail
            refine (ihv_b _ _ _ _ HS.out).mono ?_
            rw [HFIN.out]
            rintro e w' ⟨rfl, hbz⟩
            have HBL := Lib.hid (belB HBZ.out HBZ.out.size hbz)
            clear hbz
            go_wp2_with fail
            go_ret
            exact ⟨rfl, HBL.out⟩
        · have HSV : Hid (stV Wd f u t = true) := Lib.hid (by rw [stV, mt_hv hmt, HTW.out]; rfl)
          go_wp2_with fail
          go_still_tail 7, (by kernel_rfl)
          change wpList _ _ _ _ _ x7.drew
          generalize hya : stF f g = ya at *
          generalize hyb : stU f t g = yb at *
          go_wp2_with fail
          refine (ist_b _ _ _ _ _ _ HS.out HSV.out).mono ?_
          rw [hya, hyb]
          rintro e x8 ⟨rfl, hb8⟩
          have hb8 := beld hb8
          have K8 := Lib.hid (K7.out.below hb8); have G8 := Lib.hid (G7.out.below hb8); have T8 := Lib.hid (T7.out.below hb8); have r3 := Lib.hid (own_below r1.out hb8); have r4 := Lib.hid (own_below r2.out hb8); have HB8 := Lib.hid (belB HB7.out HB7.out.size hb8)
          clear hb8 h0 h1 h2 k0 k1 k2 f0 f1 f2 he1 he2
          obtain ⟨⟨k0, k1, k2⟩, f0, f1, f2⟩ := T8.out.cells
          have hgt := T8.out.lt
          go_wp2_with fail
          have hT9 := T8.out.store Wd ya yb
          have hK9 := ((K8.out.far (p := ⟨gt, 0, none⟩) hne1 (.string Wd)).far (p := ⟨gt, 1, none⟩) hne1 (.int .i64 ya)).far (p := ⟨gt, 2, none⟩) hne1 (.int .i64 yb)
          have hG9 := ((G8.out.far (p := ⟨gt, 0, none⟩) hne2 (.string Wd)).far (p := ⟨gt, 1, none⟩) hne2 (.int .i64 ya)).far (p := ⟨gt, 2, none⟩) hne2 (.int .i64 yb)
          have hB9 : Below w.heap.size w (((x8.setCell ⟨gt, 0, none⟩ (.string Wd)).setCell ⟨gt, 1, none⟩ (.int .i64 ya)).setCell ⟨gt, 2, none⟩ (.int .i64 yb)) := ((HB8.out.setCell hws _).setCell hws _).setCell hws _
          have hq3 : some gt ≠ (Value.slice (some ⟨b1, off1, none⟩) n c1).ownBlock := hap1
          have hq4 : some gt ≠ (Value.slice (some ⟨b2, off2, none⟩) n c2).ownBlock := hap2
          have r5 := Lib.hid (own_set (own_set (own_set r3.out (p := ⟨gt, 0, none⟩) hq3 (.string Wd)) (p := ⟨gt, 1, none⟩) hq3 (.int .i64 ya)) (p := ⟨gt, 2, none⟩) hq3 (.int .i64 yb))
          have r6 := Lib.hid (own_set (own_set (own_set r4.out (p := ⟨gt, 0, none⟩) hq4 (.string Wd)) (p := ⟨gt, 1, none⟩) hq4 (.int .i64 ya)) (p := ⟨gt, 2, none⟩) hq4 (.int .i64 yb))
          generalize ((x8.setCell ⟨gt, 0, none⟩ (.string Wd)).setCell ⟨gt, 1, none⟩ (.int .i64 ya)).setCell ⟨gt, 2, none⟩ (.int .i64 yb) = x9 at *
          have T9 := Lib.hid hT9; have K9 := Lib.hid hK9; have G9 := Lib.hid hG9; have HB9 := Lib.hid hB9
          have hgt9 := hT9.lt
          have HST : Hid (hrStep Wd ⟨f, u, 0⟩ t g = ⟨ya, yb, 1⟩) := Lib.hid (by rw [hrStep, if_pos hmt, hya, hyb]; rfl)
          clear hT9 hK9 hG9 hB9 k0 k1 k2 f0 f1 f2 hgt hya hyb hmt
          have HCON : Hid (∀ (x : World) (A B : Option Addr) (c d : Nat), Rd x 1 A (n - 1) (iv ts') → Rd x 1 B (n - 1) (bvs gs') → Calls Try.prog 25 #[sv Wd ya yb, .slice A (n - 1) c, .slice B (n - 1) d] x fun e w' => e = .returned (.tuple #[sv Wd zf zu, .int .i64 (zm - 1)]) ∧ Below x.heap.size x w') := by
            refine Lib.hid ?_
            intro x A B c d r1 r2
            have hst : hrStep Wd ⟨f, u, 0⟩ t g = ⟨ya, yb, 1⟩ := HST.out
            have hvt := hrV_tail HV.out
            have e := E2.out
            rw [show n = (n - 1) + 1 by omega, hr_shift] at e
            rw [hst] at hvt e
            have hsz : ts'.length = n - 1 := by have := HL1.out; simp at this; omega
            have := ihr_any Wd ya yb A B (n - 1) c (n - 1) d ts' gs' x HS.out r1 r2 (by have := HN.out; omega)
            rw [(hr_yes hvt).1, (hr_yes hvt).2, hsz] at this
            injection e with ea eb ec
            simp only at ea eb ec this
            rw [← ea, ← eb] at this
            rw [show zm - 1 = (hrS Wd ya yb ts' gs' (n - 1)).m by rw [ec]; omega]
            exact this
          have cu1 : Rd x9 1 (if c1 = 1 then some ⟨b1, off1, none⟩ else some ⟨b1, off1 + 1, none⟩) (n - 1) (iv ts') := by
            have := (rd_own r5.out).cut (k := 1) hnp HC1.out
            by_cases hc : c1 = 1
            · rw [if_pos hc] at this ⊢; exact this
            · rw [if_neg hc] at this ⊢; exact this
          have cu2 : Rd x9 1 (if c2 = 1 then some ⟨b2, off2, none⟩ else some ⟨b2, off2 + 1, none⟩) (n - 1) (bvs gs') := by
            have := (rd_own r6.out).cut (k := 1) hnp HC2.out
            by_cases hc : c2 = 1
            · rw [if_pos hc] at this ⊢; exact this
            · rw [if_neg hc] at this ⊢; exact this
          -- REGION 15
          obtain ⟨⟨k0, k1, k2⟩, _⟩ := T9.out.cells
          have hgtT : gt < x9.heap.size := T9.out.lt
          have hnp1 : 1 ≤ n := hnp
          have hnc1 := HC1.out; have hnc2 := HC2.out
          have hcm1 := HM1.out; have hcm2 := HM2.out
          unfold maxLen at hcm1 hcm2
          refine wp_region_inv' (TabJ 12 (fun j => [86, 87, 88, 89, 90, 91, 85, 92, 93, 12, 1010, 13].getD j 0) (fun j v => match j with
            | 0 => v = .agg #[.string Wd, .int .i64 ya, .int .i64 yb]
            | 1 => v = .slice (some ⟨b1, off1, none⟩) n c1
            | 2 => ∃ A' c', v = .slice A' (n - 1) c' ∧ Rd x9 1 A' (n - 1) (iv ts')
            | 3 => v = .slice (some ⟨b2, off2, none⟩) n c2
            | 4 => ∃ A' c', v = .slice A' (n - 1) c' ∧ Rd x9 1 A' (n - 1) (bvs gs')
            | 5 => v = .tuple #[.agg #[.string Wd, .int .i64 zf, .int .i64 zu], .int .i64 (zm - 1)]
            | 6 => v = .tuple #[.agg #[.string Wd, .int .i64 zf, .int .i64 zu], .int .i64 (zm - 1)]
            | 7 => v = .agg #[.string Wd, .int .i64 zf, .int .i64 zu]
            | 8 => v = .int .i64 (zm - 1)
            | 11 => v = .int .i64 (zm - 1)
            | _ => True) 19 (undef) 9 10 26 #[.string ⟨#[]⟩, .int .i64 0, .int .i64 0] #[.string Wd, .int .i64 zf, .int .i64 zu] x9) (by kernel_rfl) (regOkI_of (by kernel_rfl)) (TabJ.start (by intro h; exact absurd h (by decide))) ?_ ?_
          · intro i o ff bx wb ho hf hrd hcl hsz hfr hJ K hK
            have hi := (Array.getElem?_eq_some_iff.1 ho).1
            simp only [List.size_toArray, List.length_cons, List.length_nil] at hi
            have hcases : i = 0 ∨ i = 1 ∨ i = 2 ∨ i = 3 ∨ i = 4 ∨ i = 5 ∨ i = 6 ∨ i = 7 ∨ i = 8 ∨ i = 9 ∨ i = 10 ∨ i = 11 := by omega
            have hB := hJ.below.size
            rcases hcases with rfl | rfl | rfl | rfl | rfl | rfl | rfl | rfl | rfl | rfl | rfl | rfl
            · cases (show some _ = some o from ho)
              refine ite_yes (by rfl) ?_
              have h10 : bx.tmps.getD 10 undef = .pointer (some ⟨gt, 0, none⟩) := hfr 10 (noDst_of (by kernel_rfl))
              have f10 := getD_opt h10
              have d0 := (hJ.below.cell (p := ⟨gt, 0, none⟩) hgtT).trans k0
              have d1 := (hJ.below.cell (p := ⟨gt, 1, none⟩) hgtT).trans k1
              have d2 := (hJ.below.cell (p := ⟨gt, 2, none⟩) hgtT).trans k2
              have HK := Lib.hid hK
              have HJ := Lib.hid hJ
              clear hK hJ hcl hrd hfr hsz ho
              go_simp
              exact HK.out _ _ (HJ.out.pure (by decide +kernel) 0 (by decide) (by decide) (by decide) rfl)
            · cases (show some _ = some o from ho)
              refine ite_yes (by rfl) ?_
              have h4 : bx.tmps.getD 4 undef = .slice (some ⟨b1, off1, none⟩) n c1 := hfr 4 (noDst_of (by kernel_rfl))
              have f4 := getD_opt h4
              have HK := Lib.hid hK
              have HJ := Lib.hid hJ
              clear hK hJ hcl hrd hfr hsz ho
              go_simp
              exact HK.out _ _ (HJ.out.pure (by decide +kernel) 1 (by decide) (by decide) (by decide) rfl)
            · cases (show some _ = some o from ho)
              refine ite_yes (by rfl) ?_
              have h87 : bx.tmps.getD 87 undef = .slice (some ⟨b1, off1, none⟩) n c1 := hJ.m 1 (by decide) (hrd ⟨1, .data⟩ (by simp) rfl)
              have f87 := getD_opt h87
              have HK := Lib.hid hK
              have HJ := Lib.hid hJ
              have hR := cu1
              clear hK hJ hcl hrd hfr hsz ho
              by_cases hx : c1 = 1
              · rw [if_pos hx] at hR
                have hn1 : n = 1 := by omega
                go_simp
                try rw [if_pos (by omega)]
                exact HK.out _ _ (HJ.out.pure (by decide +kernel) 2 (by decide) (by decide) (by decide) ⟨_, 0, by first | rfl | (rw [show n - 1 = 0 by omega]), hR⟩)
              · rw [if_neg hx] at hR
                have hx' : (c1 == 1) = false := by simpa using hx
                have hx2 : 1 < c1 := by omega
                have hx3 : 1 ≤ c1 := by omega
                go_simp
                try rw [if_pos (by omega)]
                exact HK.out _ _ (HJ.out.pure (by decide +kernel) 2 (by decide) (by decide) (by decide) ⟨_, _, rfl, hR⟩)
            · cases (show some _ = some o from ho)
              refine ite_yes (by rfl) ?_
              have h5 : bx.tmps.getD 5 undef = .slice (some ⟨b2, off2, none⟩) n c2 := hfr 5 (noDst_of (by kernel_rfl))
              have f5 := getD_opt h5
              have HK := Lib.hid hK
              have HJ := Lib.hid hJ
              clear hK hJ hcl hrd hfr hsz ho
              go_simp
              exact HK.out _ _ (HJ.out.pure (by decide +kernel) 3 (by decide) (by decide) (by decide) rfl)
            · cases (show some _ = some o from ho)
              refine ite_yes (by rfl) ?_
              have h89 : bx.tmps.getD 89 undef = .slice (some ⟨b2, off2, none⟩) n c2 := hJ.m 3 (by decide) (hrd ⟨3, .data⟩ (by simp) rfl)
              have f89 := getD_opt h89
              have HK := Lib.hid hK
              have HJ := Lib.hid hJ
              have hR := cu2
              clear hK hJ hcl hrd hfr hsz ho
              by_cases hx : c2 = 1
              · rw [if_pos hx] at hR
                have hn1 : n = 1 := by omega
                go_simp
                try rw [if_pos (by omega)]
                exact HK.out _ _ (HJ.out.pure (by decide +kernel) 4 (by decide) (by decide) (by decide) ⟨_, 0, by first | rfl | (rw [show n - 1 = 0 by omega]), hR⟩)
              · rw [if_neg hx] at hR
                have hx' : (c2 == 1) = false := by simpa using hx
                have hx2 : 1 < c2 := by omega
                have hx3 : 1 ≤ c2 := by omega
                go_simp
                try rw [if_pos (by omega)]
                exact HK.out _ _ (HJ.out.pure (by decide +kernel) 4 (by decide) (by decide) (by decide) ⟨_, _, rfl, hR⟩)
            · cases (show some _ = some o from ho)
              refine ite_yes (by rfl) ?_
              obtain ⟨A1', c1', h88, hr1⟩ := hJ.m 2 (by decide) (hrd ⟨2, .data⟩ (by simp) rfl)
              obtain ⟨A2', c2', h90, hr2⟩ := hJ.m 4 (by decide) (hrd ⟨4, .data⟩ (by simp) rfl)
              have h88 : bx.tmps.getD 88 undef = _ := h88
              have h90 : bx.tmps.getD 90 undef = _ := h90
              have h86 : bx.tmps.getD 86 undef = .agg #[.string Wd, .int .i64 ya, .int .i64 yb] := hJ.m 0 (by decide) (hrd ⟨0, .data⟩ (by simp) rfl)
              have f86 := getD_opt h86
              have f88 := getD_opt h88
              have f90 := getD_opt h90
              have HK := Lib.hid hK
              have HJ := Lib.hid hJ
              clear hK hJ hcl hrd hfr hsz ho h86 h88 h90
              go_simp
              refine (HCON.out wb A1' A2' c1' c2' (hr1.below HJ.out.below) (hr2.below HJ.out.below)).mono ?_
              rintro e w' ⟨rfl, hb⟩
              exact HK.out _ _ (HJ.out.step (by decide +kernel) 5 (by decide) (by decide) (by decide) hb rfl)
            · cases (show some _ = some o from ho)
              refine ite_yes (by rfl) ?_
              have h91 : bx.tmps.getD 91 undef = .tuple #[.agg #[.string Wd, .int .i64 zf, .int .i64 zu], .int .i64 (zm - 1)] := hJ.m 5 (by decide) (hrd ⟨5, .data⟩ (by simp) rfl)
              have f91 := getD_opt h91
              have HK := Lib.hid hK
              have HJ := Lib.hid hJ
              clear hK hJ hcl hrd hfr hsz ho
              go_simp
              exact HK.out _ _ (HJ.out.pure (by decide +kernel) 6 (by decide) (by decide) (by decide) rfl)
            · cases (show some _ = some o from ho)
              refine ite_yes (by rfl) ?_
              have h85 : bx.tmps.getD 85 undef = .tuple #[.agg #[.string Wd, .int .i64 zf, .int .i64 zu], .int .i64 (zm - 1)] := hJ.m 6 (by decide) (hrd ⟨6, .data⟩ (by simp) rfl)
              have f85 := getD_opt h85
              have HK := Lib.hid hK
              have HJ := Lib.hid hJ
              clear hK hJ hcl hrd hfr hsz ho
              go_simp
              exact HK.out _ _ (HJ.out.pure (by decide +kernel) 7 (by decide) (by decide) (by decide) rfl)
            · cases (show some _ = some o from ho)
              refine ite_yes (by rfl) ?_
              have h85 : bx.tmps.getD 85 undef = .tuple #[.agg #[.string Wd, .int .i64 zf, .int .i64 zu], .int .i64 (zm - 1)] := hJ.m 6 (by decide) (hrd ⟨6, .data⟩ (by simp) rfl)
              have f85 := getD_opt h85
              have HK := Lib.hid hK
              have HJ := Lib.hid hJ
              clear hK hJ hcl hrd hfr hsz ho
              go_simp
              exact HK.out _ _ (HJ.out.pure (by decide +kernel) 8 (by decide) (by decide) (by decide) rfl)
            · cases (show some _ = some o from ho)
              refine ite_yes (by rfl) ?_
              have hjs : ff 10 = false := by
                cases e : ff 10
                · rfl
                · exfalso
                  have e1 := hcl 10 _ ⟨9, .data⟩ rfl e (by simp) rfl
                  rw [show ff 9 = true from e1] at hf; cases hf
              have HK := Lib.hid hK
              have HJ := Lib.hid hJ
              clear hK hJ hcl hrd hfr hsz ho
              go_simp
              exact HK.out _ _ (HJ.out.alloc (by decide +kernel) (by decide) hjs (by decide) (by decide) (fun _ => trivial))
            · cases (show some _ = some o from ho)
              refine ite_yes (by rfl) ?_
              have hfa : ff 9 = true := hrd ⟨9, .data⟩ (by simp) rfl
              obtain ⟨g, e1, e2, e3⟩ := hJ.blk (by decide) hfa
              rw [hf, if_neg (by simp)] at e3
              have h12 : bx.tmps.getD 12 undef = .pointer (some ⟨g, 0, none⟩) := e1
              have f12 := getD_opt h12
              have h92 : bx.tmps.getD 92 undef = .agg #[.string Wd, .int .i64 zf, .int .i64 zu] := hJ.m 7 (by decide) (hrd ⟨7, .data⟩ (by simp) rfl)
              have f92 := getD_opt h92
              have z0' := e3.cell 0 (v := .string ⟨#[]⟩) rfl
              have z1' := e3.cell 1 (v := .int .i64 0) rfl
              have z2' := e3.cell 2 (v := .int .i64 0) rfl
              have y0' := e3.free 0
              have y1' := e3.free 1
              have y2' := e3.free 2
              have yl' := e3.lt
              have HK := Lib.hid hK
              have HJ := Lib.hid hJ
              have E1 := Lib.hid e1
              have E3 := Lib.hid e3
              clear hK hJ hcl hrd hfr hsz ho e1 e3 h12 h92
              go_simp
              exact HK.out undef _ (HJ.out.store (by decide) hfa (by decide) (by decide) (fun _ => trivial) E1.out e2 (((E3.out.set_ 0 (.string Wd)).set_ 1 (.int .i64 zf)).set_ 2 (.int .i64 zu)) ((((Below.refl g wb).setCell (Nat.le_refl _) _).setCell (Nat.le_refl _) _).setCell (Nat.le_refl _) _))
            · cases (show some _ = some o from ho)
              refine ite_yes (by rfl) ?_
              have h93 : bx.tmps.getD 93 undef = .int .i64 (zm - 1) := hJ.m 8 (by decide) (hrd ⟨8, .data⟩ (by simp) rfl)
              have f93 := getD_opt h93
              have HK := Lib.hid hK
              have HJ := Lib.hid hJ
              clear hK hJ hcl hrd hfr hsz ho
              go_simp
              exact HK.out _ _ (HJ.out.pure (by decide +kernel) 11 (by decide) (by decide) (by decide) rfl)
          · intro ff bx wb hall hsz hdf hfr hJ
            have HBW := Lib.hid hJ.below
            obtain ⟨tm, df⟩ := bx
            obtain rfl : df = [] := hdf
            have q4 : tm.getD 4 undef = .slice (some ⟨b1, off1, none⟩) n c1 := hfr 4 (noDst_of (by kernel_rfl))
            have q6 : tm.getD 6 undef = .pointer (some ⟨gg, 0, none⟩) := hfr 6 (noDst_of (by kernel_rfl))
            have q7 : tm.getD 7 undef = .int .i64 zm := hfr 7 (noDst_of (by kernel_rfl))
            have q11 : tm.getD 11 undef = .int .i64 1 := hfr 11 (noDst_of (by kernel_rfl))
            have q13 : tm.getD 13 undef = .int .i64 (zm - 1) := hJ.m 11 (by decide) (hall 11 (by decide))
            obtain ⟨ga, q12, hga, hka⟩ := hJ.blk (by decide) (hall 9 (by decide))
            rw [hall 10 (by decide), if_pos rfl] at hka
            have q12 : tm.getD 12 undef = .pointer (some ⟨ga, 0, none⟩) := q12
            have HKA := Lib.hid hka; have HGA := Lib.hid hga
            clear hka hga
            have q := lit_of tm 114 hsz
            simp only [List.range, List.range.loop, List.map, q4, q6, q7, q11, q13, q12] at q
            have HQ := Lib.hid q
            clear q hsz hfr hJ hall q4 q6 q7 q11 q13 q12
            rw [HQ.out]
            generalize tm.getD 0 undef = x0
            generalize tm.getD 1 undef = x1
            generalize tm.getD 2 undef = x2
            generalize tm.getD 3 undef = x3
            generalize tm.getD 5 undef = x5
            generalize tm.getD 8 undef = x8
            generalize tm.getD 9 undef = x9
            generalize tm.getD 10 undef = x10
            generalize tm.getD 14 undef = x14
            generalize tm.getD 15 undef = x15
            generalize tm.getD 16 undef = x16
            generalize tm.getD 17 undef = x17
            generalize tm.getD 18 undef = x18
            generalize tm.getD 19 undef = x19
            generalize tm.getD 20 undef = x20
            generalize tm.getD 21 undef = x21
            generalize tm.getD 22 undef = x22
            generalize tm.getD 23 undef = x23
            generalize tm.getD 24 undef = x24
            generalize tm.getD 25 undef = x25
            generalize tm.getD 26 undef = x26
            generalize tm.getD 27 undef = x27
            generalize tm.getD 28 undef = x28
            generalize tm.getD 29 undef = x29
            generalize tm.getD 30 undef = x30
            generalize tm.getD 31 undef = x31
            generalize tm.getD 32 undef = x32
            generalize tm.getD 33 undef = x33
            generalize tm.getD 34 undef = x34
            generalize tm.getD 35 undef = x35
            generalize tm.getD 36 undef = x36
            generalize tm.getD 37 undef = x37
            generalize tm.getD 38 undef = x38
            generalize tm.getD 39 undef = x39
            generalize tm.getD 40 undef = x40
            generalize tm.getD 41 undef = x41
            generalize tm.getD 42 undef = x42
            generalize tm.getD 43 undef = x43
            generalize tm.getD 44 undef = x44
            generalize tm.getD 45 undef = x45
            generalize tm.getD 46 undef = x46
            generalize tm.getD 47 undef = x47
            generalize tm.getD 48 undef = x48
            generalize tm.getD 49 undef = x49
            generalize tm.getD 50 undef = x50
            generalize tm.getD 51 undef = x51
            generalize tm.getD 52 undef = x52
            generalize tm.getD 53 undef = x53
            generalize tm.getD 54 undef = x54
            generalize tm.getD 55 undef = x55
            generalize tm.getD 56 undef = x56
            generalize tm.getD 57 undef = x57
            generalize tm.getD 58 undef = x58
            generalize tm.getD 59 undef = x59
            generalize tm.getD 60 undef = x60
            generalize tm.getD 61 undef = x61
            generalize tm.getD 62 undef = x62
            generalize tm.getD 63 undef = x63
            generalize tm.getD 64 undef = x64
            generalize tm.getD 65 undef = x65
            generalize tm.getD 66 undef = x66
            generalize tm.getD 67 undef = x67
            generalize tm.getD 68 undef = x68
            generalize tm.getD 69 undef = x69
            generalize tm.getD 70 undef = x70
            generalize tm.getD 71 undef = x71
            generalize tm.getD 72 undef = x72
            generalize tm.getD 73 undef = x73
            generalize tm.getD 74 undef = x74
            generalize tm.getD 75 undef = x75
            generalize tm.getD 76 undef = x76
            generalize tm.getD 77 undef = x77
            generalize tm.getD 78 undef = x78
            generalize tm.getD 79 undef = x79
            generalize tm.getD 80 undef = x80
            generalize tm.getD 81 undef = x81
            generalize tm.getD 82 undef = x82
            generalize tm.getD 83 undef = x83
            generalize tm.getD 84 undef = x84
            generalize tm.getD 85 undef = x85
            generalize tm.getD 86 undef = x86
            generalize tm.getD 87 undef = x87
            generalize tm.getD 88 undef = x88
            generalize tm.getD 89 undef = x89
            generalize tm.getD 90 undef = x90
            generalize tm.getD 91 undef = x91
            generalize tm.getD 92 undef = x92
            generalize tm.getD 93 undef = x93
            generalize tm.getD 94 undef = x94
            generalize tm.getD 95 undef = x95
            generalize tm.getD 96 undef = x96
            generalize tm.getD 97 undef = x97
            generalize tm.getD 98 undef = x98
            generalize tm.getD 99 undef = x99
            generalize tm.getD 100 undef = x100
            generalize tm.getD 101 undef = x101
            generalize tm.getD 102 undef = x102
            generalize tm.getD 103 undef = x103
            generalize tm.getD 104 undef = x104
            generalize tm.getD 105 undef = x105
            generalize tm.getD 106 undef = x106
            generalize tm.getD 107 undef = x107
            generalize tm.getD 108 undef = x108
            generalize tm.getD 109 undef = x109
            generalize tm.getD 110 undef = x110
            generalize tm.getD 111 undef = x111
            generalize tm.getD 112 undef = x112
            generalize tm.getD 113 undef = x113
            clear HQ
            have hA := HKA.out
            have hG := G9.out.below HBW.out
            have HBZ := Lib.hid (belB HB9.out HB9.out.size HBW.out)
            obtain ⟨⟨p0, p1, p2⟩, _⟩ := hG.cells
            have pl := hG.lt
            have a0 := hA.cell 0 (v := .string Wd) rfl
            have a1 := hA.cell 1 (v := .int .i64 zf) rfl
            have a2 := hA.cell 2 (v := .int .i64 zu) rfl
            have al := hA.lt
            have hq : ((1 : Int) + (zm - 1) == zm) = true := by simp; try omega
            have hq2 : (zm ≤ (n : Int)) := hm1
            clear HKA HGA HBW hA hG
            go_wp2_with fail
            refine (ihv_b _ _ _ _ HS.out).mono ?_
            rw [HFIN.out]
            rintro e w' ⟨rfl, hbz⟩
            have HBL := Lib.hid (belB HBZ.out HBZ.out.size hbz)
            clear hbz
            go_wp2_with fail
            go_ret
            exact ⟨rfl, HBL.out⟩
end Go.Proofs.Ytkdpambhdjinjaa
