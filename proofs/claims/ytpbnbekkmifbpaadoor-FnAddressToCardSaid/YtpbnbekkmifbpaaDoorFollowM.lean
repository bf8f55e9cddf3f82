/-
  Follow of the reference: its plain function and its contract.
-/
import Derived.Test.YtpbnbekkmifbpaaDoorFansM
import Derived.Test.YtpbnbekkmifbpaaDoorIns
import Derived.Test.YtpbnbekkmifbpaaDoorTypedG
import Derived.Test.YtpbnbekkmifbpaaDoorTypedS
import Derived.Deep.DeepCutAuto
namespace Go.Proofs.YtpbnbekkmifbpaaDoor
open Go.ChangeShapes Go.WideShapes Go.ChangeAt Go.RowKit Go.Joins
set_option linter.unusedVariables false

/-- Where a new one stands: ahead of the first that does not stand before it. -/
def foN (l : List Ha) (h : Ha) : Nat := l.findIdx fun z => !hbB z h
def foM (l : List Ha) (h : Ha) : List Ha := l.take (foN l h) ++ [h] ++ l.drop (foN l h)
def foL (l : List Ha) (h : Ha) : List Ha := if fvB l = true then (if fvB (foM l h) = true then foM l h else l) else []
def foB (l : List Ha) (h : Ha) : Bool := fvB l && fvB (foM l h)
theorem foN_le (l : List Ha) (h : Ha) : foN l h ≤ l.length := List.findIdx_le_length
theorem foM_len (l : List Ha) (h : Ha) : (foM l h).length = l.length + 1 := by
  have := foN_le l h
  simp only [foM, List.length_append, List.length_take, List.length_drop, List.length_cons, List.length_nil]; omega
theorem foL_bad {l : List Ha} {d : Ha} (h : fvB l = false) : foL l d = [] ∧ foB l d = false := by simp [foL, foB, h]
theorem foL_no {l : List Ha} {d : Ha} (h : fvB l = true) (h2 : fvB (foM l d) = false) : foL l d = l ∧ foB l d = false := by simp [foL, foB, h, h2]
theorem foL_yes {l : List Ha} {d : Ha} (h : fvB l = true) (h2 : fvB (foM l d) = true) : foL l d = foM l d ∧ foB l d = true := by simp [foL, foB, h, h2]
theorem foL_len (l : List Ha) (h : Ha) : (foL l h).length ≤ l.length + 1 := by
  unfold foL; split
  · split
    · rw [foM_len]; exact Nat.le_refl _
    · omega
  · simp
/-- The first k stand before it. -/
def FoL (l : List Ha) (h : Ha) (k : Nat) : Prop := ∀ i z, i < k → l[i]? = some z → hbB z h = true
theorem FoL_0 (l : List Ha) (h : Ha) : FoL l h 0 := fun i z h => absurd h (by omega)
theorem FoL_succ {l : List Ha} {d z : Ha} {k : Nat} (h : FoL l d k) (hz : l[k]? = some z) (h1 : hbB z d = true) : FoL l d (k + 1) := fun i x hi hx => by
  by_cases e : i = k
  · subst e; rw [hz] at hx; injection hx with hx; subst hx; exact h1
  · exact h i x (by omega) hx
theorem fo_at {l : List Ha} {d : Ha} {k : Nat} (hk : k ≤ l.length) (h1 : FoL l d k) (h2 : ∀ z, l[k]? = some z → hbB z d = false) : k = foN l d := by
  rcases Nat.lt_or_ge k l.length with h | h
  · unfold foN
    refine ((List.findIdx_eq h).2 ⟨by simpa using h2 _ (List.getElem?_eq_getElem h), fun j hj => ?_⟩).symm
    have := h1 j _ hj (List.getElem?_eq_getElem (by omega))
    simpa using this
  · obtain rfl : k = l.length := by omega
    unfold foN
    refine (List.findIdx_eq_length.2 ?_).symm
    intro x hx
    obtain ⟨i, hi⟩ := List.mem_iff_getElem?.1 hx
    have := h1 i x (get_lt hi) hi
    simpa using this
theorem foM_small {m : Nat} {l : List Ha} {d : Ha} (hs : ∀ z ∈ l, z.a.size ≤ m ∧ z.b.size ≤ m) (hd : d.a.size ≤ m ∧ d.b.size ≤ m) : ∀ z ∈ foM l d, z.a.size ≤ m ∧ z.b.size ≤ m := by
  intro z hz
  simp only [foM, List.mem_append, List.mem_cons, List.not_mem_nil, or_false] at hz
  rcases hz with (h | rfl) | h
  · exact hs z (List.mem_of_mem_take h)
  · exact hd
  · exact hs z (List.mem_of_mem_drop h)
theorem foL_small {m : Nat} {l : List Ha} {d : Ha} (hs : ∀ z ∈ l, z.a.size ≤ m ∧ z.b.size ≤ m) (hd : d.a.size ≤ m ∧ d.b.size ≤ m) : ∀ z ∈ foL l d, z.a.size ≤ m ∧ z.b.size ≤ m := by
  intro z hz
  unfold foL at hz
  split at hz
  · split at hz
    · exact foM_small hs hd z hz
    · exact hs z hz
  · cases hz
theorem has_oneCf (l : List Ha) : ∀ u ∈ has l, u.oneCell' = true := by
  intro u hu
  simp only [has, List.mem_flatMap, hac, List.mem_cons, List.not_mem_nil, or_false] at hu
  obtain ⟨z, _, rfl | rfl⟩ := hu <;> rfl

set_option maxRecDepth 100000 in
set_option maxHeartbeats 8000000 in
theorem sfo_any (A : Option Addr) (n c : Nat) (l : List Ha) (d : Ha) (w : World) (h : Rd w 2 A n (has l)) (hn : n ≤ 1048576) (hnc : n ≤ c) (hc : c ≤ maxLen) (hs : ∀ z ∈ l, z.a.size ≤ maxLen ∧ z.b.size ≤ maxLen) (hd : d.a.size ≤ maxLen ∧ d.b.size ≤ maxLen) :
    Calls Tryd.prog 63 #[.slice A n c, hav d] w fun e w' => ∃ v, e = .returned (.tuple #[v, .bool (foB l d)]) ∧ w'.ownsRow w.heap.size 29 2 v (foL l d).length (has (foL l d)) ∧ Below w.heap.size w w' := by
  have hll := rd_halen h
  have H := Lib.hid h; have HLL := Lib.hid hll; have HS := Lib.hid hs; have HNC := Lib.hid hnc; have HC := Lib.hid hc; have HN := Lib.hid hn; have HD := Lib.hid hd
  clear h hll hs hnc hc hd
  obtain ⟨i0, hi, hz0, hz1, hz2⟩ := info_parts ha_info
  have HI := Lib.hid hi; have HZ0 := Lib.hid hz0; have HZ1 := Lib.hid hz1; have HZ2 := Lib.hid hz2
  clear hi hz0 hz1 hz2
  generalize hr : foL l d = R
  generalize hbr : foB l d = bR
  have HR := Lib.hid hr; have HBR0 := Lib.hid hbr; clear hr hbr
  obtain ⟨da, db⟩ := d
  cases hv : fvB l
  · have HE : Hid (R = [] ∧ bR = false) := Lib.hid (by rw [← HR.out, ← HBR0.out]; exact foL_bad hv)
    have HV := Lib.hid hv; clear hv
    go_enter Tryd.func63, Tryd.ntmps63
    go_wp2_with fail
    refine (sfv_any _ _ _ _ _ (H.out.alloc _) HNC.out HC.out HS.out).mono ?_
    rw [HV.out]
    rintro e w1 ⟨rfl, hb1⟩
    have HB1 := Lib.hid (bela hb1); clear hb1
    go_wp2_with fail
    go_ret2
    exact ⟨_, by rw [HE.out.2]; rfl, by rw [HE.out.1]; exact own_less (World.ownsRow_made _ #[] 0 (Nat.le_refl _) (by simp) (by simp)) HB1.out.size, HB1.out.alloc HB1.out.size _⟩
  · have HV := Lib.hid hv; clear hv
    go_enter Tryd.func63, Tryd.ntmps63
    go_wp2_with fail
    refine (sfv_any _ _ _ _ _ (H.out.alloc _) HNC.out HC.out HS.out).mono ?_
    rw [HV.out]
    rintro e w1 ⟨rfl, hb1⟩
    have HK1 : Hid (Bk w1 w.heap.size 29 #[.string da, .string db]) := Lib.hid ((Bk.new w _ _).keep hb1)
    have HB1 := Lib.hid (bela hb1); clear hb1
    go_wp2_with fail
    go_loopw [6] (fun i wr => ∃ k : Nat, k ≤ n ∧ i = .int .i64 k ∧ FoL l ⟨da, db⟩ k ∧ Below w1.heap.size w1 wr) (fun i _ => n - (intOf i).toNat)
    case atStart => exact ⟨0, Nat.zero_le _, rfl, FoL_0 _ _, Below.refl _ _⟩
    case round =>
      obtain ⟨k, hk, rfl, hal, hbr⟩ := hrel
      have HAL := Lib.hid hal; clear hal
      have HBR := Lib.hid hbr; clear hbr
      obtain ⟨wo, rfl⟩ : ∃ wo : World, wo = wr := ⟨_, rfl⟩
      have hws := HBR.out.size
      have hkl0 := HK1.out.lt
      have hkl : w.heap.size < wo.heap.size := by omega
      clear hkl0
      have g0 := (HK1.out.keep HBR.out).cell 0 (v := .string da) rfl
      have g1 := (HK1.out.keep HBR.out).cell 1 (v := .string db) rfl
      by_cases hlt : k < n
      · obtain ⟨b, off, z, rfl, hbl, hz, hc0, hc1⟩ := (H.out.below (HB1.out.trans (HBR.out.mono HB1.out.size))).ha hlt
        have HZ := Lib.hid hz; clear hz
        have hd0 : decide (k < n) = true := by simpa using hlt
        have hd1 : decide ((k : Int) < (n : Int)) = true := by simpa using hlt
        cases hr : hbB z ⟨da, db⟩
        · go_wp2
          refine wp_region_typedG (wo.heap.size + 0) (wo.heap.size + 0) (fun t v _ => match t with
            | 12 => v = .int .i64 k
            | 13 => v = .slice (some ⟨b, off, none⟩) n c
            | 14 => v = .int .i64 n
            | 15 => v = .bool true
            | 16 => v = .bool true
            | 17 => v = .slice (some ⟨b, off, none⟩) n c
            | 18 => v = .int .i64 k
            | 19 => v = .pointer (some ⟨b, off + k * 2, none⟩)
            | 20 => v = .agg #[.string z.a, .string z.b]
            | 21 => v = .agg #[.string da, .string db]
            | 22 => v = .bool false
            | 23 => v = .bool false
            | _ => True) (fun _ _ => True) (by kernel_rfl) (regOkG_of (by kernel_rfl) (by kernel_rfl)) (fun _ _ _ _ _ h => h) trivial ?_ ?_
          · intro i o cx bx wb ho hc hJ hN hsz hfr hdep hgd K hK
            have hi := (Array.getElem?_eq_some_iff.1 ho).1
            simp only [List.size_toArray, List.length_cons, List.length_nil] at hi hc
            have hcases : i = 0 ∨ i = 1 ∨ i = 2 ∨ i = 3 ∨ i = 4 ∨ i = 5 ∨ i = 6 ∨ i = 7 ∨ i = 8 ∨ i = 9 ∨ i = 10 ∨ i = 11 := by omega
            rcases hcases with rfl | rfl | rfl | rfl | rfl | rfl | rfl | rfl | rfl | rfl | rfl | rfl
            · cases (show some _ = some o from ho)
              refine ite_yes (by rfl) ?_
              have h6 : bx.tmps.getD 6 undef = .int .i64 k := hfr 6 (noDst_of (by kernel_rfl))
              have f6 := getD_opt h6
              have HK := Lib.hid hK
              have HN := Lib.hid hN
              clear hK hdep hgd hfr hsz ho hN
              go_simp
              exact HK.out _ _ (fun d hd => by cases hd; exact rfl) (Nx.refl _ _ _) trivial
            · cases (show some _ = some o from ho)
              refine ite_yes (by rfl) ?_
              have h0 : bx.tmps.getD 0 undef = .slice (some ⟨b, off, none⟩) n c := hfr 0 (noDst_of (by kernel_rfl))
              have f0 := getD_opt h0
              have HK := Lib.hid hK
              have HN := Lib.hid hN
              clear hK hdep hgd hfr hsz ho hN
              go_simp
              exact HK.out _ _ (fun d hd => by cases hd; exact rfl) (Nx.refl _ _ _) trivial
            · cases (show some _ = some o from ho)
              refine ite_yes (by rfl) ?_
              have h13 : bx.tmps.getD 13 undef = .slice (some ⟨b, off, none⟩) n c := hdep 13 (reads_of (by kernel_rfl)) ⟨1, _, rfl, rfl⟩
              have f13 := getD_opt h13
              have HK := Lib.hid hK
              have HN := Lib.hid hN
              clear hK hdep hgd hfr hsz ho hN
              go_simp
              exact HK.out _ _ (fun d hd => by cases hd; exact rfl) (Nx.refl _ _ _) trivial
            · cases (show some _ = some o from ho)
              refine ite_yes (by rfl) ?_
              have h12 : bx.tmps.getD 12 undef = .int .i64 k := hdep 12 (reads_of (by kernel_rfl)) ⟨0, _, rfl, rfl⟩
              have f12 := getD_opt h12
              have h14 : bx.tmps.getD 14 undef = .int .i64 n := hdep 14 (reads_of (by kernel_rfl)) ⟨2, _, rfl, rfl⟩
              have f14 := getD_opt h14
              have HK := Lib.hid hK
              have HN := Lib.hid hN
              clear hK hdep hgd hfr hsz ho hN
              go_simp
              exact HK.out _ _ (fun d hd => by cases hd; exact rfl) (Nx.refl _ _ _) trivial
            · cases (show some _ = some o from ho)
              refine ite_yes (by rfl) ?_
              have h15 : bx.tmps.getD 15 undef = .bool true := hdep 15 (reads_of (by kernel_rfl)) ⟨3, _, rfl, rfl⟩
              have f15 := getD_opt h15
              have HK := Lib.hid hK
              have HN := Lib.hid hN
              clear hK hdep hgd hfr hsz ho hN
              go_simp
              exact HK.out _ _ (fun d hd => by cases hd; exact rfl) (Nx.refl _ _ _) trivial
            · cases (show some _ = some o from ho)
              have hg : bx.tmps.getD 16 undef = .bool true := hgd 4 true _ 16 rfl rfl rfl
              refine ite_yes ((wanted_of rfl rfl rfl hg).trans rfl) ?_
              have h0 : bx.tmps.getD 0 undef = .slice (some ⟨b, off, none⟩) n c := hfr 0 (noDst_of (by kernel_rfl))
              have f0 := getD_opt h0
              have HK := Lib.hid hK
              have HN := Lib.hid hN
              clear hK hdep hgd hfr hsz ho hN
              go_simp
              exact HK.out _ _ (fun d hd => by cases hd; exact rfl) (Nx.refl _ _ _) trivial
            · cases (show some _ = some o from ho)
              have hg : bx.tmps.getD 16 undef = .bool true := hgd 4 true _ 16 rfl rfl rfl
              refine ite_yes ((wanted_of rfl rfl rfl hg).trans rfl) ?_
              have h6 : bx.tmps.getD 6 undef = .int .i64 k := hfr 6 (noDst_of (by kernel_rfl))
              have f6 := getD_opt h6
              have HK := Lib.hid hK
              have HN := Lib.hid hN
              clear hK hdep hgd hfr hsz ho hN
              go_simp
              exact HK.out _ _ (fun d hd => by cases hd; exact rfl) (Nx.refl _ _ _) trivial
            · cases (show some _ = some o from ho)
              have hg : bx.tmps.getD 16 undef = .bool true := hgd 4 true _ 16 rfl rfl rfl
              refine ite_yes ((wanted_of rfl rfl rfl hg).trans rfl) ?_
              have h17 : bx.tmps.getD 17 undef = .slice (some ⟨b, off, none⟩) n c := hdep 17 (reads_of (by kernel_rfl)) ⟨5, _, rfl, rfl⟩
              have f17 := getD_opt h17
              have h18 : bx.tmps.getD 18 undef = .int .i64 k := hdep 18 (reads_of (by kernel_rfl)) ⟨6, _, rfl, rfl⟩
              have f18 := getD_opt h18
              have HK := Lib.hid hK
              have HN := Lib.hid hN
              clear hK hdep hgd hfr hsz ho hN
              go_simp
              try rw [if_pos (by omega)]
              exact HK.out _ _ (fun d hd => by cases hd; exact rfl) (Nx.refl _ _ _) trivial
            · cases (show some _ = some o from ho)
              have hg : bx.tmps.getD 16 undef = .bool true := hgd 4 true _ 16 rfl rfl rfl
              refine ite_yes ((wanted_of rfl rfl rfl hg).trans rfl) ?_
              have h19 : bx.tmps.getD 19 undef = .pointer (some ⟨b, off + k * 2, none⟩) := hdep 19 (reads_of (by kernel_rfl)) ⟨7, _, rfl, rfl⟩
              have f19 := getD_opt h19
              have c0 := hN.cell (b := b) (o := off + k * 2) (v := .string z.a) hc0 (by omega) (by omega)
              have c1 := hN.cell (b := b) (o := off + k * 2 + 1) (v := .string z.b) hc1 (by omega) (by omega)
              have d0 := hN.cell (b := w.heap.size) (o := 0) (v := .string da) g0 (by omega) (by omega)
              have d1 := hN.cell (b := w.heap.size) (o := 1) (v := .string db) g1 (by omega) (by omega)
              have HK := Lib.hid hK
              have HN := Lib.hid hN
              clear hK hdep hgd hfr hsz ho hN
              go_simp
              exact HK.out _ _ (fun d hd => by cases hd; exact rfl) (Nx.refl _ _ _) trivial
            · cases (show some _ = some o from ho)
              have hg : bx.tmps.getD 16 undef = .bool true := hgd 4 true _ 16 rfl rfl rfl
              refine ite_yes ((wanted_of rfl rfl rfl hg).trans rfl) ?_
              have h3 : bx.tmps.getD 3 undef = .pointer (some ⟨w.heap.size, 0, none⟩) := hfr 3 (noDst_of (by kernel_rfl))
              have f3 := getD_opt h3
              have c0 := hN.cell (b := b) (o := off + k * 2) (v := .string z.a) hc0 (by omega) (by omega)
              have c1 := hN.cell (b := b) (o := off + k * 2 + 1) (v := .string z.b) hc1 (by omega) (by omega)
              have d0 := hN.cell (b := w.heap.size) (o := 0) (v := .string da) g0 (by omega) (by omega)
              have d1 := hN.cell (b := w.heap.size) (o := 1) (v := .string db) g1 (by omega) (by omega)
              have HK := Lib.hid hK
              have HN := Lib.hid hN
              clear hK hdep hgd hfr hsz ho hN
              go_simp
              exact HK.out _ _ (fun d hd => by cases hd; exact rfl) (Nx.refl _ _ _) trivial
            · cases (show some _ = some o from ho)
              have hg : bx.tmps.getD 16 undef = .bool true := hgd 4 true _ 16 rfl rfl rfl
              refine ite_yes ((wanted_of rfl rfl rfl hg).trans rfl) ?_
              have h20 : bx.tmps.getD 20 undef = .agg #[.string z.a, .string z.b] := hdep 20 (reads_of (by kernel_rfl)) ⟨8, _, rfl, rfl⟩
              have f20 := getD_opt h20
              have h21 : bx.tmps.getD 21 undef = .agg #[.string da, .string db] := hdep 21 (reads_of (by kernel_rfl)) ⟨9, _, rfl, rfl⟩
              have f21 := getD_opt h21
              have HK := Lib.hid hK
              have HN := Lib.hid hN
              clear hK hdep hgd hfr hsz ho hN
              go_simp
              refine (hb_spec z ⟨da, db⟩ _).mono ?_
              rw [hr]
              rintro e w' ⟨rfl, o1, o2, rfl⟩
              exact HK.out _ _ (fun d hd => by cases hd; exact rfl) (nx_below (bel2 rfl)) trivial
            · cases (show some _ = some o from ho)
              refine ite_yes (by rfl) ?_
              have h16 : bx.tmps.getD 16 undef = .bool true := hdep 16 (reads_of (by kernel_rfl)) ⟨4, _, rfl, rfl⟩
              have f16 := getD_opt h16
              have h22 : bx.tmps.getD 22 undef = .bool false := hdep 22 (reads_of (by kernel_rfl)) ⟨10, _, rfl, rfl⟩
              have f22 := getD_opt h22
              have HK := Lib.hid hK
              have HN := Lib.hid hN
              clear hK hdep hgd hfr hsz ho hN
              go_simp
              exact HK.out _ _ (fun d hd => by cases hd; exact rfl) (Nx.refl _ _ _) trivial
          · intro bx wb hsz hdf hfr hty hN hJ
            obtain ⟨tm, df⟩ := bx
            obtain rfl : df = [] := hdf
            have q0 : tm.getD 0 undef = .slice (some ⟨b, off, none⟩) n c := hfr 0 (noDst_of (by kernel_rfl))
            have q1 : tm.getD 1 undef = .agg #[.string da, .string db] := hfr 1 (noDst_of (by kernel_rfl))
            have q2 : tm.getD 2 undef = undef := hfr 2 (noDst_of (by kernel_rfl))
            have q3 : tm.getD 3 undef = .pointer (some ⟨w.heap.size, 0, none⟩) := hfr 3 (noDst_of (by kernel_rfl))
            have q4 : tm.getD 4 undef = .slice none 0 0 := hfr 4 (noDst_of (by kernel_rfl))
            have q5 : tm.getD 5 undef = .bool false := hfr 5 (noDst_of (by kernel_rfl))
            have q6 : tm.getD 6 undef = .int .i64 k := hfr 6 (noDst_of (by kernel_rfl))
            have q7 : tm.getD 7 undef = undef := hfr 7 (noDst_of (by kernel_rfl))
            have q8 : tm.getD 8 undef = .slice (some ⟨b, off, none⟩) n c := hfr 8 (noDst_of (by kernel_rfl))
            have q9 : tm.getD 9 undef = .bool true := hfr 9 (noDst_of (by kernel_rfl))
            have q10 : tm.getD 10 undef = .bool false := hfr 10 (noDst_of (by kernel_rfl))
            have q11 : tm.getD 11 undef = undef := hfr 11 (noDst_of (by kernel_rfl))
            have q26 : tm.getD 26 undef = undef := hfr 26 (noDst_of (by kernel_rfl))
            have q27 : tm.getD 27 undef = undef := hfr 27 (noDst_of (by kernel_rfl))
            have q28 : tm.getD 28 undef = undef := hfr 28 (noDst_of (by kernel_rfl))
            have q29 : tm.getD 29 undef = undef := hfr 29 (noDst_of (by kernel_rfl))
            have q30 : tm.getD 30 undef = undef := hfr 30 (noDst_of (by kernel_rfl))
            have q31 : tm.getD 31 undef = undef := hfr 31 (noDst_of (by kernel_rfl))
            have q32 : tm.getD 32 undef = undef := hfr 32 (noDst_of (by kernel_rfl))
            have q33 : tm.getD 33 undef = undef := hfr 33 (noDst_of (by kernel_rfl))
            have q34 : tm.getD 34 undef = undef := hfr 34 (noDst_of (by kernel_rfl))
            have q35 : tm.getD 35 undef = undef := hfr 35 (noDst_of (by kernel_rfl))
            have q36 : tm.getD 36 undef = undef := hfr 36 (noDst_of (by kernel_rfl))
            have q37 : tm.getD 37 undef = undef := hfr 37 (noDst_of (by kernel_rfl))
            have q38 : tm.getD 38 undef = undef := hfr 38 (noDst_of (by kernel_rfl))
            have q39 : tm.getD 39 undef = undef := hfr 39 (noDst_of (by kernel_rfl))
            have q40 : tm.getD 40 undef = undef := hfr 40 (noDst_of (by kernel_rfl))
            have q41 : tm.getD 41 undef = undef := hfr 41 (noDst_of (by kernel_rfl))
            have q42 : tm.getD 42 undef = undef := hfr 42 (noDst_of (by kernel_rfl))
            have q43 : tm.getD 43 undef = undef := hfr 43 (noDst_of (by kernel_rfl))
            have q44 : tm.getD 44 undef = undef := hfr 44 (noDst_of (by kernel_rfl))
            have q23 : tm.getD 23 undef = .bool false := hty 11 _ 23 rfl rfl
            have HNX := Lib.hid hN
            have q := lit_of tm 45 hsz
            simp only [List.range, List.range.loop, List.map, q0, q1, q2, q3, q4, q5, q6, q7, q8, q9, q10, q11, q26, q27, q28, q29, q30, q31, q32, q33, q34, q35, q36, q37, q38, q39, q40, q41, q42, q43, q44, q23] at q
            have HQ := Lib.hid q
            clear q hsz hfr hty hN hJ q0 q1 q2 q3 q4 q5 q6 q7 q8 q9 q10 q11 q26 q27 q28 q29 q30 q31 q32 q33 q34 q35 q36 q37 q38 q39 q40 q41 q42 q43 q44 q23
            rw [HQ.out]
            generalize tm.getD 12 undef = x12
            generalize tm.getD 13 undef = x13
            generalize tm.getD 14 undef = x14
            generalize tm.getD 15 undef = x15
            generalize tm.getD 16 undef = x16
            generalize tm.getD 17 undef = x17
            generalize tm.getD 18 undef = x18
            generalize tm.getD 19 undef = x19
            generalize tm.getD 20 undef = x20
            generalize tm.getD 21 undef = x21
            generalize tm.getD 22 undef = x22
            generalize tm.getD 24 undef = x24
            generalize tm.getD 25 undef = x25
            clear HQ
            have hB2 := below_of_nx HBR.out (by omega) (by omega) HNX.out
            have HB2 := Lib.hid hB2
            clear hB2 HNX
            go_upto_region 6 with (fail)
            have HKN : Hid (k = foN l ⟨da, db⟩) := Lib.hid (fo_at (by rw [HLL.out]; exact hk) HAL.out (fun z' hz' => by rw [HZ.out] at hz'; injection hz' with hz'; subst hz'; exact hr))
            clear hc0 hc1 g0 g1 hd0 hd1 hbl HZ hws hkl hlt hr
            generalize eA : (some ⟨b, off, none⟩ : Option Addr) = A at *
            clear eA
            have HKQ : Hid (Bk wb w.heap.size 29 #[.string da, .string db]) := Lib.hid (HK1.out.keep HB2.out)
            have HRD := Lib.hid (H.out.below (HB1.out.trans (HB2.out.mono HB1.out.size)))
            have HBQ := Lib.hid (HB1.out.trans (HB2.out.mono HB1.out.size))
            obtain ⟨wq, rfl⟩ : ∃ wq : World, wq = wb := ⟨_, rfl⟩
            clear HB2 HBR
            have hkb : Bk wq w.heap.size 29 #[.string da, .string db] := HKQ.out
            have k0 := hkb.cell 0 (v := .string da) rfl
            have k1 := hkb.cell 1 (v := .string db) rfl
            have hkl := hkb.lt
            have R1 := Lib.hid (reads_of_rd (ha_take HRD.out hk) (by omega))
            have R2 := Lib.hid (reads_of_rd (ha_cut HRD.out hk HNC.out) (by omega))
            have hnc := HNC.out
            have hcm := HC.out
            unfold maxLen at hcm
            have hkc : k ≤ c := by omega
            clear hkb
            refine wp_region_inv (InsJ 29 2 26 wq.heap.size A n k c (fun v => ∃ A' c', v = .slice A' (n - k) c' ∧ Reads wq wq.heap.size 2 A' (n - k) (has (l.drop k))) (hav ⟨da, db⟩) (hac ⟨da, db⟩) (has (l.take k)) (has (l.drop k)) wq) (by kernel_rfl) (regOkG_of (by kernel_rfl) (by kernel_rfl)) (InsJ.start (by simp) (Below.refl _ _).drew) ?_ ?_
            · intro i o f b wb ho hf hrd hcl hsz hfr hJ K hK
              have hi := (Array.getElem?_eq_some_iff.1 ho).1
              simp only [List.size_toArray, List.length_cons, List.length_nil] at hi
              have hcases : i = 0 ∨ i = 1 ∨ i = 2 ∨ i = 3 ∨ i = 4 ∨ i = 5 ∨ i = 6 ∨ i = 7 ∨ i = 8 ∨ i = 9 ∨ i = 10 ∨ i = 11 ∨ i = 12 := by omega
              have c40 : f 0 = false → f 4 = false := fun h => by
                cases e : f 4
                · rfl
                · rw [hcl 4 _ ⟨0, .data⟩ rfl e (by simp) rfl] at h; cases h
              have c74 : f 4 = false → f 7 = false := fun h => by
                cases e : f 7
                · rfl
                · rw [hcl 7 _ ⟨4, .data⟩ rfl e (by simp) rfl] at h; cases h
              have c76 : f 6 = false → f 7 = false := fun h => by
                cases e : f 7
                · rfl
                · rw [hcl 7 _ ⟨6, .data⟩ rfl e (by simp) rfl] at h; cases h
              have c117 : f 7 = false → f 11 = false := fun h => by
                cases e : f 11
                · rfl
                · rw [hcl 11 _ ⟨7, .data⟩ rfl e (by simp) rfl] at h; cases h
              have c1211 : f 11 = false → f 12 = false := fun h => by
                cases e : f 12
                · rfl
                · rw [hcl 12 _ ⟨11, .data⟩ rfl e (by simp) rfl] at h; cases h
              have hB : wq.heap.size ≤ wb.heap.size := hJ.below.size
              have g0 := (hJ.below.cell (p := ⟨w.heap.size, 0, none⟩) hkl).trans k0
              have g1 := (hJ.below.cell (p := ⟨w.heap.size, 1, none⟩) hkl).trans k1
              rcases hcases with rfl | rfl | rfl | rfl | rfl | rfl | rfl | rfl | rfl | rfl | rfl | rfl | rfl
              · cases (show some _ = some o from ho)
                refine ite_yes (by rfl) ?_
                have h4 := c40 hf
                have h7 := c74 h4
                have h11 := c117 h7
                have HK := Lib.hid hK; have HJ := Lib.hid hJ
                clear hK hJ hcl hrd hfr hsz ho
                go_simp
                exact HK.out _ _ (HJ.out.step0 (by decide) hB h4 h7 h11)
              · cases (show some _ = some o from ho)
                refine ite_yes (by rfl) ?_
                have h0 : b.tmps.getD 0 undef = _ := hfr 0 (noDst_of (by kernel_rfl))
                have f0 := getD_opt h0
                have HK := Lib.hid hK; have HJ := Lib.hid hJ
                clear hK hJ hcl hrd hfr hsz ho
                go_simp
                exact HK.out _ _ (HJ.out.pure 1 27 _ (by decide) (by decide) (by decide) (fun _ => rfl) (by intro e; cases e) (by intro e; cases e) (by intro e; cases e) (by intro e; cases e) (by intro e; cases e) (by intro e; cases e) (by intro e; cases e))
              · cases (show some _ = some o from ho)
                refine ite_yes (by rfl) ?_
                have h6 : b.tmps.getD 6 undef = _ := hfr 6 (noDst_of (by kernel_rfl))
                have f6 := getD_opt h6
                have HK := Lib.hid hK; have HJ := Lib.hid hJ
                clear hK hJ hcl hrd hfr hsz ho
                go_simp
                exact HK.out _ _ (HJ.out.pure 2 28 _ (by decide) (by decide) (by decide) (by intro e; cases e) (fun _ => rfl) (by intro e; cases e) (by intro e; cases e) (by intro e; cases e) (by intro e; cases e) (by intro e; cases e) (by intro e; cases e))
              · cases (show some _ = some o from ho)
                refine ite_yes (by rfl) ?_
                have h27 : b.tmps.getD 27 undef = _ := hJ.m1 (hrd ⟨1, .data⟩ (by simp) rfl)
                have f27 := getD_opt h27
                have h28 : b.tmps.getD 28 undef = _ := hJ.m2 (hrd ⟨2, .data⟩ (by simp) rfl)
                have f28 := getD_opt h28
                have HK := Lib.hid hK; have HJ := Lib.hid hJ
                clear hK hJ hcl hrd hfr hsz ho
                go_simp
                exact HK.out _ _ (HJ.out.pure 3 29 _ (by decide) (by decide) (by decide) (by intro e; cases e) (by intro e; cases e) (fun _ => rfl) (by intro e; cases e) (by intro e; cases e) (by intro e; cases e) (by intro e; cases e) (by intro e; cases e))
              · cases (show some _ = some o from ho)
                refine ite_yes (by rfl) ?_
                have h0 : f 0 = true := hrd ⟨0, .data⟩ (by simp) rfl
                have h3 : f 3 = true := hrd ⟨3, .data⟩ (by simp) rfl
                have h7 := c74 hf
                have h11 := c117 h7
                have hr := hJ.r0 h0 hf
                have hx : b.tmps.getD 29 undef = .slice A k c := hJ.m3 h3
                refine wp_append_any wb _ _ 24 rfl wq.heap.size 29 i0 _ 2 32 Tryd.underlying24 HI.out HZ0.out HZ1.out HZ2.out rfl (by omega) _ 0 [] rfl hr wq.heap.size A k c (has (l.take k)) hx (R1.out.below hJ.below) (has_oneCf _) (by simp only [maxLen]; omega) (by omega) hB ?_
                intro v w' hown hg hat
                rw [Nat.zero_add, List.nil_append] at hown
                exact hK _ _ (hJ.step4 (by decide) hB h0 hf h7 h11 hown hg hat)
              · cases (show some _ = some o from ho)
                refine ite_yes (by rfl) ?_
                have h3 : b.tmps.getD 3 undef = _ := hfr 3 (noDst_of (by kernel_rfl))
                have f3 := getD_opt h3
                have HK := Lib.hid hK; have HJ := Lib.hid hJ
                clear hK hJ hcl hrd hfr hsz ho
                go_simp
                exact HK.out _ _ (HJ.out.pure 5 31 _ (by decide) (by decide) (by decide) (by intro e; cases e) (by intro e; cases e) (by intro e; cases e) (fun _ => rfl) (by intro e; cases e) (by intro e; cases e) (by intro e; cases e) (by intro e; cases e))
              · cases (show some _ = some o from ho)
                refine ite_yes (by rfl) ?_
                have h7 := c76 hf
                have h11 := c117 h7
                have h31 : b.tmps.getD 31 undef = hav ⟨da, db⟩ := hJ.m5 (hrd ⟨5, .data⟩ (by simp) rfl)
                have f31 := getD_opt h31
                have HK := Lib.hid hK; have HJ := Lib.hid hJ
                clear hK hJ hcl hrd hfr hsz ho
                go_simp
                exact HK.out _ _ (HJ.out.step6 (by decide) hB h7 h11)
              · cases (show some _ = some o from ho)
                refine ite_yes (by rfl) ?_
                have h4 : f 4 = true := hrd ⟨4, .data⟩ (by simp) rfl
                have h6 : f 6 = true := hrd ⟨6, .data⟩ (by simp) rfl
                have h11 := c117 hf
                have hr := hJ.r4 h4 hf
                obtain ⟨g, e1, e2, e3, _, _⟩ := hJ.r6 h6 hf
                have hx : b.tmps.getD 32 undef = .slice (some ⟨g, 0, none⟩) 1 1 := e1
                refine wp_append_any wb _ _ 24 rfl wq.heap.size 29 i0 _ 2 32 Tryd.underlying24 HI.out HZ0.out HZ1.out HZ2.out rfl (by omega) _ k _ rfl hr (g + 1) (some ⟨g, 0, none⟩) 1 1 (hac ⟨da, db⟩) hx (reads_bk' e3 rfl (Nat.lt_succ_self _)) (by intro u hu; simp [hac] at hu; rcases hu with rfl | rfl <;> rfl) (by simp only [maxLen]; omega) (by omega) hB ?_
                intro v w' hown hg hat
                exact hK _ _ (hJ.step7 (by decide) hB h4 hf h11 hown hg)
              · cases (show some _ = some o from ho)
                refine ite_yes (by rfl) ?_
                have h0 : b.tmps.getD 0 undef = _ := hfr 0 (noDst_of (by kernel_rfl))
                have f0 := getD_opt h0
                have HK := Lib.hid hK; have HJ := Lib.hid hJ
                clear hK hJ hcl hrd hfr hsz ho
                go_simp
                exact HK.out _ _ (HJ.out.pure 8 34 _ (by decide) (by decide) (by decide) (by intro e; cases e) (by intro e; cases e) (by intro e; cases e) (by intro e; cases e) (fun _ => rfl) (by intro e; cases e) (by intro e; cases e) (by intro e; cases e))
              · cases (show some _ = some o from ho)
                refine ite_yes (by rfl) ?_
                have h6 : b.tmps.getD 6 undef = _ := hfr 6 (noDst_of (by kernel_rfl))
                have f6 := getD_opt h6
                have HK := Lib.hid hK; have HJ := Lib.hid hJ
                clear hK hJ hcl hrd hfr hsz ho
                go_simp
                exact HK.out _ _ (HJ.out.pure 9 35 _ (by decide) (by decide) (by decide) (by intro e; cases e) (by intro e; cases e) (by intro e; cases e) (by intro e; cases e) (by intro e; cases e) (fun _ => rfl) (by intro e; cases e) (by intro e; cases e))
              · cases (show some _ = some o from ho)
                refine ite_yes (by rfl) ?_
                have h34 : b.tmps.getD 34 undef = _ := hJ.m8 (hrd ⟨8, .data⟩ (by simp) rfl)
                have f34 := getD_opt h34
                have h35 : b.tmps.getD 35 undef = _ := hJ.m9 (hrd ⟨9, .data⟩ (by simp) rfl)
                have f35 := getD_opt h35
                have HK := Lib.hid hK; have HJ := Lib.hid hJ
                clear hK hJ hcl hrd hfr hsz ho
                by_cases hck : c = k
                · have hR := R2.out
                  rw [if_pos hck] at hR
                  subst hck
                  go_simp
                  exact HK.out _ _ (HJ.out.pure 10 36 _ (by decide) (by decide) (by decide) (by intro e; cases e) (by intro e; cases e) (by intro e; cases e) (by intro e; cases e) (by intro e; cases e) (by intro e; cases e) (fun _ => ⟨_, 0, by rw [show n - c = 0 by omega], hR⟩) (by intro e; cases e))
                · have hR := R2.out
                  rw [if_neg hck] at hR
                  go_simp
                  exact HK.out _ _ (HJ.out.pure 10 36 _ (by decide) (by decide) (by decide) (by intro e; cases e) (by intro e; cases e) (by intro e; cases e) (by intro e; cases e) (by intro e; cases e) (by intro e; cases e) (fun _ => ⟨_, _, rfl, hR⟩) (by intro e; cases e))
              · cases (show some _ = some o from ho)
                refine ite_yes (by rfl) ?_
                have h7 : f 7 = true := hrd ⟨7, .data⟩ (by simp) rfl
                have h10 : f 10 = true := hrd ⟨10, .data⟩ (by simp) rfl
                have h4 : f 4 = true := hcl 7 _ ⟨4, .data⟩ rfl h7 (by simp) rfl
                have h12 := c1211 hf
                have hr := hJ.r7 h7 hf
                obtain ⟨A', c', e1, hR⟩ := hJ.m10 h10
                have hx : b.tmps.getD 36 undef = .slice A' (n - k) c' := e1
                refine wp_append_any wb _ _ 24 rfl wq.heap.size 29 i0 _ 2 32 Tryd.underlying24 HI.out HZ0.out HZ1.out HZ2.out rfl (by omega) _ (k + 1) _ rfl hr wq.heap.size A' (n - k) c' (has (l.drop k)) hx (hR.below hJ.below) (has_oneCf _) (by simp only [maxLen]; omega) (by omega) hB ?_
                intro v w' hown hg hat
                exact hK _ _ (hJ.step11 (by decide) hB h4 h7 hf h12 hown hg)
              · cases (show some _ = some o from ho)
                refine ite_yes (by rfl) ?_
                obtain ⟨A', c', h37, _, _, _⟩ := own_form (hJ.r11 (hrd ⟨11, .data⟩ (by simp) rfl))
                have h37 : b.tmps.getD 37 undef = .slice A' (k + 1 + (n - k)) c' := h37
                have f37 := getD_opt h37
                have HK := Lib.hid hK; have HJ := Lib.hid hJ; have H37 := Lib.hid h37
                clear hK hJ hcl hrd hfr hsz ho h37
                go_simp
                exact HK.out _ _ (HJ.out.pure 12 7 _ (by decide) (by decide) (by decide) (by intro e; cases e) (by intro e; cases e) (by intro e; cases e) (by intro e; cases e) (by intro e; cases e) (by intro e; cases e) (by intro e; cases e) (fun _ => H37.out.symm))
            · intro f b wb hall hsz hdf hfr hJ
              have h11 := hJ.r11 (hall 11 (by decide))
              have h12 : b.tmps.getD 7 undef = b.tmps.getD 37 undef := hJ.r12 (hall 12 (by decide))
              have HBL := Lib.hid hJ.below
              have hn1 : k + 1 + (n - k) = n + 1 := by omega
              have hM : has (l.take k) ++ hac ⟨da, db⟩ ++ has (l.drop k) = has (foM l ⟨da, db⟩) := by
                unfold foM; rw [← HKN.out, has_app, has_app, has_one]
              rw [hn1, hM] at h11
              have h11 : wb.ownsRow wq.heap.size 29 2 (b.tmps.getD 37 undef) (n + 1) (has (foM l ⟨da, db⟩)) := h11
              rw [← h12] at h11
              obtain ⟨A7, c7, e7, hnc7, hcm7, _⟩ := own_form h11
              rw [e7] at h11
              have HO7 := Lib.hid (own_less h11 HBQ.out.size); have HN7 : Hid (n + 1 ≤ c7 ∧ c7 ≤ maxLen) := Lib.hid ⟨hnc7, hcm7⟩
              clear hJ hall h11 h12 hnc7 hcm7 hM
              obtain ⟨tm, df⟩ := b
              obtain rfl : df = [] := hdf
              have q0 : tm.getD 0 undef = .slice A n c := hfr 0 (noDst_of (by kernel_rfl))
              have q4 : tm.getD 4 undef = .slice none 0 0 := hfr 4 (noDst_of (by kernel_rfl))
              have q5 : tm.getD 5 undef = .bool false := hfr 5 (noDst_of (by kernel_rfl))
              have q7 : tm.getD 7 undef = .slice A7 (n + 1) c7 := e7
              have q := lit_of tm 45 hsz
              simp only [List.range, List.range.loop, List.map, q0, q4, q5, q7] at q
              have HQ := Lib.hid q
              clear q hsz hfr q0 q4 q5 q7 e7
              rw [HQ.out]
              generalize tm.getD 1 undef = x1
              generalize tm.getD 2 undef = x2
              generalize tm.getD 3 undef = x3
              generalize tm.getD 6 undef = x6
              generalize tm.getD 8 undef = x8
              generalize tm.getD 9 undef = x9
              generalize tm.getD 10 undef = x10
              generalize tm.getD 11 undef = x11
              generalize tm.getD 12 undef = x12
              generalize tm.getD 13 undef = x13
              generalize tm.getD 14 undef = x14
              generalize tm.getD 15 undef = x15
              generalize tm.getD 16 undef = x16
              generalize tm.getD 17 undef = x17
              generalize tm.getD 18 undef = x18
              generalize tm.getD 19 undef = x19
              generalize tm.getD 20 undef = x20
              generalize tm.getD 21 undef = x21
              generalize tm.getD 22 undef = x22
              generalize tm.getD 23 undef = x23
              generalize tm.getD 24 undef = x24
              generalize tm.getD 25 undef = x25
              generalize tm.getD 26 undef = x26
              generalize tm.getD 27 undef = x27
              generalize tm.getD 28 undef = x28
              generalize tm.getD 29 undef = x29
              generalize tm.getD 30 undef = x30
              generalize tm.getD 31 undef = x31
              generalize tm.getD 32 undef = x32
              generalize tm.getD 33 undef = x33
              generalize tm.getD 34 undef = x34
              generalize tm.getD 35 undef = x35
              generalize tm.getD 36 undef = x36
              generalize tm.getD 37 undef = x37
              generalize tm.getD 38 undef = x38
              generalize tm.getD 39 undef = x39
              generalize tm.getD 40 undef = x40
              generalize tm.getD 41 undef = x41
              generalize tm.getD 42 undef = x42
              generalize tm.getD 43 undef = x43
              generalize tm.getD 44 undef = x44
              clear HQ
              have HB8 := Lib.hid (HBQ.out.trans (HBL.out.mono HBQ.out.size))
              have HRB := Lib.hid (HRD.out.below HBL.out)
              go_wp2_with fail
              refine (sfv_any _ _ _ (foM l ⟨da, db⟩) _ (rd_own HO7.out) HN7.out.1 HN7.out.2 (foM_small HS.out HD.out)).mono ?_
              cases hv2 : fvB (foM l ⟨da, db⟩)
              · rintro e w3 ⟨rfl, hb3⟩
                have HE : Hid (R = l ∧ bR = false) := Lib.hid (by rw [← HR.out, ← HBR0.out]; exact foL_no HV.out hv2)
                have HB3 := Lib.hid (belB HB8.out HB8.out.size hb3)
                have HR3 := Lib.hid (HRB.out.below hb3)
                clear hb3 hv2
                go_wp2_with (first
                  | (at_builtin
                     refine wpList_append_any _ rfl _ _ 24 rfl w.heap.size 29 i0 _ 2 32 Tryd.underlying24 HI.out HZ0.out HZ1.out HZ2.out rfl (by omega) (.slice (some ⟨w3.heap.size, 0, none⟩) 0 0) 0 [] rfl (own_less (World.ownsRow_made w3 #[] 0 (Nat.le_refl _) (by simp) (by simp)) HB3.out.size) w3.heap.size A n c (has l) rfl ((reads_of_rd HR3.out (by omega)).alloc (Nat.le_refl _) _) (has_oneCf l) (by simp only [maxLen]; omega) (by omega) (by simp; have := HB3.out.size; omega) ?_
                     intro v1 w4 hown1 hg1 hat1
                     have HO4 := Lib.hid hown1
                     have HB4 : Hid (Below w.heap.size w w4) := Lib.hid ((HB3.out.alloc HB3.out.size _).grown hg1 (by simp; have := HB3.out.size; omega) (by intro k hk; simp [Value.ownBlock] at hk; have := HB3.out.size; omega))
                     clear hown1 hg1 hat1))
                go_wp2_with fail
                go_ret2
                exact ⟨_, by rw [HE.out.2]; rfl, by rw [HE.out.1, HLL.out]; have := HO4.out; simpa using this, HB4.out⟩
              · rintro e w3 ⟨rfl, hb3⟩
                have HE : Hid (R = foM l ⟨da, db⟩ ∧ bR = true) := Lib.hid (by rw [← HR.out, ← HBR0.out]; exact foL_yes HV.out hv2)
                have HB3 := Lib.hid (belB HB8.out HB8.out.size hb3)
                have HO3 := Lib.hid (own_below HO7.out hb3)
                clear hb3 hv2
                go_wp2_with fail
                go_ret2
                exact ⟨_, by rw [HE.out.2]; rfl, by rw [HE.out.1, foM_len, HLL.out]; exact HO3.out, HB3.out⟩
        · go_wp2
          refine wp_region_typedG (wo.heap.size + 0) (wo.heap.size + 0) (fun t v _ => match t with
            | 12 => v = .int .i64 k
            | 13 => v = .slice (some ⟨b, off, none⟩) n c
            | 14 => v = .int .i64 n
            | 15 => v = .bool true
            | 16 => v = .bool true
            | 17 => v = .slice (some ⟨b, off, none⟩) n c
            | 18 => v = .int .i64 k
            | 19 => v = .pointer (some ⟨b, off + k * 2, none⟩)
            | 20 => v = .agg #[.string z.a, .string z.b]
            | 21 => v = .agg #[.string da, .string db]
            | 22 => v = .bool true
            | 23 => v = .bool true
            | _ => True) (fun _ _ => True) (by kernel_rfl) (regOkG_of (by kernel_rfl) (by kernel_rfl)) (fun _ _ _ _ _ h => h) trivial ?_ ?_
          · intro i o cx bx wb ho hc hJ hN hsz hfr hdep hgd K hK
            have hi := (Array.getElem?_eq_some_iff.1 ho).1
            simp only [List.size_toArray, List.length_cons, List.length_nil] at hi hc
            have hcases : i = 0 ∨ i = 1 ∨ i = 2 ∨ i = 3 ∨ i = 4 ∨ i = 5 ∨ i = 6 ∨ i = 7 ∨ i = 8 ∨ i = 9 ∨ i = 10 ∨ i = 11 := by omega
            rcases hcases with rfl | rfl | rfl | rfl | rfl | rfl | rfl | rfl | rfl | rfl | rfl | rfl
            · cases (show some _ = some o from ho)
              refine ite_yes (by rfl) ?_
              have h6 : bx.tmps.getD 6 undef = .int .i64 k := hfr 6 (noDst_of (by kernel_rfl))
              have f6 := getD_opt h6
              have HK := Lib.hid hK
              have HN := Lib.hid hN
              clear hK hdep hgd hfr hsz ho hN
              go_simp
              exact HK.out _ _ (fun d hd => by cases hd; exact rfl) (Nx.refl _ _ _) trivial
            · cases (show some _ = some o from ho)
              refine ite_yes (by rfl) ?_
              have h0 : bx.tmps.getD 0 undef = .slice (some ⟨b, off, none⟩) n c := hfr 0 (noDst_of (by kernel_rfl))
              have f0 := getD_opt h0
              have HK := Lib.hid hK
              have HN := Lib.hid hN
              clear hK hdep hgd hfr hsz ho hN
              go_simp
              exact HK.out _ _ (fun d hd => by cases hd; exact rfl) (Nx.refl _ _ _) trivial
            · cases (show some _ = some o from ho)
              refine ite_yes (by rfl) ?_
              have h13 : bx.tmps.getD 13 undef = .slice (some ⟨b, off, none⟩) n c := hdep 13 (reads_of (by kernel_rfl)) ⟨1, _, rfl, rfl⟩
              have f13 := getD_opt h13
              have HK := Lib.hid hK
              have HN := Lib.hid hN
              clear hK hdep hgd hfr hsz ho hN
              go_simp
              exact HK.out _ _ (fun d hd => by cases hd; exact rfl) (Nx.refl _ _ _) trivial
            · cases (show some _ = some o from ho)
              refine ite_yes (by rfl) ?_
              have h12 : bx.tmps.getD 12 undef = .int .i64 k := hdep 12 (reads_of (by kernel_rfl)) ⟨0, _, rfl, rfl⟩
              have f12 := getD_opt h12
              have h14 : bx.tmps.getD 14 undef = .int .i64 n := hdep 14 (reads_of (by kernel_rfl)) ⟨2, _, rfl, rfl⟩
              have f14 := getD_opt h14
              have HK := Lib.hid hK
              have HN := Lib.hid hN
              clear hK hdep hgd hfr hsz ho hN
              go_simp
              exact HK.out _ _ (fun d hd => by cases hd; exact rfl) (Nx.refl _ _ _) trivial
            · cases (show some _ = some o from ho)
              refine ite_yes (by rfl) ?_
              have h15 : bx.tmps.getD 15 undef = .bool true := hdep 15 (reads_of (by kernel_rfl)) ⟨3, _, rfl, rfl⟩
              have f15 := getD_opt h15
              have HK := Lib.hid hK
              have HN := Lib.hid hN
              clear hK hdep hgd hfr hsz ho hN
              go_simp
              exact HK.out _ _ (fun d hd => by cases hd; exact rfl) (Nx.refl _ _ _) trivial
            · cases (show some _ = some o from ho)
              have hg : bx.tmps.getD 16 undef = .bool true := hgd 4 true _ 16 rfl rfl rfl
              refine ite_yes ((wanted_of rfl rfl rfl hg).trans rfl) ?_
              have h0 : bx.tmps.getD 0 undef = .slice (some ⟨b, off, none⟩) n c := hfr 0 (noDst_of (by kernel_rfl))
              have f0 := getD_opt h0
              have HK := Lib.hid hK
              have HN := Lib.hid hN
              clear hK hdep hgd hfr hsz ho hN
              go_simp
              exact HK.out _ _ (fun d hd => by cases hd; exact rfl) (Nx.refl _ _ _) trivial
            · cases (show some _ = some o from ho)
              have hg : bx.tmps.getD 16 undef = .bool true := hgd 4 true _ 16 rfl rfl rfl
              refine ite_yes ((wanted_of rfl rfl rfl hg).trans rfl) ?_
              have h6 : bx.tmps.getD 6 undef = .int .i64 k := hfr 6 (noDst_of (by kernel_rfl))
              have f6 := getD_opt h6
              have HK := Lib.hid hK
              have HN := Lib.hid hN
              clear hK hdep hgd hfr hsz ho hN
              go_simp
              exact HK.out _ _ (fun d hd => by cases hd; exact rfl) (Nx.refl _ _ _) trivial
            · cases (show some _ = some o from ho)
              have hg : bx.tmps.getD 16 undef = .bool true := hgd 4 true _ 16 rfl rfl rfl
              refine ite_yes ((wanted_of rfl rfl rfl hg).trans rfl) ?_
              have h17 : bx.tmps.getD 17 undef = .slice (some ⟨b, off, none⟩) n c := hdep 17 (reads_of (by kernel_rfl)) ⟨5, _, rfl, rfl⟩
              have f17 := getD_opt h17
              have h18 : bx.tmps.getD 18 undef = .int .i64 k := hdep 18 (reads_of (by kernel_rfl)) ⟨6, _, rfl, rfl⟩
              have f18 := getD_opt h18
              have HK := Lib.hid hK
              have HN := Lib.hid hN
              clear hK hdep hgd hfr hsz ho hN
              go_simp
              try rw [if_pos (by omega)]
              exact HK.out _ _ (fun d hd => by cases hd; exact rfl) (Nx.refl _ _ _) trivial
            · cases (show some _ = some o from ho)
              have hg : bx.tmps.getD 16 undef = .bool true := hgd 4 true _ 16 rfl rfl rfl
              refine ite_yes ((wanted_of rfl rfl rfl hg).trans rfl) ?_
              have h19 : bx.tmps.getD 19 undef = .pointer (some ⟨b, off + k * 2, none⟩) := hdep 19 (reads_of (by kernel_rfl)) ⟨7, _, rfl, rfl⟩
              have f19 := getD_opt h19
              have c0 := hN.cell (b := b) (o := off + k * 2) (v := .string z.a) hc0 (by omega) (by omega)
              have c1 := hN.cell (b := b) (o := off + k * 2 + 1) (v := .string z.b) hc1 (by omega) (by omega)
              have d0 := hN.cell (b := w.heap.size) (o := 0) (v := .string da) g0 (by omega) (by omega)
              have d1 := hN.cell (b := w.heap.size) (o := 1) (v := .string db) g1 (by omega) (by omega)
              have HK := Lib.hid hK
              have HN := Lib.hid hN
              clear hK hdep hgd hfr hsz ho hN
              go_simp
              exact HK.out _ _ (fun d hd => by cases hd; exact rfl) (Nx.refl _ _ _) trivial
            · cases (show some _ = some o from ho)
              have hg : bx.tmps.getD 16 undef = .bool true := hgd 4 true _ 16 rfl rfl rfl
              refine ite_yes ((wanted_of rfl rfl rfl hg).trans rfl) ?_
              have h3 : bx.tmps.getD 3 undef = .pointer (some ⟨w.heap.size, 0, none⟩) := hfr 3 (noDst_of (by kernel_rfl))
              have f3 := getD_opt h3
              have c0 := hN.cell (b := b) (o := off + k * 2) (v := .string z.a) hc0 (by omega) (by omega)
              have c1 := hN.cell (b := b) (o := off + k * 2 + 1) (v := .string z.b) hc1 (by omega) (by omega)
              have d0 := hN.cell (b := w.heap.size) (o := 0) (v := .string da) g0 (by omega) (by omega)
              have d1 := hN.cell (b := w.heap.size) (o := 1) (v := .string db) g1 (by omega) (by omega)
              have HK := Lib.hid hK
              have HN := Lib.hid hN
              clear hK hdep hgd hfr hsz ho hN
              go_simp
              exact HK.out _ _ (fun d hd => by cases hd; exact rfl) (Nx.refl _ _ _) trivial
            · cases (show some _ = some o from ho)
              have hg : bx.tmps.getD 16 undef = .bool true := hgd 4 true _ 16 rfl rfl rfl
              refine ite_yes ((wanted_of rfl rfl rfl hg).trans rfl) ?_
              have h20 : bx.tmps.getD 20 undef = .agg #[.string z.a, .string z.b] := hdep 20 (reads_of (by kernel_rfl)) ⟨8, _, rfl, rfl⟩
              have f20 := getD_opt h20
              have h21 : bx.tmps.getD 21 undef = .agg #[.string da, .string db] := hdep 21 (reads_of (by kernel_rfl)) ⟨9, _, rfl, rfl⟩
              have f21 := getD_opt h21
              have HK := Lib.hid hK
              have HN := Lib.hid hN
              clear hK hdep hgd hfr hsz ho hN
              go_simp
              refine (hb_spec z ⟨da, db⟩ _).mono ?_
              rw [hr]
              rintro e w' ⟨rfl, o1, o2, rfl⟩
              exact HK.out _ _ (fun d hd => by cases hd; exact rfl) (nx_below (bel2 rfl)) trivial
            · cases (show some _ = some o from ho)
              refine ite_yes (by rfl) ?_
              have h16 : bx.tmps.getD 16 undef = .bool true := hdep 16 (reads_of (by kernel_rfl)) ⟨4, _, rfl, rfl⟩
              have f16 := getD_opt h16
              have h22 : bx.tmps.getD 22 undef = .bool true := hdep 22 (reads_of (by kernel_rfl)) ⟨10, _, rfl, rfl⟩
              have f22 := getD_opt h22
              have HK := Lib.hid hK
              have HN := Lib.hid hN
              clear hK hdep hgd hfr hsz ho hN
              go_simp
              exact HK.out _ _ (fun d hd => by cases hd; exact rfl) (Nx.refl _ _ _) trivial
          · intro bx wb hsz hdf hfr hty hN hJ
            obtain ⟨tm, df⟩ := bx
            obtain rfl : df = [] := hdf
            have q0 : tm.getD 0 undef = .slice (some ⟨b, off, none⟩) n c := hfr 0 (noDst_of (by kernel_rfl))
            have q1 : tm.getD 1 undef = .agg #[.string da, .string db] := hfr 1 (noDst_of (by kernel_rfl))
            have q2 : tm.getD 2 undef = undef := hfr 2 (noDst_of (by kernel_rfl))
            have q3 : tm.getD 3 undef = .pointer (some ⟨w.heap.size, 0, none⟩) := hfr 3 (noDst_of (by kernel_rfl))
            have q4 : tm.getD 4 undef = .slice none 0 0 := hfr 4 (noDst_of (by kernel_rfl))
            have q5 : tm.getD 5 undef = .bool false := hfr 5 (noDst_of (by kernel_rfl))
            have q6 : tm.getD 6 undef = .int .i64 k := hfr 6 (noDst_of (by kernel_rfl))
            have q7 : tm.getD 7 undef = undef := hfr 7 (noDst_of (by kernel_rfl))
            have q8 : tm.getD 8 undef = .slice (some ⟨b, off, none⟩) n c := hfr 8 (noDst_of (by kernel_rfl))
            have q9 : tm.getD 9 undef = .bool true := hfr 9 (noDst_of (by kernel_rfl))
            have q10 : tm.getD 10 undef = .bool false := hfr 10 (noDst_of (by kernel_rfl))
            have q11 : tm.getD 11 undef = undef := hfr 11 (noDst_of (by kernel_rfl))
            have q26 : tm.getD 26 undef = undef := hfr 26 (noDst_of (by kernel_rfl))
            have q27 : tm.getD 27 undef = undef := hfr 27 (noDst_of (by kernel_rfl))
            have q28 : tm.getD 28 undef = undef := hfr 28 (noDst_of (by kernel_rfl))
            have q29 : tm.getD 29 undef = undef := hfr 29 (noDst_of (by kernel_rfl))
            have q30 : tm.getD 30 undef = undef := hfr 30 (noDst_of (by kernel_rfl))
            have q31 : tm.getD 31 undef = undef := hfr 31 (noDst_of (by kernel_rfl))
            have q32 : tm.getD 32 undef = undef := hfr 32 (noDst_of (by kernel_rfl))
            have q33 : tm.getD 33 undef = undef := hfr 33 (noDst_of (by kernel_rfl))
            have q34 : tm.getD 34 undef = undef := hfr 34 (noDst_of (by kernel_rfl))
            have q35 : tm.getD 35 undef = undef := hfr 35 (noDst_of (by kernel_rfl))
            have q36 : tm.getD 36 undef = undef := hfr 36 (noDst_of (by kernel_rfl))
            have q37 : tm.getD 37 undef = undef := hfr 37 (noDst_of (by kernel_rfl))
            have q38 : tm.getD 38 undef = undef := hfr 38 (noDst_of (by kernel_rfl))
            have q39 : tm.getD 39 undef = undef := hfr 39 (noDst_of (by kernel_rfl))
            have q40 : tm.getD 40 undef = undef := hfr 40 (noDst_of (by kernel_rfl))
            have q41 : tm.getD 41 undef = undef := hfr 41 (noDst_of (by kernel_rfl))
            have q42 : tm.getD 42 undef = undef := hfr 42 (noDst_of (by kernel_rfl))
            have q43 : tm.getD 43 undef = undef := hfr 43 (noDst_of (by kernel_rfl))
            have q44 : tm.getD 44 undef = undef := hfr 44 (noDst_of (by kernel_rfl))
            have q23 : tm.getD 23 undef = .bool true := hty 11 _ 23 rfl rfl
            have HNX := Lib.hid hN
            have q := lit_of tm 45 hsz
            simp only [List.range, List.range.loop, List.map, q0, q1, q2, q3, q4, q5, q6, q7, q8, q9, q10, q11, q26, q27, q28, q29, q30, q31, q32, q33, q34, q35, q36, q37, q38, q39, q40, q41, q42, q43, q44, q23] at q
            have HQ := Lib.hid q
            clear q hsz hfr hty hN hJ q0 q1 q2 q3 q4 q5 q6 q7 q8 q9 q10 q11 q26 q27 q28 q29 q30 q31 q32 q33 q34 q35 q36 q37 q38 q39 q40 q41 q42 q43 q44 q23
            rw [HQ.out]
            generalize tm.getD 12 undef = x12
            generalize tm.getD 13 undef = x13
            generalize tm.getD 14 undef = x14
            generalize tm.getD 15 undef = x15
            generalize tm.getD 16 undef = x16
            generalize tm.getD 17 undef = x17
            generalize tm.getD 18 undef = x18
            generalize tm.getD 19 undef = x19
            generalize tm.getD 20 undef = x20
            generalize tm.getD 21 undef = x21
            generalize tm.getD 22 undef = x22
            generalize tm.getD 24 undef = x24
            generalize tm.getD 25 undef = x25
            clear HQ
            have hB2 := below_of_nx HBR.out (by omega) (by omega) HNX.out
            have HB2 := Lib.hid hB2
            clear hB2 HNX
            go_wp2_with fail
            go_roundw
            case rel => first | exact ⟨k + 1, by omega, by go_num, FoL_succ HAL.out HZ.out hr, HB2.out⟩ | ((repeat apply Exists.intro); exact ⟨⟨k + 1, by omega, by go_num, FoL_succ HAL.out HZ.out hr, HB2.out⟩, rfl⟩)
            case measure => simp [intOf]; omega
      · have hd0 : decide (k < n) = false := by simpa using hlt
        have hd1 : decide ((k : Int) < (n : Int)) = false := by simpa using hlt
        go_wp2
        refine wp_region_typedG (wo.heap.size + 0) (wo.heap.size + 0) (fun t v _ => match t with
          | 12 => v = .int .i64 k
          | 13 => v = .slice A n c
          | 14 => v = .int .i64 n
          | 15 => v = .bool false
          | 16 => v = .bool false
          | 17 => v = undef
          | 18 => v = undef
          | 19 => v = undef
          | 20 => v = undef
          | 21 => v = undef
          | 22 => v = undef
          | 23 => v = .bool false
          | _ => True) (fun _ _ => True) (by kernel_rfl) (regOkG_of (by kernel_rfl) (by kernel_rfl)) (fun _ _ _ _ _ h => h) trivial ?_ ?_
        · intro i o cx bx wb ho hc hJ hN hsz hfr hdep hgd K hK
          have hi := (Array.getElem?_eq_some_iff.1 ho).1
          simp only [List.size_toArray, List.length_cons, List.length_nil] at hi hc
          have hcases : i = 0 ∨ i = 1 ∨ i = 2 ∨ i = 3 ∨ i = 4 ∨ i = 5 ∨ i = 6 ∨ i = 7 ∨ i = 8 ∨ i = 9 ∨ i = 10 ∨ i = 11 := by omega
          rcases hcases with rfl | rfl | rfl | rfl | rfl | rfl | rfl | rfl | rfl | rfl | rfl | rfl
          · cases (show some _ = some o from ho)
            refine ite_yes (by rfl) ?_
            have h6 : bx.tmps.getD 6 undef = .int .i64 k := hfr 6 (noDst_of (by kernel_rfl))
            have f6 := getD_opt h6
            have HK := Lib.hid hK
            have HN := Lib.hid hN
            clear hK hdep hgd hfr hsz ho hN
            go_simp
            exact HK.out _ _ (fun d hd => by cases hd; exact rfl) (Nx.refl _ _ _) trivial
          · cases (show some _ = some o from ho)
            refine ite_yes (by rfl) ?_
            have h0 : bx.tmps.getD 0 undef = .slice A n c := hfr 0 (noDst_of (by kernel_rfl))
            have f0 := getD_opt h0
            have HK := Lib.hid hK
            have HN := Lib.hid hN
            clear hK hdep hgd hfr hsz ho hN
            go_simp
            exact HK.out _ _ (fun d hd => by cases hd; exact rfl) (Nx.refl _ _ _) trivial
          · cases (show some _ = some o from ho)
            refine ite_yes (by rfl) ?_
            have h13 : bx.tmps.getD 13 undef = .slice A n c := hdep 13 (reads_of (by kernel_rfl)) ⟨1, _, rfl, rfl⟩
            have f13 := getD_opt h13
            have HK := Lib.hid hK
            have HN := Lib.hid hN
            clear hK hdep hgd hfr hsz ho hN
            go_simp
            exact HK.out _ _ (fun d hd => by cases hd; exact rfl) (Nx.refl _ _ _) trivial
          · cases (show some _ = some o from ho)
            refine ite_yes (by rfl) ?_
            have h12 : bx.tmps.getD 12 undef = .int .i64 k := hdep 12 (reads_of (by kernel_rfl)) ⟨0, _, rfl, rfl⟩
            have f12 := getD_opt h12
            have h14 : bx.tmps.getD 14 undef = .int .i64 n := hdep 14 (reads_of (by kernel_rfl)) ⟨2, _, rfl, rfl⟩
            have f14 := getD_opt h14
            have HK := Lib.hid hK
            have HN := Lib.hid hN
            clear hK hdep hgd hfr hsz ho hN
            go_simp
            exact HK.out _ _ (fun d hd => by cases hd; exact rfl) (Nx.refl _ _ _) trivial
          · cases (show some _ = some o from ho)
            refine ite_yes (by rfl) ?_
            have h15 : bx.tmps.getD 15 undef = .bool false := hdep 15 (reads_of (by kernel_rfl)) ⟨3, _, rfl, rfl⟩
            have f15 := getD_opt h15
            have HK := Lib.hid hK
            have HN := Lib.hid hN
            clear hK hdep hgd hfr hsz ho hN
            go_simp
            exact HK.out _ _ (fun d hd => by cases hd; exact rfl) (Nx.refl _ _ _) trivial
          · cases (show some _ = some o from ho)
            have hg : bx.tmps.getD 16 undef = .bool false := hgd 4 true _ 16 rfl rfl rfl
            refine ite_no ((wanted_of rfl rfl rfl hg).trans rfl) ?_
            exact hK undef _ (fun d hd => by cases hd; exact rfl) (Nx.refl _ _ _) trivial
          · cases (show some _ = some o from ho)
            have hg : bx.tmps.getD 16 undef = .bool false := hgd 4 true _ 16 rfl rfl rfl
            refine ite_no ((wanted_of rfl rfl rfl hg).trans rfl) ?_
            exact hK undef _ (fun d hd => by cases hd; exact rfl) (Nx.refl _ _ _) trivial
          · cases (show some _ = some o from ho)
            have hg : bx.tmps.getD 16 undef = .bool false := hgd 4 true _ 16 rfl rfl rfl
            refine ite_no ((wanted_of rfl rfl rfl hg).trans rfl) ?_
            exact hK undef _ (fun d hd => by cases hd; exact rfl) (Nx.refl _ _ _) trivial
          · cases (show some _ = some o from ho)
            have hg : bx.tmps.getD 16 undef = .bool false := hgd 4 true _ 16 rfl rfl rfl
            refine ite_no ((wanted_of rfl rfl rfl hg).trans rfl) ?_
            exact hK undef _ (fun d hd => by cases hd; exact rfl) (Nx.refl _ _ _) trivial
          · cases (show some _ = some o from ho)
            have hg : bx.tmps.getD 16 undef = .bool false := hgd 4 true _ 16 rfl rfl rfl
            refine ite_no ((wanted_of rfl rfl rfl hg).trans rfl) ?_
            exact hK undef _ (fun d hd => by cases hd; exact rfl) (Nx.refl _ _ _) trivial
          · cases (show some _ = some o from ho)
            have hg : bx.tmps.getD 16 undef = .bool false := hgd 4 true _ 16 rfl rfl rfl
            refine ite_no ((wanted_of rfl rfl rfl hg).trans rfl) ?_
            exact hK undef _ (fun d hd => by cases hd; exact rfl) (Nx.refl _ _ _) trivial
          · cases (show some _ = some o from ho)
            refine ite_yes (by rfl) ?_
            have h16 : bx.tmps.getD 16 undef = .bool false := hdep 16 (reads_of (by kernel_rfl)) ⟨4, _, rfl, rfl⟩
            have f16 := getD_opt h16
            have h22 : bx.tmps.getD 22 undef = undef := hdep 22 (reads_of (by kernel_rfl)) ⟨10, _, rfl, rfl⟩
            have HK := Lib.hid hK
            have HN := Lib.hid hN
            clear hK hdep hgd hfr hsz ho hN
            go_simp
            exact HK.out _ _ (fun d hd => by cases hd; exact rfl) (Nx.refl _ _ _) trivial
        · intro bx wb hsz hdf hfr hty hN hJ
          obtain ⟨tm, df⟩ := bx
          obtain rfl : df = [] := hdf
          have q0 : tm.getD 0 undef = .slice A n c := hfr 0 (noDst_of (by kernel_rfl))
          have q1 : tm.getD 1 undef = .agg #[.string da, .string db] := hfr 1 (noDst_of (by kernel_rfl))
          have q2 : tm.getD 2 undef = undef := hfr 2 (noDst_of (by kernel_rfl))
          have q3 : tm.getD 3 undef = .pointer (some ⟨w.heap.size, 0, none⟩) := hfr 3 (noDst_of (by kernel_rfl))
          have q4 : tm.getD 4 undef = .slice none 0 0 := hfr 4 (noDst_of (by kernel_rfl))
          have q5 : tm.getD 5 undef = .bool false := hfr 5 (noDst_of (by kernel_rfl))
          have q6 : tm.getD 6 undef = .int .i64 k := hfr 6 (noDst_of (by kernel_rfl))
          have q7 : tm.getD 7 undef = undef := hfr 7 (noDst_of (by kernel_rfl))
          have q8 : tm.getD 8 undef = .slice A n c := hfr 8 (noDst_of (by kernel_rfl))
          have q9 : tm.getD 9 undef = .bool true := hfr 9 (noDst_of (by kernel_rfl))
          have q10 : tm.getD 10 undef = .bool false := hfr 10 (noDst_of (by kernel_rfl))
          have q11 : tm.getD 11 undef = undef := hfr 11 (noDst_of (by kernel_rfl))
          have q26 : tm.getD 26 undef = undef := hfr 26 (noDst_of (by kernel_rfl))
          have q27 : tm.getD 27 undef = undef := hfr 27 (noDst_of (by kernel_rfl))
          have q28 : tm.getD 28 undef = undef := hfr 28 (noDst_of (by kernel_rfl))
          have q29 : tm.getD 29 undef = undef := hfr 29 (noDst_of (by kernel_rfl))
          have q30 : tm.getD 30 undef = undef := hfr 30 (noDst_of (by kernel_rfl))
          have q31 : tm.getD 31 undef = undef := hfr 31 (noDst_of (by kernel_rfl))
          have q32 : tm.getD 32 undef = undef := hfr 32 (noDst_of (by kernel_rfl))
          have q33 : tm.getD 33 undef = undef := hfr 33 (noDst_of (by kernel_rfl))
          have q34 : tm.getD 34 undef = undef := hfr 34 (noDst_of (by kernel_rfl))
          have q35 : tm.getD 35 undef = undef := hfr 35 (noDst_of (by kernel_rfl))
          have q36 : tm.getD 36 undef = undef := hfr 36 (noDst_of (by kernel_rfl))
          have q37 : tm.getD 37 undef = undef := hfr 37 (noDst_of (by kernel_rfl))
          have q38 : tm.getD 38 undef = undef := hfr 38 (noDst_of (by kernel_rfl))
          have q39 : tm.getD 39 undef = undef := hfr 39 (noDst_of (by kernel_rfl))
          have q40 : tm.getD 40 undef = undef := hfr 40 (noDst_of (by kernel_rfl))
          have q41 : tm.getD 41 undef = undef := hfr 41 (noDst_of (by kernel_rfl))
          have q42 : tm.getD 42 undef = undef := hfr 42 (noDst_of (by kernel_rfl))
          have q43 : tm.getD 43 undef = undef := hfr 43 (noDst_of (by kernel_rfl))
          have q44 : tm.getD 44 undef = undef := hfr 44 (noDst_of (by kernel_rfl))
          have q23 : tm.getD 23 undef = .bool false := hty 11 _ 23 rfl rfl
          have HNX := Lib.hid hN
          have q := lit_of tm 45 hsz
          simp only [List.range, List.range.loop, List.map, q0, q1, q2, q3, q4, q5, q6, q7, q8, q9, q10, q11, q26, q27, q28, q29, q30, q31, q32, q33, q34, q35, q36, q37, q38, q39, q40, q41, q42, q43, q44, q23] at q
          have HQ := Lib.hid q
          clear q hsz hfr hty hN hJ q0 q1 q2 q3 q4 q5 q6 q7 q8 q9 q10 q11 q26 q27 q28 q29 q30 q31 q32 q33 q34 q35 q36 q37 q38 q39 q40 q41 q42 q43 q44 q23
          rw [HQ.out]
          generalize tm.getD 12 undef = x12
          generalize tm.getD 13 undef = x13
          generalize tm.getD 14 undef = x14
          generalize tm.getD 15 undef = x15
          generalize tm.getD 16 undef = x16
          generalize tm.getD 17 undef = x17
          generalize tm.getD 18 undef = x18
          generalize tm.getD 19 undef = x19
          generalize tm.getD 20 undef = x20
          generalize tm.getD 21 undef = x21
          generalize tm.getD 22 undef = x22
          generalize tm.getD 24 undef = x24
          generalize tm.getD 25 undef = x25
          clear HQ
          have hB2 := below_of_nx HBR.out (by omega) (by omega) HNX.out
          have HB2 := Lib.hid hB2
          clear hB2 HNX
          go_upto_region 6 with (fail)
          have HKN : Hid (k = foN l ⟨da, db⟩) := Lib.hid (fo_at (by rw [HLL.out]; exact hk) HAL.out (fun z' hz' => absurd (get_lt hz') (by rw [HLL.out]; exact hlt)))
          clear g0 g1 hd0 hd1 hws hkl hlt
          have HKQ : Hid (Bk wb w.heap.size 29 #[.string da, .string db]) := Lib.hid (HK1.out.keep HB2.out)
          have HRD := Lib.hid (H.out.below (HB1.out.trans (HB2.out.mono HB1.out.size)))
          have HBQ := Lib.hid (HB1.out.trans (HB2.out.mono HB1.out.size))
          obtain ⟨wq, rfl⟩ : ∃ wq : World, wq = wb := ⟨_, rfl⟩
          clear HB2 HBR
          have hkb : Bk wq w.heap.size 29 #[.string da, .string db] := HKQ.out
          have k0 := hkb.cell 0 (v := .string da) rfl
          have k1 := hkb.cell 1 (v := .string db) rfl
          have hkl := hkb.lt
          have R1 := Lib.hid (reads_of_rd (ha_take HRD.out hk) (by omega))
          have R2 := Lib.hid (reads_of_rd (ha_cut HRD.out hk HNC.out) (by omega))
          have hnc := HNC.out
          have hcm := HC.out
          unfold maxLen at hcm
          have hkc : k ≤ c := by omega
          clear hkb
          refine wp_region_inv (InsJ 29 2 26 wq.heap.size A n k c (fun v => ∃ A' c', v = .slice A' (n - k) c' ∧ Reads wq wq.heap.size 2 A' (n - k) (has (l.drop k))) (hav ⟨da, db⟩) (hac ⟨da, db⟩) (has (l.take k)) (has (l.drop k)) wq) (by kernel_rfl) (regOkG_of (by kernel_rfl) (by kernel_rfl)) (InsJ.start (by simp) (Below.refl _ _).drew) ?_ ?_
          · intro i o f b wb ho hf hrd hcl hsz hfr hJ K hK
            have hi := (Array.getElem?_eq_some_iff.1 ho).1
            simp only [List.size_toArray, List.length_cons, List.length_nil] at hi
            have hcases : i = 0 ∨ i = 1 ∨ i = 2 ∨ i = 3 ∨ i = 4 ∨ i = 5 ∨ i = 6 ∨ i = 7 ∨ i = 8 ∨ i = 9 ∨ i = 10 ∨ i = 11 ∨ i = 12 := by omega
            have c40 : f 0 = false → f 4 = false := fun h => by
              cases e : f 4
              · rfl
              · rw [hcl 4 _ ⟨0, .data⟩ rfl e (by simp) rfl] at h; cases h
            have c74 : f 4 = false → f 7 = false := fun h => by
              cases e : f 7
              · rfl
              · rw [hcl 7 _ ⟨4, .data⟩ rfl e (by simp) rfl] at h; cases h
            have c76 : f 6 = false → f 7 = false := fun h => by
              cases e : f 7
              · rfl
              · rw [hcl 7 _ ⟨6, .data⟩ rfl e (by simp) rfl] at h; cases h
            have c117 : f 7 = false → f 11 = false := fun h => by
              cases e : f 11
              · rfl
              · rw [hcl 11 _ ⟨7, .data⟩ rfl e (by simp) rfl] at h; cases h
            have c1211 : f 11 = false → f 12 = false := fun h => by
              cases e : f 12
              · rfl
              · rw [hcl 12 _ ⟨11, .data⟩ rfl e (by simp) rfl] at h; cases h
            have hB : wq.heap.size ≤ wb.heap.size := hJ.below.size
            have g0 := (hJ.below.cell (p := ⟨w.heap.size, 0, none⟩) hkl).trans k0
            have g1 := (hJ.below.cell (p := ⟨w.heap.size, 1, none⟩) hkl).trans k1
            rcases hcases with rfl | rfl | rfl | rfl | rfl | rfl | rfl | rfl | rfl | rfl | rfl | rfl | rfl
            · cases (show some _ = some o from ho)
              refine ite_yes (by rfl) ?_
              have h4 := c40 hf
              have h7 := c74 h4
              have h11 := c117 h7
              have HK := Lib.hid hK; have HJ := Lib.hid hJ
              clear hK hJ hcl hrd hfr hsz ho
              go_simp
              exact HK.out _ _ (HJ.out.step0 (by decide) hB h4 h7 h11)
            · cases (show some _ = some o from ho)
              refine ite_yes (by rfl) ?_
              have h0 : b.tmps.getD 0 undef = _ := hfr 0 (noDst_of (by kernel_rfl))
              have f0 := getD_opt h0
              have HK := Lib.hid hK; have HJ := Lib.hid hJ
              clear hK hJ hcl hrd hfr hsz ho
              go_simp
              exact HK.out _ _ (HJ.out.pure 1 27 _ (by decide) (by decide) (by decide) (fun _ => rfl) (by intro e; cases e) (by intro e; cases e) (by intro e; cases e) (by intro e; cases e) (by intro e; cases e) (by intro e; cases e) (by intro e; cases e))
            · cases (show some _ = some o from ho)
              refine ite_yes (by rfl) ?_
              have h6 : b.tmps.getD 6 undef = _ := hfr 6 (noDst_of (by kernel_rfl))
              have f6 := getD_opt h6
              have HK := Lib.hid hK; have HJ := Lib.hid hJ
              clear hK hJ hcl hrd hfr hsz ho
              go_simp
              exact HK.out _ _ (HJ.out.pure 2 28 _ (by decide) (by decide) (by decide) (by intro e; cases e) (fun _ => rfl) (by intro e; cases e) (by intro e; cases e) (by intro e; cases e) (by intro e; cases e) (by intro e; cases e) (by intro e; cases e))
            · cases (show some _ = some o from ho)
              refine ite_yes (by rfl) ?_
              have h27 : b.tmps.getD 27 undef = _ := hJ.m1 (hrd ⟨1, .data⟩ (by simp) rfl)
              have f27 := getD_opt h27
              have h28 : b.tmps.getD 28 undef = _ := hJ.m2 (hrd ⟨2, .data⟩ (by simp) rfl)
              have f28 := getD_opt h28
              have HK := Lib.hid hK; have HJ := Lib.hid hJ
              clear hK hJ hcl hrd hfr hsz ho
              go_simp
              exact HK.out _ _ (HJ.out.pure 3 29 _ (by decide) (by decide) (by decide) (by intro e; cases e) (by intro e; cases e) (fun _ => rfl) (by intro e; cases e) (by intro e; cases e) (by intro e; cases e) (by intro e; cases e) (by intro e; cases e))
            · cases (show some _ = some o from ho)
              refine ite_yes (by rfl) ?_
              have h0 : f 0 = true := hrd ⟨0, .data⟩ (by simp) rfl
              have h3 : f 3 = true := hrd ⟨3, .data⟩ (by simp) rfl
              have h7 := c74 hf
              have h11 := c117 h7
              have hr := hJ.r0 h0 hf
              have hx : b.tmps.getD 29 undef = .slice A k c := hJ.m3 h3
              refine wp_append_any wb _ _ 24 rfl wq.heap.size 29 i0 _ 2 32 Tryd.underlying24 HI.out HZ0.out HZ1.out HZ2.out rfl (by omega) _ 0 [] rfl hr wq.heap.size A k c (has (l.take k)) hx (R1.out.below hJ.below) (has_oneCf _) (by simp only [maxLen]; omega) (by omega) hB ?_
              intro v w' hown hg hat
              rw [Nat.zero_add, List.nil_append] at hown
              exact hK _ _ (hJ.step4 (by decide) hB h0 hf h7 h11 hown hg hat)
            · cases (show some _ = some o from ho)
              refine ite_yes (by rfl) ?_
              have h3 : b.tmps.getD 3 undef = _ := hfr 3 (noDst_of (by kernel_rfl))
              have f3 := getD_opt h3
              have HK := Lib.hid hK; have HJ := Lib.hid hJ
              clear hK hJ hcl hrd hfr hsz ho
              go_simp
              exact HK.out _ _ (HJ.out.pure 5 31 _ (by decide) (by decide) (by decide) (by intro e; cases e) (by intro e; cases e) (by intro e; cases e) (fun _ => rfl) (by intro e; cases e) (by intro e; cases e) (by intro e; cases e) (by intro e; cases e))
            · cases (show some _ = some o from ho)
              refine ite_yes (by rfl) ?_
              have h7 := c76 hf
              have h11 := c117 h7
              have h31 : b.tmps.getD 31 undef = hav ⟨da, db⟩ := hJ.m5 (hrd ⟨5, .data⟩ (by simp) rfl)
              have f31 := getD_opt h31
              have HK := Lib.hid hK; have HJ := Lib.hid hJ
              clear hK hJ hcl hrd hfr hsz ho
              go_simp
              exact HK.out _ _ (HJ.out.step6 (by decide) hB h7 h11)
            · cases (show some _ = some o from ho)
              refine ite_yes (by rfl) ?_
              have h4 : f 4 = true := hrd ⟨4, .data⟩ (by simp) rfl
              have h6 : f 6 = true := hrd ⟨6, .data⟩ (by simp) rfl
              have h11 := c117 hf
              have hr := hJ.r4 h4 hf
              obtain ⟨g, e1, e2, e3, _, _⟩ := hJ.r6 h6 hf
              have hx : b.tmps.getD 32 undef = .slice (some ⟨g, 0, none⟩) 1 1 := e1
              refine wp_append_any wb _ _ 24 rfl wq.heap.size 29 i0 _ 2 32 Tryd.underlying24 HI.out HZ0.out HZ1.out HZ2.out rfl (by omega) _ k _ rfl hr (g + 1) (some ⟨g, 0, none⟩) 1 1 (hac ⟨da, db⟩) hx (reads_bk' e3 rfl (Nat.lt_succ_self _)) (by intro u hu; simp [hac] at hu; rcases hu with rfl | rfl <;> rfl) (by simp only [maxLen]; omega) (by omega) hB ?_
              intro v w' hown hg hat
              exact hK _ _ (hJ.step7 (by decide) hB h4 hf h11 hown hg)
            · cases (show some _ = some o from ho)
              refine ite_yes (by rfl) ?_
              have h0 : b.tmps.getD 0 undef = _ := hfr 0 (noDst_of (by kernel_rfl))
              have f0 := getD_opt h0
              have HK := Lib.hid hK; have HJ := Lib.hid hJ
              clear hK hJ hcl hrd hfr hsz ho
              go_simp
              exact HK.out _ _ (HJ.out.pure 8 34 _ (by decide) (by decide) (by decide) (by intro e; cases e) (by intro e; cases e) (by intro e; cases e) (by intro e; cases e) (fun _ => rfl) (by intro e; cases e) (by intro e; cases e) (by intro e; cases e))
            · cases (show some _ = some o from ho)
              refine ite_yes (by rfl) ?_
              have h6 : b.tmps.getD 6 undef = _ := hfr 6 (noDst_of (by kernel_rfl))
              have f6 := getD_opt h6
              have HK := Lib.hid hK; have HJ := Lib.hid hJ
              clear hK hJ hcl hrd hfr hsz ho
              go_simp
              exact HK.out _ _ (HJ.out.pure 9 35 _ (by decide) (by decide) (by decide) (by intro e; cases e) (by intro e; cases e) (by intro e; cases e) (by intro e; cases e) (by intro e; cases e) (fun _ => rfl) (by intro e; cases e) (by intro e; cases e))
            · cases (show some _ = some o from ho)
              refine ite_yes (by rfl) ?_
              have h34 : b.tmps.getD 34 undef = _ := hJ.m8 (hrd ⟨8, .data⟩ (by simp) rfl)
              have f34 := getD_opt h34
              have h35 : b.tmps.getD 35 undef = _ := hJ.m9 (hrd ⟨9, .data⟩ (by simp) rfl)
              have f35 := getD_opt h35
              have HK := Lib.hid hK; have HJ := Lib.hid hJ
              clear hK hJ hcl hrd hfr hsz ho
              by_cases hck : c = k
              · have hR := R2.out
                rw [if_pos hck] at hR
                subst hck
                go_simp
                exact HK.out _ _ (HJ.out.pure 10 36 _ (by decide) (by decide) (by decide) (by intro e; cases e) (by intro e; cases e) (by intro e; cases e) (by intro e; cases e) (by intro e; cases e) (by intro e; cases e) (fun _ => ⟨_, 0, by rw [show n - c = 0 by omega], hR⟩) (by intro e; cases e))
              · have hR := R2.out
                rw [if_neg hck] at hR
                go_simp
                exact HK.out _ _ (HJ.out.pure 10 36 _ (by decide) (by decide) (by decide) (by intro e; cases e) (by intro e; cases e) (by intro e; cases e) (by intro e; cases e) (by intro e; cases e) (by intro e; cases e) (fun _ => ⟨_, _, rfl, hR⟩) (by intro e; cases e))
            · cases (show some _ = some o from ho)
              refine ite_yes (by rfl) ?_
              have h7 : f 7 = true := hrd ⟨7, .data⟩ (by simp) rfl
              have h10 : f 10 = true := hrd ⟨10, .data⟩ (by simp) rfl
              have h4 : f 4 = true := hcl 7 _ ⟨4, .data⟩ rfl h7 (by simp) rfl
              have h12 := c1211 hf
              have hr := hJ.r7 h7 hf
              obtain ⟨A', c', e1, hR⟩ := hJ.m10 h10
              have hx : b.tmps.getD 36 undef = .slice A' (n - k) c' := e1
              refine wp_append_any wb _ _ 24 rfl wq.heap.size 29 i0 _ 2 32 Tryd.underlying24 HI.out HZ0.out HZ1.out HZ2.out rfl (by omega) _ (k + 1) _ rfl hr wq.heap.size A' (n - k) c' (has (l.drop k)) hx (hR.below hJ.below) (has_oneCf _) (by simp only [maxLen]; omega) (by omega) hB ?_
              intro v w' hown hg hat
              exact hK _ _ (hJ.step11 (by decide) hB h4 h7 hf h12 hown hg)
            · cases (show some _ = some o from ho)
              refine ite_yes (by rfl) ?_
              obtain ⟨A', c', h37, _, _, _⟩ := own_form (hJ.r11 (hrd ⟨11, .data⟩ (by simp) rfl))
              have h37 : b.tmps.getD 37 undef = .slice A' (k + 1 + (n - k)) c' := h37
              have f37 := getD_opt h37
              have HK := Lib.hid hK; have HJ := Lib.hid hJ; have H37 := Lib.hid h37
              clear hK hJ hcl hrd hfr hsz ho h37
              go_simp
              exact HK.out _ _ (HJ.out.pure 12 7 _ (by decide) (by decide) (by decide) (by intro e; cases e) (by intro e; cases e) (by intro e; cases e) (by intro e; cases e) (by intro e; cases e) (by intro e; cases e) (by intro e; cases e) (fun _ => H37.out.symm))
          · intro f b wb hall hsz hdf hfr hJ
            have h11 := hJ.r11 (hall 11 (by decide))
            have h12 : b.tmps.getD 7 undef = b.tmps.getD 37 undef := hJ.r12 (hall 12 (by decide))
            have HBL := Lib.hid hJ.below
            have hn1 : k + 1 + (n - k) = n + 1 := by omega
            have hM : has (l.take k) ++ hac ⟨da, db⟩ ++ has (l.drop k) = has (foM l ⟨da, db⟩) := by
              unfold foM; rw [← HKN.out, has_app, has_app, has_one]
            rw [hn1, hM] at h11
            have h11 : wb.ownsRow wq.heap.size 29 2 (b.tmps.getD 37 undef) (n + 1) (has (foM l ⟨da, db⟩)) := h11
            rw [← h12] at h11
            obtain ⟨A7, c7, e7, hnc7, hcm7, _⟩ := own_form h11
            rw [e7] at h11
            have HO7 := Lib.hid (own_less h11 HBQ.out.size); have HN7 : Hid (n + 1 ≤ c7 ∧ c7 ≤ maxLen) := Lib.hid ⟨hnc7, hcm7⟩
            clear hJ hall h11 h12 hnc7 hcm7 hM
            obtain ⟨tm, df⟩ := b
            obtain rfl : df = [] := hdf
            have q0 : tm.getD 0 undef = .slice A n c := hfr 0 (noDst_of (by kernel_rfl))
            have q4 : tm.getD 4 undef = .slice none 0 0 := hfr 4 (noDst_of (by kernel_rfl))
            have q5 : tm.getD 5 undef = .bool false := hfr 5 (noDst_of (by kernel_rfl))
            have q7 : tm.getD 7 undef = .slice A7 (n + 1) c7 := e7
            have q := lit_of tm 45 hsz
            simp only [List.range, List.range.loop, List.map, q0, q4, q5, q7] at q
            have HQ := Lib.hid q
            clear q hsz hfr q0 q4 q5 q7 e7
            rw [HQ.out]
            generalize tm.getD 1 undef = x1
            generalize tm.getD 2 undef = x2
            generalize tm.getD 3 undef = x3
            generalize tm.getD 6 undef = x6
            generalize tm.getD 8 undef = x8
            generalize tm.getD 9 undef = x9
            generalize tm.getD 10 undef = x10
            generalize tm.getD 11 undef = x11
            generalize tm.getD 12 undef = x12
            generalize tm.getD 13 undef = x13
            generalize tm.getD 14 undef = x14
            generalize tm.getD 15 undef = x15
            generalize tm.getD 16 undef = x16
            generalize tm.getD 17 undef = x17
            generalize tm.getD 18 undef = x18
            generalize tm.getD 19 undef = x19
            generalize tm.getD 20 undef = x20
            generalize tm.getD 21 undef = x21
            generalize tm.getD 22 undef = x22
            generalize tm.getD 23 undef = x23
            generalize tm.getD 24 undef = x24
            generalize tm.getD 25 undef = x25
            generalize tm.getD 26 undef = x26
            generalize tm.getD 27 undef = x27
            generalize tm.getD 28 undef = x28
            generalize tm.getD 29 undef = x29
            generalize tm.getD 30 undef = x30
            generalize tm.getD 31 undef = x31
            generalize tm.getD 32 undef = x32
            generalize tm.getD 33 undef = x33
            generalize tm.getD 34 undef = x34
            generalize tm.getD 35 undef = x35
            generalize tm.getD 36 undef = x36
            generalize tm.getD 37 undef = x37
            generalize tm.getD 38 undef = x38
            generalize tm.getD 39 undef = x39
            generalize tm.getD 40 undef = x40
            generalize tm.getD 41 undef = x41
            generalize tm.getD 42 undef = x42
            generalize tm.getD 43 undef = x43
            generalize tm.getD 44 undef = x44
            clear HQ
            have HB8 := Lib.hid (HBQ.out.trans (HBL.out.mono HBQ.out.size))
            have HRB := Lib.hid (HRD.out.below HBL.out)
            go_wp2_with fail
            refine (sfv_any _ _ _ (foM l ⟨da, db⟩) _ (rd_own HO7.out) HN7.out.1 HN7.out.2 (foM_small HS.out HD.out)).mono ?_
            cases hv2 : fvB (foM l ⟨da, db⟩)
            · rintro e w3 ⟨rfl, hb3⟩
              have HE : Hid (R = l ∧ bR = false) := Lib.hid (by rw [← HR.out, ← HBR0.out]; exact foL_no HV.out hv2)
              have HB3 := Lib.hid (belB HB8.out HB8.out.size hb3)
              have HR3 := Lib.hid (HRB.out.below hb3)
              clear hb3 hv2
              go_wp2_with (first
                | (at_builtin
                   refine wpList_append_any _ rfl _ _ 24 rfl w.heap.size 29 i0 _ 2 32 Tryd.underlying24 HI.out HZ0.out HZ1.out HZ2.out rfl (by omega) (.slice (some ⟨w3.heap.size, 0, none⟩) 0 0) 0 [] rfl (own_less (World.ownsRow_made w3 #[] 0 (Nat.le_refl _) (by simp) (by simp)) HB3.out.size) w3.heap.size A n c (has l) rfl ((reads_of_rd HR3.out (by omega)).alloc (Nat.le_refl _) _) (has_oneCf l) (by simp only [maxLen]; omega) (by omega) (by simp; have := HB3.out.size; omega) ?_
                   intro v1 w4 hown1 hg1 hat1
                   have HO4 := Lib.hid hown1
                   have HB4 : Hid (Below w.heap.size w w4) := Lib.hid ((HB3.out.alloc HB3.out.size _).grown hg1 (by simp; have := HB3.out.size; omega) (by intro k hk; simp [Value.ownBlock] at hk; have := HB3.out.size; omega))
                   clear hown1 hg1 hat1))
              go_wp2_with fail
              go_ret2
              exact ⟨_, by rw [HE.out.2]; rfl, by rw [HE.out.1, HLL.out]; have := HO4.out; simpa using this, HB4.out⟩
            · rintro e w3 ⟨rfl, hb3⟩
              have HE : Hid (R = foM l ⟨da, db⟩ ∧ bR = true) := Lib.hid (by rw [← HR.out, ← HBR0.out]; exact foL_yes HV.out hv2)
              have HB3 := Lib.hid (belB HB8.out HB8.out.size hb3)
              have HO3 := Lib.hid (own_below HO7.out hb3)
              clear hb3 hv2
              go_wp2_with fail
              go_ret2
              exact ⟨_, by rw [HE.out.2]; rfl, by rw [HE.out.1, foM_len, HLL.out]; exact HO3.out, HB3.out⟩
end Go.Proofs.YtpbnbekkmifbpaaDoor
