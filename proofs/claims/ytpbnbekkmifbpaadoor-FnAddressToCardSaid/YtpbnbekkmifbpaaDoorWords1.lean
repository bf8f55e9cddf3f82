/-
  The contract of l1Words: the words of a text.
-/
import Derived.Test.YtpbnbekkmifbpaaDoorWords
import Derived.Test.YtpbnbekkmifbpaaDoorTab
import Derived.Deep.DeepCutAuto
namespace Go.Proofs.YtpbnbekkmifbpaaDoor
open Go.ChangeShapes Go.WideShapes Go.ChangeAt Go.RowKit Go.Joins
set_option linter.unusedVariables false

/-- A drawn region that reads, and stores once, at its end. -/
structure StJ (N : Nat) (slot : Nat → Nat) (tab : Nat → Value → Prop) (js : Nat) (w0 w1 : World) (f : Nat → Bool) (s : Nat → Value) (w : World) : Prop where
  m : ∀ j, j < N → f j = true → tab j (s (slot j))
  wd : w = if f js = true then w1 else w0
section
variable {N : Nat} {slot : Nat → Nat} {tab : Nat → Value → Prop} {js : Nat} {w0 w1 w : World} {f : Nat → Bool} {s : Nat → Value}
theorem StJ.start (s : Nat → Value) : StJ N slot tab js w0 w1 (fun _ => false) s w0 := ⟨fun j _ h => (by cases h), (by simp)⟩
theorem StJ.pure (h : StJ N slot tab js w0 w1 f s w) (inj : ∀ i, i < N → ∀ j, j < N → slot i = slot j → i = j) (i : Nat) (hi : i < N) (his : i ≠ js) {v : Value} (ht : tab i v) :
    StJ N slot tab js w0 w1 (upF f i) (upS s (slot i) v) w := by
  refine ⟨fun j hj hf => ?_, ?_⟩
  · by_cases e : j = i
    · subst e; rw [upS_eq]; exact ht
    · rw [upF_ne e] at hf
      rw [upS_ne (fun q => e (inj i hi j hj q).symm)]; exact h.m j hj hf
  · rw [upF_ne (Ne.symm his)]; exact h.wd
theorem StJ.old (h : StJ N slot tab js w0 w1 f s w) (hf : f js = false) : w = w0 := by have := h.wd; rw [hf] at this; simpa using this
theorem StJ.new (h : StJ N slot tab js w0 w1 f s w) (hf : f js = true) : w = w1 := by have := h.wd; rw [hf] at this; simpa using this
theorem StJ.store (h : StJ N slot tab js w0 w1 f s w) (ht : ∀ v, tab js v) : StJ N slot tab js w0 w1 (upF f js) s w1 := by
  refine ⟨fun j hj hf => ?_, ?_⟩
  · by_cases e : j = js
    · subst e; exact ht _
    · rw [upF_ne e] at hf; exact h.m j hj hf
  · rw [upF_eq]; simp
end
theorem own_lit (w : World) (base : Nat) (e : TypeId) (v : Value) (hb : base ≤ w.heap.size) : (w.alloc (.cells #[v] e)).ownsRow base e 1 (.slice (some ⟨w.heap.size, 0, none⟩) 1 1) 1 [v] :=
  ⟨by simp, .inr ⟨w.heap.size, 1, #[v], rfl, hb, heap_alloc_new w _, Nat.le_refl _, by simp [maxLen], by simp, by simp⟩⟩
theorem own_drew {w : World} {base : Nat} {e : TypeId} {size n : Nat} {v : Value} {xs : List Value} (h : w.ownsRow base e size v n xs) : w.drew.ownsRow base e size v n xs := h
theorem sp_eq {c : UInt8} (h : ((c.toNat : Int) == 32) = true) : c = 32 := UInt8.toNat_inj.1 (by have : (c.toNat : Int) = 32 := by simpa using h
                                                                                                 show c.toNat = 32; omega)
theorem sp_ne {c : UInt8} (h : ((c.toNat : Int) == 32) = false) : c ≠ 32 := fun e => by subst e; simp at h
theorem wsB_0 (s : ByteArray) : wsB (s.extract 0 0) = [⟨#[]⟩] := by
  have : (s.extract 0 0).data.toList = [] := by rw [ByteArray.data_extract]; simp
  rw [wsB, this]; rfl

set_option maxRecDepth 100000 in
set_option maxHeartbeats 8000000 in
theorem l1w_any (s : ByteArray) (w : World) (hs : s.size ≤ 1048576) :
    Calls Tryd.prog 37 #[.string s] w fun e w' => ∃ v, e = .returned v ∧ w'.ownsRow w.heap.size 9 1 v (wsB s).length (svs (wsB s)) ∧ Below w.heap.size w w' := by
  obtain ⟨i0, hi, hz0, hz1, hz2⟩ := info_parts str_info
  have HI := Lib.hid hi; have HZ0 := Lib.hid hz0; have HZ1 := Lib.hid hz1; have HZ2 := Lib.hid hz2
  clear hi hz0 hz1 hz2
  go_enter Tryd.func37, Tryd.ntmps37
  go_wp2_with fail
  go_loopw [3, 4] (fun v i wr => ∃ k : Nat, k ≤ s.size ∧ i = .int .i64 k ∧ wr.ownsRow w.heap.size 9 1 v (wsB (s.extract 0 k)).length (svs (wsB (s.extract 0 k))) ∧ Below w.heap.size w wr) (fun _ i _ => s.size - (intOf i).toNat)
  case atStart => exact ⟨0, Nat.zero_le _, rfl, by rw [wsB_0]; exact own_lit w _ _ _ (Nat.le_refl _), (Below.refl _ _).alloc (Nat.le_refl _) _⟩
  case round =>
    obtain ⟨k, hk, rfl, ho, hb⟩ := hrel
    have HO := Lib.hid ho; have HB := Lib.hid hb
    clear ho hb
    by_cases hlt : k < s.size
    · have hwl := wsB_len (s.extract 0 k)
      rw [ext_size s k hk] at hwl
      cases hc : (((s[k]'hlt).toNat : Int) == 32)
      · have HN := Lib.hid (sp_ne hc)
        have HC := Lib.hid hc; clear hc
        obtain ⟨r, hr⟩ : ∃ r, (wsB (s.extract 0 k)).length = r + 1 := ⟨(wsB (s.extract 0 k)).length - 1, by omega⟩
        obtain ⟨z, hz⟩ : ∃ z, (wsB (s.extract 0 k))[r]? = some z := ⟨_, List.getElem?_eq_getElem (by omega)⟩
        have HW : Hid (wsB (s.extract 0 (k + 1)) = (wsB (s.extract 0 k)).set r (z ++ s.extract k (k + 1))) := Lib.hid (by
          have := ws_no hlt HN.out (z := z) (by rw [hr]; exact hz)
          rw [hr] at this; exact this)
        have HL : Hid ((wsB (s.extract 0 (k + 1))).length = r + 1) := Lib.hid (by rw [HW.out, List.length_set, hr])
        rw [hr] at HO hwl
        have HZ : Hid ((svs (wsB (s.extract 0 k)))[r]? = some (.string z)) := Lib.hid (by rw [svs, List.getElem?_map, hz]; rfl)
        clear hz hr
        obtain ⟨A, c, hv, hnc, hcm, _⟩ := own_form HO.out
        obtain rfl : u3 = .slice A (r + 1) c := hv
        obtain ⟨g, eA, hgb, hgl⟩ := own_at HO.out (k := r) (by omega)
        subst eA
        have hcell := (HO.out.cellAt r (by omega)).trans HZ.out
        have hfr := HO.out.frozenAt r
        have hcb := (show ((s[k]'hlt).toNat : Int) ≠ 32 from by have := HC.out; simpa using this)
        unfold maxLen at hcm
        have hwr : IntKind.i64.wrap (r : Int) = (r : Int) := by rw [IntKind.wrap_i64]; omega
        have hwk : IntKind.i64.wrap ((k : Int) + 1) = (k : Int) + 1 := by rw [IntKind.wrap_i64]; omega
        obtain ⟨wo, rfl⟩ : ∃ wo : World, wo = wr := ⟨_, rfl⟩
        have HZS : Hid (z.size + 1 ≤ 1048577) := Lib.hid (by have h1 := wsB_mem (s := s.extract 0 k) (z := z) (by obtain ⟨y, hy, e⟩ := List.mem_map.1 (List.mem_of_getElem? HZ.out); injection e with e; subst e; exact hy); rw [ext_size s k hk] at h1; omega)
        have hzs := HZS.out
        have HN2 : Hid ((wo.drew.setCell ⟨g, r, none⟩ (.string (z ++ s.extract k (k + 1)))).ownsRow w.heap.size 9 1 (.slice (some ⟨g, 0, none⟩) (r + 1) c) (wsB (s.extract 0 (k + 1))).length (svs (wsB (s.extract 0 (k + 1))))) := Lib.hid (by rw [HL.out, HW.out, ← svs_set]; exact (own_drew HO.out |>.stored r _).1)
        have HB2 : Hid (Below w.heap.size w (wo.drew.setCell ⟨g, r, none⟩ (.string (z ++ s.extract k (k + 1))))) := Lib.hid (HB.out.drew.setCell hgb _)
        go_upto_region 7 with (fail)
        refine wp_region_inv' (StJ 18 (fun j => [19, 20, 21, 22, 23, 24, 25, 26, 27, 28, 29, 30, 31, 32, 33, 34, 35, 1017].getD j 0) (fun j v => match j with
          | 0 => v = .slice (some ⟨g, 0, none⟩) (r + 1) c
          | 1 => v = .slice (some ⟨g, 0, none⟩) (r + 1) c
          | 2 => v = .int .i64 (((r + 1 : Nat) : Int))
          | 3 => v = .int .i64 (r : Int)
          | 4 => v = .slice (some ⟨g, 0, none⟩) (r + 1) c
          | 5 => v = .slice (some ⟨g, 0, none⟩) (r + 1) c
          | 6 => v = .int .i64 (((r + 1 : Nat) : Int))
          | 7 => v = .int .i64 (r : Int)
          | 8 => v = .pointer (some ⟨g, r, none⟩)
          | 9 => v = .string z
          | 10 => v = .string s
          | 11 => v = .int .i64 k
          | 12 => v = .int .i64 k
          | 13 => v = .int .i64 ((k : Int) + 1)
          | 14 => v = .string (s.extract k (k + 1))
          | 15 => v = .string (z ++ s.extract k (k + 1))
          | 16 => v = .pointer (some ⟨g, r, none⟩)
          | _ => True) 17 (wo.drew) (wo.drew.setCell ⟨g, r, none⟩ (.string (z ++ s.extract k (k + 1))))) (by kernel_rfl) (regOkI_of (by kernel_rfl)) (StJ.start _) ?_ ?_
        · intro i o ff bx wb ho hf hrd hcl hsz hfr hJ K hK
          have hi := (Array.getElem?_eq_some_iff.1 ho).1
          simp only [List.size_toArray, List.length_cons, List.length_nil] at hi
          have hcases : i = 0 ∨ i = 1 ∨ i = 2 ∨ i = 3 ∨ i = 4 ∨ i = 5 ∨ i = 6 ∨ i = 7 ∨ i = 8 ∨ i = 9 ∨ i = 10 ∨ i = 11 ∨ i = 12 ∨ i = 13 ∨ i = 14 ∨ i = 15 ∨ i = 16 ∨ i = 17 := by omega
          rcases hcases with rfl | rfl | rfl | rfl | rfl | rfl | rfl | rfl | rfl | rfl | rfl | rfl | rfl | rfl | rfl | rfl | rfl | rfl
          · cases (show some _ = some o from ho)
            refine ite_yes (by rfl) ?_
            have h3 : bx.tmps.getD 3 undef = .slice (some ⟨g, 0, none⟩) (r + 1) c := hfr 3 (noDst_of (by kernel_rfl))
            have f3 := getD_opt h3
            have HK := Lib.hid hK
            have HJ := Lib.hid hJ
            clear hK hJ hcl hrd hfr hsz ho
            go_simp
            exact HK.out _ _ (HJ.out.pure (by decide +kernel) 0 (by decide) (by decide) (by first | rfl | rw [hwr] | rw [hwk] | go_num))
          · cases (show some _ = some o from ho)
            refine ite_yes (by rfl) ?_
            have h3 : bx.tmps.getD 3 undef = .slice (some ⟨g, 0, none⟩) (r + 1) c := hfr 3 (noDst_of (by kernel_rfl))
            have f3 := getD_opt h3
            have HK := Lib.hid hK
            have HJ := Lib.hid hJ
            clear hK hJ hcl hrd hfr hsz ho
            go_simp
            exact HK.out _ _ (HJ.out.pure (by decide +kernel) 1 (by decide) (by decide) (by first | rfl | rw [hwr] | rw [hwk] | go_num))
          · cases (show some _ = some o from ho)
            refine ite_yes (by rfl) ?_
            have h20 : bx.tmps.getD 20 undef = .slice (some ⟨g, 0, none⟩) (r + 1) c := hJ.m 1 (by decide) (hrd ⟨1, .data⟩ (by simp) rfl)
            have f20 := getD_opt h20
            have HK := Lib.hid hK
            have HJ := Lib.hid hJ
            clear hK hJ hcl hrd hfr hsz ho
            go_simp
            exact HK.out _ _ (HJ.out.pure (by decide +kernel) 2 (by decide) (by decide) (by first | rfl | rw [hwr] | rw [hwk] | go_num))
          · cases (show some _ = some o from ho)
            refine ite_yes (by rfl) ?_
            have h21 : bx.tmps.getD 21 undef = .int .i64 (((r + 1 : Nat) : Int)) := hJ.m 2 (by decide) (hrd ⟨2, .data⟩ (by simp) rfl)
            have f21 := getD_opt h21
            have HK := Lib.hid hK
            have HJ := Lib.hid hJ
            clear hK hJ hcl hrd hfr hsz ho
            go_simp
            exact HK.out _ _ (HJ.out.pure (by decide +kernel) 3 (by decide) (by decide) (by first | rfl | rw [hwr] | rw [hwk] | go_num))
          · cases (show some _ = some o from ho)
            refine ite_yes (by rfl) ?_
            have h3 : bx.tmps.getD 3 undef = .slice (some ⟨g, 0, none⟩) (r + 1) c := hfr 3 (noDst_of (by kernel_rfl))
            have f3 := getD_opt h3
            have HK := Lib.hid hK
            have HJ := Lib.hid hJ
            clear hK hJ hcl hrd hfr hsz ho
            go_simp
            exact HK.out _ _ (HJ.out.pure (by decide +kernel) 4 (by decide) (by decide) (by first | rfl | rw [hwr] | rw [hwk] | go_num))
          · cases (show some _ = some o from ho)
            refine ite_yes (by rfl) ?_
            have h3 : bx.tmps.getD 3 undef = .slice (some ⟨g, 0, none⟩) (r + 1) c := hfr 3 (noDst_of (by kernel_rfl))
            have f3 := getD_opt h3
            have HK := Lib.hid hK
            have HJ := Lib.hid hJ
            clear hK hJ hcl hrd hfr hsz ho
            go_simp
            exact HK.out _ _ (HJ.out.pure (by decide +kernel) 5 (by decide) (by decide) (by first | rfl | rw [hwr] | rw [hwk] | go_num))
          · cases (show some _ = some o from ho)
            refine ite_yes (by rfl) ?_
            have h24 : bx.tmps.getD 24 undef = .slice (some ⟨g, 0, none⟩) (r + 1) c := hJ.m 5 (by decide) (hrd ⟨5, .data⟩ (by simp) rfl)
            have f24 := getD_opt h24
            have HK := Lib.hid hK
            have HJ := Lib.hid hJ
            clear hK hJ hcl hrd hfr hsz ho
            go_simp
            exact HK.out _ _ (HJ.out.pure (by decide +kernel) 6 (by decide) (by decide) (by first | rfl | rw [hwr] | rw [hwk] | go_num))
          · cases (show some _ = some o from ho)
            refine ite_yes (by rfl) ?_
            have h25 : bx.tmps.getD 25 undef = .int .i64 (((r + 1 : Nat) : Int)) := hJ.m 6 (by decide) (hrd ⟨6, .data⟩ (by simp) rfl)
            have f25 := getD_opt h25
            have HK := Lib.hid hK
            have HJ := Lib.hid hJ
            clear hK hJ hcl hrd hfr hsz ho
            go_simp
            exact HK.out _ _ (HJ.out.pure (by decide +kernel) 7 (by decide) (by decide) (by first | rfl | rw [hwr] | rw [hwk] | go_num))
          · cases (show some _ = some o from ho)
            refine ite_yes (by rfl) ?_
            have h23 : bx.tmps.getD 23 undef = .slice (some ⟨g, 0, none⟩) (r + 1) c := hJ.m 4 (by decide) (hrd ⟨4, .data⟩ (by simp) rfl)
            have f23 := getD_opt h23
            have h26 : bx.tmps.getD 26 undef = .int .i64 (r : Int) := hJ.m 7 (by decide) (hrd ⟨7, .data⟩ (by simp) rfl)
            have f26 := getD_opt h26
            have HK := Lib.hid hK
            have HJ := Lib.hid hJ
            clear hK hJ hcl hrd hfr hsz ho
            go_simp
            try rw [if_pos (by omega)]
            exact HK.out _ _ (HJ.out.pure (by decide +kernel) 8 (by decide) (by decide) (by first | rfl | rw [hwr] | rw [hwk] | go_num))
          · cases (show some _ = some o from ho)
            refine ite_yes (by rfl) ?_
            have hjs : ff 17 = false := by
              cases e : ff 17
              · rfl
              · exfalso
                have e15 := hcl 17 _ ⟨15, .data⟩ rfl e (by simp) rfl
                have e9 := hcl 15 _ ⟨9, .data⟩ rfl e15 (by simp) rfl
                rw [show ff 9 = true from e9] at hf; cases hf
            obtain rfl := hJ.old hjs
            have h27 : bx.tmps.getD 27 undef = .pointer (some ⟨g, r, none⟩) := hJ.m 8 (by decide) (hrd ⟨8, .data⟩ (by simp) rfl)
            have f27 := getD_opt h27
            have HK := Lib.hid hK
            have HJ := Lib.hid hJ
            clear hK hJ hcl hrd hfr hsz ho
            go_simp
            exact HK.out _ _ (HJ.out.pure (by decide +kernel) 9 (by decide) (by decide) (by first | rfl | rw [hwr] | rw [hwk] | go_num))
          · cases (show some _ = some o from ho)
            refine ite_yes (by rfl) ?_
            have h0 : bx.tmps.getD 0 undef = .string s := hfr 0 (noDst_of (by kernel_rfl))
            have f0 := getD_opt h0
            have HK := Lib.hid hK
            have HJ := Lib.hid hJ
            clear hK hJ hcl hrd hfr hsz ho
            go_simp
            exact HK.out _ _ (HJ.out.pure (by decide +kernel) 10 (by decide) (by decide) (by first | rfl | rw [hwr] | rw [hwk] | go_num))
          · cases (show some _ = some o from ho)
            refine ite_yes (by rfl) ?_
            have h4 : bx.tmps.getD 4 undef = .int .i64 k := hfr 4 (noDst_of (by kernel_rfl))
            have f4 := getD_opt h4
            have HK := Lib.hid hK
            have HJ := Lib.hid hJ
            clear hK hJ hcl hrd hfr hsz ho
            go_simp
            exact HK.out _ _ (HJ.out.pure (by decide +kernel) 11 (by decide) (by decide) (by first | rfl | rw [hwr] | rw [hwk] | go_num))
          · cases (show some _ = some o from ho)
            refine ite_yes (by rfl) ?_
            have h4 : bx.tmps.getD 4 undef = .int .i64 k := hfr 4 (noDst_of (by kernel_rfl))
            have f4 := getD_opt h4
            have HK := Lib.hid hK
            have HJ := Lib.hid hJ
            clear hK hJ hcl hrd hfr hsz ho
            go_simp
            exact HK.out _ _ (HJ.out.pure (by decide +kernel) 12 (by decide) (by decide) (by first | rfl | rw [hwr] | rw [hwk] | go_num))
          · cases (show some _ = some o from ho)
            refine ite_yes (by rfl) ?_
            have h31 : bx.tmps.getD 31 undef = .int .i64 k := hJ.m 12 (by decide) (hrd ⟨12, .data⟩ (by simp) rfl)
            have f31 := getD_opt h31
            have HK := Lib.hid hK
            have HJ := Lib.hid hJ
            clear hK hJ hcl hrd hfr hsz ho
            go_simp
            exact HK.out _ _ (HJ.out.pure (by decide +kernel) 13 (by decide) (by decide) (by first | rfl | rw [hwr] | rw [hwk] | go_num))
          · cases (show some _ = some o from ho)
            refine ite_yes (by rfl) ?_
            have h29 : bx.tmps.getD 29 undef = .string s := hJ.m 10 (by decide) (hrd ⟨10, .data⟩ (by simp) rfl)
            have f29 := getD_opt h29
            have h30 : bx.tmps.getD 30 undef = .int .i64 k := hJ.m 11 (by decide) (hrd ⟨11, .data⟩ (by simp) rfl)
            have f30 := getD_opt h30
            have h32 : bx.tmps.getD 32 undef = .int .i64 ((k : Int) + 1) := hJ.m 13 (by decide) (hrd ⟨13, .data⟩ (by simp) rfl)
            have f32 := getD_opt h32
            have HK := Lib.hid hK
            have HJ := Lib.hid hJ
            clear hK hJ hcl hrd hfr hsz ho
            go_simp
            try rw [if_pos (by omega), if_pos (by omega)]
            exact HK.out _ _ (HJ.out.pure (by decide +kernel) 14 (by decide) (by decide) (by first | rfl | rw [hwr] | rw [hwk] | go_num))
          · cases (show some _ = some o from ho)
            refine ite_yes (by rfl) ?_
            have h28 : bx.tmps.getD 28 undef = .string z := hJ.m 9 (by decide) (hrd ⟨9, .data⟩ (by simp) rfl)
            have f28 := getD_opt h28
            have h33 : bx.tmps.getD 33 undef = .string (s.extract k (k + 1)) := hJ.m 14 (by decide) (hrd ⟨14, .data⟩ (by simp) rfl)
            have f33 := getD_opt h33
            have HK := Lib.hid hK
            have HJ := Lib.hid hJ
            clear hK hJ hcl hrd hfr hsz ho
            go_simp
            try rw [if_neg (by omega)]
            exact HK.out _ _ (HJ.out.pure (by decide +kernel) 15 (by decide) (by decide) (by first | rfl | rw [hwr] | rw [hwk] | go_num))
          · cases (show some _ = some o from ho)
            refine ite_yes (by rfl) ?_
            have h19 : bx.tmps.getD 19 undef = .slice (some ⟨g, 0, none⟩) (r + 1) c := hJ.m 0 (by decide) (hrd ⟨0, .data⟩ (by simp) rfl)
            have f19 := getD_opt h19
            have h22 : bx.tmps.getD 22 undef = .int .i64 (r : Int) := hJ.m 3 (by decide) (hrd ⟨3, .data⟩ (by simp) rfl)
            have f22 := getD_opt h22
            have HK := Lib.hid hK
            have HJ := Lib.hid hJ
            clear hK hJ hcl hrd hfr hsz ho
            go_simp
            try rw [if_pos (by omega)]
            exact HK.out _ _ (HJ.out.pure (by decide +kernel) 16 (by decide) (by decide) (by first | rfl | rw [hwr] | rw [hwk] | go_num))
          · cases (show some _ = some o from ho)
            refine ite_yes (by rfl) ?_
            have hjs : ff 17 = false := hf
            obtain rfl := hJ.old hjs
            have h34 : bx.tmps.getD 34 undef = .string (z ++ s.extract k (k + 1)) := hJ.m 15 (by decide) (hrd ⟨15, .data⟩ (by simp) rfl)
            have f34 := getD_opt h34
            have h35 : bx.tmps.getD 35 undef = .pointer (some ⟨g, r, none⟩) := hJ.m 16 (by decide) (hrd ⟨16, .data⟩ (by simp) rfl)
            have f35 := getD_opt h35
            have HK := Lib.hid hK
            have HJ := Lib.hid hJ
            clear hK hJ hcl hrd hfr hsz ho
            go_simp
            exact HK.out undef _ (HJ.out.store (fun _ => trivial))
        · intro ff bx wb hall hsz hdf hfr hJ
          obtain rfl := hJ.new (hall 17 (by decide))
          obtain ⟨tm, df⟩ := bx
          obtain rfl : df = [] := hdf
          have q0 : tm.getD 0 undef = .string s := hfr 0 (noDst_of (by kernel_rfl))
          have q1 : tm.getD 1 undef = undef := hfr 1 (noDst_of (by kernel_rfl))
          have q2 : tm.getD 2 undef = .slice none 0 0 := hfr 2 (noDst_of (by kernel_rfl))
          have q3 : tm.getD 3 undef = .slice (some ⟨g, 0, none⟩) (r + 1) c := hfr 3 (noDst_of (by kernel_rfl))
          have q4 : tm.getD 4 undef = .int .i64 k := hfr 4 (noDst_of (by kernel_rfl))
          have q5 : tm.getD 5 undef = .slice (some ⟨w.heap.size, 0, none⟩) 1 1 := hfr 5 (noDst_of (by kernel_rfl))
          have q36 : tm.getD 36 undef = undef := hfr 36 (noDst_of (by kernel_rfl))
          have q := lit_of tm 37 hsz
          simp only [List.range, List.range.loop, List.map, q0, q1, q2, q3, q4, q5, q36] at q
          have HQ := Lib.hid q
          clear q hsz hfr hJ hall q0 q1 q2 q3 q4 q5 q36
          rw [HQ.out]
          generalize tm.getD 6 undef = x6
          generalize tm.getD 7 undef = x7
          generalize tm.getD 8 undef = x8
          generalize tm.getD 9 undef = x9
          generalize tm.getD 10 undef = x10
          generalize tm.getD 11 undef = x11
          generalize tm.getD 12 undef = x12
          generalize tm.getD 13 undef = x13
          generalize tm.getD 14 undef = x14
          generalize tm.getD 15 undef = x15
          generalize tm.getD 16 undef = x16
          generalize tm.getD 17 undef = x17
          generalize tm.getD 18 undef = x18
          generalize tm.getD 19 undef = x19
          generalize tm.getD 20 undef = x20
          generalize tm.getD 21 undef = x21
          generalize tm.getD 22 undef = x22
          generalize tm.getD 23 undef = x23
          generalize tm.getD 24 undef = x24
          generalize tm.getD 25 undef = x25
          generalize tm.getD 26 undef = x26
          generalize tm.getD 27 undef = x27
          generalize tm.getD 28 undef = x28
          generalize tm.getD 29 undef = x29
          generalize tm.getD 30 undef = x30
          generalize tm.getD 31 undef = x31
          generalize tm.getD 32 undef = x32
          generalize tm.getD 33 undef = x33
          generalize tm.getD 34 undef = x34
          generalize tm.getD 35 undef = x35
          clear HQ
          go_wp2
          go_roundw
          case rel => first | exact ⟨k + 1, by omega, by go_num, HN2.out, HB2.out⟩ | ((repeat apply Exists.intro); exact ⟨⟨k + 1, by omega, by go_num, HN2.out, HB2.out⟩, rfl⟩)
          case measure => simp [intOf]; omega
      · have HW := Lib.hid (ws_32 hlt (sp_eq hc))
        have HC := Lib.hid hc; clear hc
        have hcb := (show ((s[k]'hlt).toNat : Int) = 32 from by have := HC.out; simpa using this)
        have HL : Hid ((wsB (s.extract 0 (k + 1))).length = (wsB (s.extract 0 k)).length + 1) := Lib.hid (by rw [HW.out, List.length_append]; rfl)
        generalize (wsB (s.extract 0 k)).length = n at *
        go_wp2_with (first
          | (at_builtin
             refine wpList_append1 _ rfl _ _ 42 rfl w.heap.size 9 i0 (.string ⟨#[]⟩) 1 16 Tryd.underlying42 HI.out HZ0.out HZ1.out HZ2.out rfl (by decide) [.string ⟨#[]⟩] rfl (by intro u hu; simp at hu; subst hu; rfl) _ n (svs (wsB (s.extract 0 k))) _ _ HO.out rfl rfl _ rfl rfl (by simp only [maxLen]; omega) (by omega) HB.out.size ?_
             intro v' w5 ho5 hg5
             have HO5 : Hid (w5.ownsRow w.heap.size 9 1 v' (wsB (s.extract 0 (k + 1))).length (svs (wsB (s.extract 0 (k + 1))))) := Lib.hid (by rw [HL.out, HW.out, svs_app]; exact ho5)
             have HB5 : Hid (Below w.heap.size w w5) := Lib.hid (below_grown HB.out hg5 HO.out (Nat.le_refl _) HB.out.size)
             clear ho5 hg5))
        go_wp2
        go_roundw
        case rel => exact ⟨k + 1, by omega, by go_num, HO5.out, HB5.out⟩
        case measure => simp [intOf]; omega
    · obtain rfl : k = s.size := by omega
      rw [ext_all] at HO
      go_wp2
      go_ret
      exact ⟨_, rfl, HO.out, HB.out⟩
end Go.Proofs.YtpbnbekkmifbpaaDoor
