/-
  The walk of the law of WatchesValid.
-/
import Derived.Test.YteankmmmkdcaiaaDrawWatches
namespace Go.Proofs.Yteankmmmkdcaiaa
open Go.ChangeShapes Go.WideShapes Go.ChangeAt Go.RowKit Go.Joins
set_option linter.unusedVariables false
variable {L : Nat}

theorem below_of_pick {w w1 w2 : World} {R : Nat} (hb : Below w.heap.size w w1) (hR : w.heap.size ≤ R) (hg : w1.grownBy w2 (some R)) : Below w.heap.size w w2 := below_pick hb hg hR hb.size
theorem dwv_any (a : Option Addr) (len cap : Nat) (zs : List Int) (w0 w : World) (h : IsCode w0 a len cap zs) (hB : Below w0.heap.size w0 w) :
    Calls Try.prog 15 #[.slice a len cap] w fun e w' => ∃ (v : Value) (n : Nat) (l : List Wa), e = .returned v ∧ n ≤ 6 ∧ w'.ownsRow w.heap.size 33 3 v n (was l) ∧ (∀ z ∈ l, z.a.size ≤ 9) ∧ Below w.heap.size w w' := by
  have H := Lib.hid h; have HB0 := Lib.hid hB
  clear h hB
  go_enter Try.func15, Try.ntmps15
  go_wp2_with fail
  refine (open_any _ _ _ _ _ _ H.out HB0.out).mono ?_
  rintro e w1 ⟨R, rfl, hb1, hR1, hR2, hr1⟩
  have HB1 := Lib.hid hb1; have HR1 := Lib.hid hr1
  clear hb1 hr1
  go_wp2_with fail
  refine (l20wa_any _ _ _ _ HR1.out (by omega) (by omega)).mono ?_
  rintro e w2 ⟨v, n, l, rfl, hn, ho, hs, hg, hr⟩
  have HO := Lib.hid (own_less ho HB1.out.size); have HS := Lib.hid hs; have HB2 := Lib.hid (below_of_pick HB1.out hR1 hg)
  clear ho hs hg hr
  go_wp2_with fail
  go_ret
  exact ⟨v, n, l, rfl, hn, HO.out, HS.out, HB2.out⟩

theorem wvA_drop {l : List Wa} (h : wvA l = true) : wvA (l.drop 1) = true := by
  simp only [wvA, Bool.and_eq_true, decide_eq_true_eq] at h ⊢
  exact ⟨by rw [List.length_drop]; omega, vAll_drop h.2⟩
theorem wvA_twice {l : List Wa} {z : Wa} (hz : l[0]? = some z) : wvA ([z] ++ l) = false := by
  unfold wvA
  have := vAll_twice (ok := waOk) (pr := waPr) (sm := waSm) hz (by simp [waSm])
  rw [List.singleton_append, this, Bool.and_false]

set_option maxRecDepth 100000 in
set_option maxHeartbeats 4000000 in
theorem walkWatchesValid (a : Option Addr) (len cap : Nat) (zs : List Int) (w : World) (h : IsCode w a len cap zs) :
    Calls Try.prog 5 #[.slice a len cap] w fun e w' => e = .returned (.bool true) ∧ Below w.heap.size w w' := by
  obtain ⟨hl, hm⟩ := code_len h
  unfold maxLen at hm
  have H := Lib.hid h; clear h
  obtain ⟨i0, hi, hz0, hz1, hz2⟩ := info_parts wa_info
  have HI := Lib.hid hi; have HZ0 := Lib.hid hz0; have HZ1 := Lib.hid hz1; have HZ2 := Lib.hid hz2
  clear hi hz0 hz1 hz2
  by_cases hb : (1048576 : Int) < (len : Int)
  · go_enter Try.func5, Try.ntmps5
    go_wp2
    go_ret
    exact ⟨rfl, Below.refl _ _⟩
  · go_enter Try.func5, Try.ntmps5
    go_wp2_with fail
    refine (dwv_any _ _ _ _ _ _ H.out (Below.refl _ _)).mono ?_
    rintro e x1 ⟨v, n, l, rfl, hn, ho, hs, hb1⟩
    obtain ⟨A, c, rfl, hnc, hcm, _⟩ := own_form ho
    have HNC := Lib.hid hnc; have HCM := Lib.hid hcm
    have hlen := rd_walen (rd_own ho)
    have HLEN := Lib.hid hlen
    have HSM : Hid (∀ z ∈ l, z.a.size ≤ maxLen) := Lib.hid (fun z hz => by have := hs z hz; simp only [maxLen]; omega)
    have HO1 := Lib.hid ho; have HB1 := Lib.hid hb1
    have HNM : Hid (n ≤ maxLen) := Lib.hid (by simp only [maxLen]; omega)
    clear ho hs hb1 hlen
    unfold maxLen at hcm
    go_wp2_with fail
    refine (iwa_any _ _ _ l _ (rd_own HO1.out) HNC.out HCM.out HSM.out).mono ?_
    rintro e x2 ⟨rfl, hb2⟩
    have HO2 := Lib.hid (own_below HO1.out hb2); have HB2 := Lib.hid (belB HB1.out HB1.out.size hb2)
    clear hb2 HO1 HB1
    go_wp2_with fail
    refine (swa_any _ _ _ l _ (rd_own HO2.out) HNM.out HSM.out).mono ?_
    rintro e x3 ⟨rfl, hb3⟩
    have HO3 := Lib.hid (own_below HO2.out hb3); have HB3 := Lib.hid (belB HB2.out HB2.out.size hb3)
    clear hb3 HO2 HB2
    cases hv : wvA l
    · go_wp2_with (go_at_call 14; refine (alive_any _).mono ?_; rintro e w' ⟨rfl, rfl⟩)
      go_ret
      exact ⟨rfl, HB3.out⟩
    · have hd := wvA_drop hv
      have HD := Lib.hid hd
      clear hd
      by_cases hn0 : n = 0
      · have hn0' : ((n : Int) == 0) = true := by simp [hn0]
        have HN0 := Lib.hid hn0; clear hn0
        go_wp2_with (go_at_call 14; refine (alive_any _).mono ?_; rintro e w' ⟨rfl, rfl⟩)
        go_ret
        exact ⟨rfl, HB3.out⟩
      · have hn0' : ((n : Int) == 0) = false := by simp [hn0]
        have hnp : 0 < n := by omega
        clear hn0
        obtain ⟨g, rfl, hgb, hgl⟩ := own_at HO3.out hnp
        obtain ⟨b, off, z, e1, _, hz, hc0, hc1, hc2⟩ := (rd_own HO3.out).wa hnp
        injection e1 with e1; injection e1 with e1 e2
        subst e1; subst e2
        have ht := wvA_twice hz
        have HT := Lib.hid ht
        have HMEM := Lib.hid (List.mem_of_getElem? hz)
        clear hz ht
        have hcut := wa_cut (rd_own HO3.out) (k := 1) hnp HNC.out
        have HCC0 : Hid (x3.cell? ⟨g, 0, none⟩ = some (.string z.a)) := Lib.hid (by simpa using hc0)
        have HCC1 : Hid (x3.cell? ⟨g, 1, none⟩ = some (.int .i64 z.b)) := Lib.hid (by simpa using hc1)
        have HCC2 : Hid (x3.cell? ⟨g, 2, none⟩ = some (.int .i64 z.c)) := Lib.hid (by simpa using hc2)
        clear hc0 hc1 hc2
        by_cases hc1' : c = 1
        · obtain rfl : n = 1 := by omega
          subst hc1'
          rw [if_pos rfl] at hcut
          have HCUT := Lib.hid hcut; clear hcut
          go_wp2_with fail
          refine (iwa_any _ _ _ (l.drop 1) _ HCUT.out (by omega) (by simp only [maxLen]; omega) (fun z hz => HSM.out z (List.mem_of_mem_drop hz))).mono ?_
          rw [HD.out]
          rintro e x4 ⟨rfl, hb4⟩
          have c0 : x4.cell? ⟨g, 0, none⟩ = some (.string z.a) := (hb4.cell (p := ⟨g, 0, none⟩) hgl).trans HCC0.out
          have c1 : x4.cell? ⟨g, 1, none⟩ = some (.int .i64 z.b) := (hb4.cell (p := ⟨g, 1, none⟩) hgl).trans HCC1.out
          have c2 : x4.cell? ⟨g, 2, none⟩ = some (.int .i64 z.c) := (hb4.cell (p := ⟨g, 2, none⟩) hgl).trans HCC2.out
          have HO4 := Lib.hid (own_below HO3.out hb4); have HB4 := Lib.hid (belB HB3.out HB3.out.size hb4)
          have HRE : Hid (Reads x4 x4.heap.size 3 (some ⟨g, 0, none⟩) 1 (was l)) := Lib.hid (reads_of_rd (rd_own HO4.out) (by omega))
          clear hb4
          go_wp2_with (first
            | (refine wpList_append_anyG _ rfl _ _ 29 rfl x4.heap.size 33 i0 (.agg #[.string ⟨#[]⟩, .int .i64 0, .int .i64 0]) 3 32 Try.underlying29 HI.out HZ0.out HZ1.out HZ2.out rfl (by omega) (.slice (some ⟨x4.heap.size, 0, none⟩) 1 1) 1 [.string z.a, .int .i64 z.b, .int .i64 z.c] rfl (World.ownsRow_lit x4 #[.string z.a, .int .i64 z.b, .int .i64 z.c] 1 (Nat.le_refl _) (by simp [maxLen]) rfl) x4.heap.size (some ⟨g, 0, none⟩) 1 1 (was l) rfl (Reads.alloc HRE.out (Nat.le_refl _) _) (was_oneC l) (by simp only [maxLen]; omega) (by omega) (al1_le x4 _ (Nat.le_refl _)) ?_; intro v1 w5 hown1 hg1 hat1))
          have hb5 : Below x4.heap.size x4 w5 := ((Below.refl _ _).alloc (Nat.le_refl _) _).grown hg1 (by simp) (fun k hk => by simp only [Value.ownBlock, Option.some.injEq] at hk; omega)
          have HB5 := Lib.hid (belB HB4.out HB4.out.size hb5)
          obtain ⟨A5, c5, rfl, hn5, hc5, _⟩ := own_form hown1
          have hr5 : Rd w5 3 A5 (1 + 1) (was ([z] ++ l)) := by rw [was_app, was_one]; exact rd_own hown1
          have HR5 := Lib.hid hr5; have HN5 := Lib.hid hn5; have HC5 := Lib.hid hc5
          clear hown1 hg1 hat1 hb5 hr5 hn5
          unfold maxLen at hc5
          go_wp2_with fail
          refine (iwa_any _ _ _ ([z] ++ l) _ HR5.out HN5.out HC5.out ?_).mono ?_
          · intro y hy
            rcases List.mem_append.1 hy with h | h
            · simp only [List.mem_cons, List.not_mem_nil, or_false] at h; subst h; exact HSM.out _ HMEM.out
            · exact HSM.out y h
          rw [HT.out]
          rintro e x6 ⟨rfl, hb6⟩
          have HB6 := Lib.hid (belB HB5.out HB5.out.size hb6)
          clear hb6
          go_wp2_with fail
          go_ret
          exact ⟨rfl, HB6.out⟩
        · rw [if_neg hc1'] at hcut
          have HCUT := Lib.hid hcut; clear hcut
          have HC1 := Lib.hid hc1'
          have hcp : 1 < c := by have := HNC.out; omega
          have hcne : (c == 1) = false := by simpa using hc1'
          go_wp2_with fail
          refine (iwa_any _ _ _ (l.drop 1) _ HCUT.out (by have := HNC.out; omega) (by have := HCM.out; omega) (fun z hz => HSM.out z (List.mem_of_mem_drop hz))).mono ?_
          rw [HD.out]
          rintro e x4 ⟨rfl, hb4⟩
          have c0 : x4.cell? ⟨g, 0, none⟩ = some (.string z.a) := (hb4.cell (p := ⟨g, 0, none⟩) hgl).trans HCC0.out
          have c1 : x4.cell? ⟨g, 1, none⟩ = some (.int .i64 z.b) := (hb4.cell (p := ⟨g, 1, none⟩) hgl).trans HCC1.out
          have c2 : x4.cell? ⟨g, 2, none⟩ = some (.int .i64 z.c) := (hb4.cell (p := ⟨g, 2, none⟩) hgl).trans HCC2.out
          have HO4 := Lib.hid (own_below HO3.out hb4); have HB4 := Lib.hid (belB HB3.out HB3.out.size hb4)
          have HRE : Hid (Reads x4 x4.heap.size 3 (some ⟨g, 0, none⟩) n (was l)) := Lib.hid (reads_of_rd (rd_own HO4.out) (by omega))
          clear hb4
          go_wp2_with (first
            | (refine wpList_append_anyG _ rfl _ _ 29 rfl x4.heap.size 33 i0 (.agg #[.string ⟨#[]⟩, .int .i64 0, .int .i64 0]) 3 32 Try.underlying29 HI.out HZ0.out HZ1.out HZ2.out rfl (by omega) (.slice (some ⟨x4.heap.size, 0, none⟩) 1 1) 1 [.string z.a, .int .i64 z.b, .int .i64 z.c] rfl (World.ownsRow_lit x4 #[.string z.a, .int .i64 z.b, .int .i64 z.c] 1 (Nat.le_refl _) (by simp [maxLen]) rfl) x4.heap.size (some ⟨g, 0, none⟩) n c (was l) rfl (Reads.alloc HRE.out (Nat.le_refl _) _) (was_oneC l) (by simp only [maxLen]; omega) (by omega) (al1_le x4 _ (Nat.le_refl _)) ?_; intro v1 w5 hown1 hg1 hat1))
          have hb5 : Below x4.heap.size x4 w5 := ((Below.refl _ _).alloc (Nat.le_refl _) _).grown hg1 (by simp) (fun k hk => by simp only [Value.ownBlock, Option.some.injEq] at hk; omega)
          have HB5 := Lib.hid (belB HB4.out HB4.out.size hb5)
          obtain ⟨A5, c5, rfl, hn5, hc5, _⟩ := own_form hown1
          have hr5 : Rd w5 3 A5 (1 + n) (was ([z] ++ l)) := by rw [was_app, was_one]; exact rd_own hown1
          have HR5 := Lib.hid hr5; have HN5 := Lib.hid hn5; have HC5 := Lib.hid hc5
          clear hown1 hg1 hat1 hb5 hr5 hn5
          unfold maxLen at hc5
          go_wp2_with fail
          refine (iwa_any _ _ _ ([z] ++ l) _ HR5.out HN5.out HC5.out ?_).mono ?_
          · intro y hy
            rcases List.mem_append.1 hy with h | h
            · simp only [List.mem_cons, List.not_mem_nil, or_false] at h; subst h; exact HSM.out _ HMEM.out
            · exact HSM.out y h
          rw [HT.out]
          rintro e x6 ⟨rfl, hb6⟩
          have HB6 := Lib.hid (belB HB5.out HB5.out.size hb6)
          clear hb6
          go_wp2_with fail
          go_ret
          exact ⟨rfl, HB6.out⟩
end Go.Proofs.Yteankmmmkdcaiaa
