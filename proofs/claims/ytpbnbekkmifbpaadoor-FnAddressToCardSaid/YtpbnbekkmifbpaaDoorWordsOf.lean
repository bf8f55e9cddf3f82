/-
  The contract of wordsOf.
-/
import Derived.Test.YtpbnbekkmifbpaaDoorLib1
import Derived.Test.YtpbnbekkmifbpaaDoorWords1
namespace Go.Proofs.YtpbnbekkmifbpaaDoor
open Go.ChangeShapes Go.WideShapes Go.ChangeAt Go.RowKit Go.Joins
set_option linter.unusedVariables false

theorem own_lits (w : World) (base : Nat) (e : TypeId) (xs : List Value) (n : Nat) (hb : base ≤ w.heap.size) (hl : xs.length = n) (hn : n ≤ maxLen) : (w.alloc (.cells xs.toArray e)).ownsRow base e 1 (.slice (some ⟨w.heap.size, 0, none⟩) n n) n xs :=
  ⟨by omega, .inr ⟨w.heap.size, n, xs.toArray, rfl, hb, heap_alloc_new w _, Nat.le_refl _, hn, by simp; omega, by rw [Nat.mul_one, ← hl]; simp⟩⟩
/-- The first k words are cut. -/
def mixW (l : List ByteArray) (k : Nat) : List ByteArray := (l.take k).map ctB ++ l.drop k
theorem mixW_0 (l : List ByteArray) : mixW l 0 = l := by simp [mixW]
theorem mixW_end (l : List ByteArray) : mixW l l.length = l.map ctB := by simp [mixW]
theorem mixW_get {l : List ByteArray} {k : Nat} {z : ByteArray} (h : l[k]? = some z) : (mixW l k)[k]? = some z := by
  have hk := get_lt h
  rw [mixW, List.getElem?_append_right (by simp; omega)]
  rw [List.length_map, List.length_take, Nat.min_eq_left (by omega), Nat.sub_self, List.getElem?_drop]; exact h
theorem mixW_set {l : List ByteArray} {k : Nat} {z : ByteArray} (h : l[k]? = some z) : (mixW l k).set k (ctB z) = mixW l (k + 1) := by
  have hk := get_lt h
  have hz : l[k] = z := (List.getElem?_eq_some_iff.1 h).2
  rw [mixW, List.set_append_right _ _ (by simp; omega)]
  rw [List.length_map, List.length_take, Nat.min_eq_left (by omega), Nat.sub_self, List.drop_eq_getElem_cons hk, List.set_cons_zero, mixW, take_snoc_get l k z h, List.map_append]
  simp
theorem wdB_len (s : ByteArray) : (wdB s).length ≤ s.size + 1 := by
  unfold wdB; split
  · rw [List.length_map]; exact (wsB_len s).2
  · simp
theorem wdB_mem {s z : ByteArray} (h : z ∈ wdB s) : z.size ≤ s.size := by
  unfold wdB at h; split at h
  · obtain ⟨x, hx, rfl⟩ := List.mem_map.1 h
    exact Nat.le_trans (ctB_size x) (wsB_mem hx)
  · cases h

set_option maxHeartbeats 4000000 in
theorem wo_any (s : ByteArray) (w : World) (hs : s.size ≤ 1048576) :
    Calls Tryd.prog 34 #[.string s] w fun e w' => ∃ v, e = .returned v ∧ w'.ownsRow w.heap.size 9 1 v (wdB s).length (svs (wdB s)) ∧ Below w.heap.size w w' := by
  have HS : Hid (s.size ≤ maxLen) := Lib.hid (by simp only [maxLen]; omega)
  cases ht : tvB s
  · have HE := Lib.hid (wdB_no ht)
    generalize wdB s = R at *
    go_enter Tryd.func34, Tryd.ntmps34
    go_wp2_with fail
    refine (itv_any _ _ HS.out).mono ?_
    rw [ht]
    rintro e w' ⟨rfl, rfl⟩
    go_wp2_with fail
    go_ret
    exact ⟨_, rfl, by rw [HE.out]; exact World.ownsRow_nil _ _ _ _, Below.refl _ _⟩
  · have HE := Lib.hid (wdB_yes ht)
    generalize hR : wdB s = R at *
    have hws := wsB_len s
    have HWM : Hid (∀ z ∈ wsB s, z.size ≤ maxLen) := Lib.hid (fun z hz => by have := wsB_mem hz; simp only [maxLen]; omega)
    have HSP := Lib.hid (fun w => split_any s w hs)
    generalize hW : wsB s = W at *
    have HL : Hid (W.length = W.length) := Lib.hid rfl
    generalize hn : W.length = n at HSP hws HL
    have HN := Lib.hid hn
    clear hn hR hW HL
    go_enter Tryd.func34, Tryd.ntmps34
    go_wp2_with fail
    refine (itv_any _ _ HS.out).mono ?_
    rw [ht]
    rintro e w' ⟨rfl, rfl⟩
    go_wp2_with fail
    refine (HSP.out _).mono ?_
    rintro e w' ⟨rfl, rfl⟩
    have HO : Hid ((w.alloc (.cells (svs W).toArray 9)).ownsRow w.heap.size 9 1 (.slice (some ⟨w.heap.size, 0, none⟩) n n) n (svs (mixW W 0))) := Lib.hid (by rw [mixW_0]; exact own_lits w _ _ _ _ (Nat.le_refl _) (by rw [svs_len, HN.out]) (by simp only [maxLen]; omega))
    have HB : Hid (Below w.heap.size w (w.alloc (.cells (svs W).toArray 9))) := Lib.hid (bel1 rfl)
    generalize w.alloc (.cells (svs W).toArray 9) = w1 at *
    go_wp2_with fail
    go_loopw [13] (fun i wr => ∃ k : Nat, k ≤ n ∧ i = .int .i64 k ∧ wr.ownsRow w.heap.size 9 1 (.slice (some ⟨w.heap.size, 0, none⟩) n n) n (svs (mixW W k)) ∧ Below w.heap.size w wr) (fun i _ => n - (intOf i).toNat)
    case atStart => exact ⟨0, Nat.zero_le _, rfl, HO.out, HB.out⟩
    case round =>
      obtain ⟨k, hk, rfl, ho, hb⟩ := hrel
      have HO := Lib.hid ho; have HB := Lib.hid hb
      clear ho hb
      by_cases hlt : k < n
      · obtain ⟨z, hz⟩ : ∃ z, W[k]? = some z := ⟨_, List.getElem?_eq_getElem (by rw [HN.out]; exact hlt)⟩
        have HZ := Lib.hid hz
        have HSZ := Lib.hid (HWM.out z (List.mem_of_getElem? hz))
        have hg : (svs (mixW W k))[k]? = some (.string z) := by rw [svs, List.getElem?_map, mixW_get hz]; rfl
        have hcell := (HO.out.cellAt k (by omega)).trans hg
        clear hz hg
        go_wp2_with fail
        refine (trim_any _ _ HSZ.out).mono ?_
        rintro e w2 ⟨rfl, hb2⟩
        have HO2 := Lib.hid (own_below HO.out hb2); have HB2 := Lib.hid (belB HB.out HB.out.size hb2)
        clear hb2 hcell
        obtain ⟨old, hold⟩ : ∃ u, w2.cell? ⟨w.heap.size, k, none⟩ = some u := ⟨_, (HO2.out.cellAt k (by omega)).trans (List.getElem?_eq_getElem (by have := HO2.out.1; omega))⟩
        have hfr := HO2.out.frozenAt k
        have HM := Lib.hid (mixW_set HZ.out)
        generalize ctB z = y at *
        go_wp2
        go_roundw
        case rel => exact ⟨k + 1, by omega, by go_num, by rw [← HM.out, ← svs_set]; exact (HO2.out.stored k _).1, HB2.out.setCell (Nat.le_refl _) _⟩
        case measure => simp [intOf]; omega
      · obtain rfl : k = n := by omega
        have HX : Hid (mixW W k = R) := Lib.hid (by rw [HE.out, ← HN.out]; exact mixW_end W)
        have HRL : Hid (R.length = k) := Lib.hid (by rw [HE.out, List.length_map, HN.out])
        go_wp2
        go_ret
        exact ⟨_, rfl, by rw [HRL.out, ← HX.out]; exact HO.out, HB.out⟩
end Go.Proofs.YtpbnbekkmifbpaaDoor
