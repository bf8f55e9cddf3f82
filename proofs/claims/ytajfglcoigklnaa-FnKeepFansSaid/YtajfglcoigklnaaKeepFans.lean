/-
  The contracts of anyHits and KeepFans of the program.
-/
import Derived.Test.YtajfglcoigklnaaHears
import Derived.Test.YtajfglcoigklnaaAppendAny
namespace Go.Proofs.Ytajfglcoigklnaa
open Go.ChangeShapes Go.WideShapes Go.ChangeAt Go.RowKit Go.Joins
set_option linter.unusedVariables false

def ahB (l : List Bl) (host : ByteArray) : Bool := l.any fun b => blH b host
theorem kfH_eq (l : List Bl) (h : Ha) : kfH l h = ahB l h.b := rfl
def ATo (l : List Bl) (host : ByteArray) (k : Nat) : Prop := ∀ (i : Nat) (z : Bl), i < k → l[i]? = some z → blH z host = false
theorem ATo_0 (l : List Bl) (host : ByteArray) : ATo l host 0 := fun i z h => absurd h (by omega)
theorem ATo_succ {l : List Bl} {host : ByteArray} {k : Nat} {z : Bl} (h : ATo l host k) (hz : l[k]? = some z) (h1 : blH z host = false) : ATo l host (k + 1) := fun i x hi hx => by
  by_cases e : i = k
  · subst e; rw [hz] at hx; injection hx with hx; subst hx; exact h1
  · exact h i x (by omega) hx
theorem ah_hit {l : List Bl} {host : ByteArray} {k : Nat} {z : Bl} (hz : l[k]? = some z) (h : blH z host = true) : true = ahB l host :=
  (List.any_eq_true.2 ⟨z, List.mem_of_getElem? hz, h⟩).symm
theorem ah_no {l : List Bl} {host : ByteArray} (h : ATo l host l.length) : false = ahB l host := by
  refine Eq.symm ?_
  unfold ahB
  rw [List.any_eq_false]
  intro x hx
  obtain ⟨i, hi⟩ := List.mem_iff_getElem?.1 hx
  simp [h i x (get_lt hi) hi]
def kfK (l : List Bl) (f : List Ha) (k : Nat) : List Ha := (f.take k).filter fun h => !kfH l h
theorem kfK_0 (l : List Bl) (f : List Ha) : kfK l f 0 = [] := by simp [kfK]
theorem kfK_yes {l : List Bl} {f : List Ha} {k : Nat} {z : Ha} (hz : f[k]? = some z) (h : ahB l z.b = false) : kfK l f (k + 1) = kfK l f k ++ [z] := by
  unfold kfK; rw [take_snoc_get f k z hz, List.filter_append]; simp [kfH_eq, h]
theorem kfK_no {l : List Bl} {f : List Ha} {k : Nat} {z : Ha} (hz : f[k]? = some z) (h : ahB l z.b = true) : kfK l f (k + 1) = kfK l f k := by
  unfold kfK; rw [take_snoc_get f k z hz, List.filter_append]; simp [kfH_eq, h]
theorem kfK_le (l : List Bl) (f : List Ha) (k : Nat) : (kfK l f k).length ≤ k := by
  unfold kfK; have := List.length_filter_le (fun h => !kfH l h) (f.take k); have h2 := List.length_take_le k f; omega
theorem kfL_yes {l : List Bl} {f : List Ha} (h1 : bvB l = true) (h2 : fvB f = true) : kfL l f = kfK l f f.length := by
  rw [kfL, h1, h2]; simp [kfK]
theorem kfL_no {l : List Bl} {f : List Ha} (h : bvB l = false ∨ fvB f = false) : kfL l f = [] := by
  rcases h with h | h <;> simp [kfL, h]

set_option maxRecDepth 100000 in
set_option maxHeartbeats 2000000 in
theorem iah_any (A : Option Addr) (n c : Nat) (l : List Bl) (host : ByteArray) (w : World) (h : Rd w 3 A n (bls l)) (hn : n ≤ maxLen) (hs : ∀ z ∈ l, z.a.size ≤ maxLen) (hh : host.size ≤ maxLen) :
    Calls Try.prog 56 #[.slice A n c, .string host] w fun e w' => e = .returned (.bool (ahB l host)) ∧ Below w.heap.size w w' := by
  have hll := rd_bllen h
  have H := Lib.hid h; have HLL := Lib.hid hll; have HS := Lib.hid hs; have HH := Lib.hid hh; clear h hll hs hh
  unfold maxLen at hn
  go_enter Try.func56, Try.ntmps56
  go_wp2_with fail
  go_loopw [9] (fun i wr => ∃ k : Nat, k ≤ n ∧ i = .int .i64 k ∧ ATo l host k ∧ Below w.heap.size w wr) (fun i _ => n - (intOf i).toNat)
  case atStart => exact ⟨0, Nat.zero_le _, rfl, ATo_0 _ _, Below.refl _ _⟩
  case round =>
    obtain ⟨k, hk, rfl, ht, hb⟩ := hrel
    have HT := Lib.hid ht; have HB := Lib.hid hb
    by_cases hlt : k < n
    · obtain ⟨b, off, z, rfl, hbl, hz, hc0, hc1, hc2⟩ := (H.out.below hb).bl hlt
      have HSZ := Lib.hid (HS.out z (List.mem_of_getElem? hz))
      have HZ := Lib.hid hz
      clear ht hz hb
      cases hq : bhB z.a z.b host
      · go_wp2_with (go_at_call 14; refine (ibh_any _ _ _ _ _ HH.out HSZ.out).mono ?_; rw [hq]; rintro e w' ⟨rfl, o, rfl⟩)
        go_roundw
        case rel => exact ⟨k + 1, by omega, by go_num, ATo_succ HT.out HZ.out hq, (HB.out.alloc HB.out.size _).alloc (by have := HB.out.size; simp; omega) _⟩
        case measure => simp [intOf]; omega
      · go_wp2_with (go_at_call 14; refine (ibh_any _ _ _ _ _ HH.out HSZ.out).mono ?_; rw [hq]; rintro e w' ⟨rfl, o, rfl⟩)
        go_ret
        exact ⟨ret_bool (ah_hit HZ.out hq), (HB.out.alloc HB.out.size _).alloc (by have := HB.out.size; simp; omega) _⟩
    · obtain rfl : k = n := by omega
      clear ht hb
      go_wp2_with fail
      go_ret
      exact ⟨ret_bool (ah_no (by rw [HLL.out]; exact HT.out)), HB.out⟩
set_option maxRecDepth 100000 in
set_option maxHeartbeats 4000000 in
theorem ikf_any (A : Option Addr) (n c : Nat) (l : List Bl) (B : Option Addr) (m d : Nat) (f : List Ha) (w : World) (h : Rd w 3 A n (bls l)) (hnc : n ≤ c) (hc : c ≤ maxLen) (hs : ∀ z ∈ l, z.a.size ≤ maxLen)
    (h2 : Rd w 2 B m (has f)) (hm : m ≤ 1048576) (hmd : m ≤ d) (hd : d ≤ maxLen) (hs2 : ∀ z ∈ f, z.a.size ≤ maxLen ∧ z.b.size ≤ maxLen) :
    Calls Try.prog 30 #[.slice A n c, .slice B m d] w fun e w' => ∃ v, e = .returned v ∧ w'.ownsRow w.heap.size 43 2 v (kfL l f).length (has (kfL l f)) ∧ Below w.heap.size w w' := by
  have hl2 := rd_halen h2
  have H := Lib.hid h; have HS := Lib.hid hs; have HNC := Lib.hid hnc; have HC := Lib.hid hc; have HNL := Lib.hid (Nat.le_trans hnc hc)
  have H2 := Lib.hid h2; have HL2 := Lib.hid hl2; have HS2 := Lib.hid hs2; have HMD := Lib.hid hmd; have HD := Lib.hid hd
  clear h hs hnc hc h2 hl2 hs2 hmd hd
  obtain ⟨i0, hi, hz0, hz1, hz2⟩ := info_parts ha_info
  have HI := Lib.hid hi; have HZ0 := Lib.hid hz0; have HZ1 := Lib.hid hz1; have HZ2 := Lib.hid hz2
  clear hi hz0 hz1 hz2
  generalize hr : kfL l f = R
  have HR := Lib.hid hr; clear hr
  cases hv : bvB l
  · have HE : Hid (R = []) := Lib.hid (by rw [← HR.out]; exact kfL_no (.inl hv))
    go_enter Try.func30, Try.ntmps30
    go_wp2_with fail
    refine (ibv_any _ _ _ _ _ H.out HNC.out HC.out HS.out).mono ?_
    rw [hv]
    rintro e w1 ⟨rfl, hb1⟩
    have HB1 := Lib.hid hb1; clear hb1
    go_wp2_with fail
    go_ret
    exact ⟨_, rfl, by rw [HE.out]; exact World.ownsRow_nil _ _ _ _, HB1.out⟩
  · have HV := Lib.hid hv; clear hv
    cases hf : fvB f
    · have HE : Hid (R = []) := Lib.hid (by rw [← HR.out]; exact kfL_no (.inr hf))
      go_enter Try.func30, Try.ntmps30
      go_wp2_with fail
      refine (ibv_any _ _ _ _ _ H.out HNC.out HC.out HS.out).mono ?_
      rw [HV.out]
      rintro e w1 ⟨rfl, hb1⟩
      have HB1 := Lib.hid hb1; clear hb1
      go_wp2_with fail
      refine (ifv_any _ _ _ _ _ (H2.out.below HB1.out) HMD.out HD.out HS2.out).mono ?_
      rw [hf]
      rintro e w2 ⟨rfl, hb2⟩
      have HB2 := Lib.hid (belB HB1.out HB1.out.size hb2); clear hb2
      go_wp2_with fail
      go_ret
      exact ⟨_, rfl, by rw [HE.out]; exact World.ownsRow_nil _ _ _ _, HB2.out⟩
    · have HE : Hid (R = kfK l f m) := Lib.hid (by rw [← HR.out, kfL_yes HV.out hf, HL2.out])
      go_enter Try.func30, Try.ntmps30
      go_wp2_with fail
      refine (ibv_any _ _ _ _ _ H.out HNC.out HC.out HS.out).mono ?_
      rw [HV.out]
      rintro e w1 ⟨rfl, hb1⟩
      have HB1 := Lib.hid hb1; clear hb1
      go_wp2_with fail
      refine (ifv_any _ _ _ _ _ (H2.out.below HB1.out) HMD.out HD.out HS2.out).mono ?_
      rw [hf]
      rintro e w2 ⟨rfl, hb2⟩
      have HB2 := Lib.hid (belB HB1.out HB1.out.size hb2); clear hb2
      go_wp2_with fail
      go_loopw [5, 18] (fun v i wr => ∃ k : Nat, k ≤ m ∧ i = .int .i64 k ∧ wr.ownsRow w.heap.size 43 2 v (kfK l f k).length (has (kfK l f k)) ∧ Below w.heap.size w wr) (fun _ i _ => m - (intOf i).toNat)
      case atStart => exact ⟨0, Nat.zero_le _, rfl, by rw [kfK_0]; exact World.ownsRow_nil _ _ _ _, HB2.out⟩
      case round =>
        obtain ⟨k, hk, rfl, ho, hb⟩ := hrel
        have HO := Lib.hid ho; have HB := Lib.hid hb
        clear HB1 HB2
        by_cases hlt : k < m
        · obtain ⟨b, off, z, eB, hbl, hz, hc0, hc1⟩ := (H2.out.below hb).ha hlt
          subst eB
          have HSZ := Lib.hid (HS2.out z (List.mem_of_getElem? hz))
          have HZ := Lib.hid hz
          have hle := kfK_le l f k
          have H3 := Lib.hid (H.out.below hb)
          clear ho hz hb
          go_wp2_with fail
          refine (iah_any A n c l z.b _ (H3.out.alloc _) HNL.out HS.out HSZ.out.2).mono ?_
          cases hq : ahB l z.b
          · have HK := Lib.hid (kfK_yes HZ.out hq)
            rintro e w3 ⟨rfl, hb3⟩
            have hkb : Bk w3 wr.heap.size 43 #[.string z.a, .string z.b] := (Bk.new wr _ _).keep hb3
            have HB3 := Lib.hid (belB HB.out HB.out.size (bela hb3))
            have HO3 := Lib.hid (own_below HO.out (bela hb3))
            have g0 := hkb.cell 0 (v := .string z.a) rfl
            have g1 := hkb.cell 1 (v := .string z.b) rfl
            have gl := hkb.lt
            clear hb3 hkb hc0 hc1 hbl
            go_wp2_with (first
              | (at_builtin
                 refine wpList_append1 _ rfl _ _ 56 rfl w.heap.size 43 i0 (.agg #[.string ⟨#[]⟩, .string ⟨#[]⟩]) 2 32 Try.underlying56 HI.out HZ0.out HZ1.out HZ2.out rfl (by decide) [.string z.a, .string z.b] rfl (by intro u hu; simp at hu; rcases hu with rfl | rfl <;> rfl) _ (kfK l f k).length (has (kfK l f k)) _ _ HO3.out rfl rfl _ rfl rfl (by simp only [maxLen]; omega) (by omega) HB3.out.size ?_
                 intro v' w5 ho5 hg5
                 have HB5 := Lib.hid (below_grown HB3.out hg5 HO3.out (Nat.le_refl _) HB3.out.size)
                 have HO5 : Hid (w5.ownsRow w.heap.size 43 2 v' (kfK l f (k + 1)).length (has (kfK l f (k + 1)))) := Lib.hid (by rw [HK.out, has_app, has_one, List.length_append]; exact ho5)
                 clear ho5 hg5))
            go_roundw
            case rel => exact ⟨k + 1, by omega, by go_num, HO5.out, HB5.out⟩
            case measure => simp [intOf]; omega
          · have HK := Lib.hid (kfK_no HZ.out hq)
            rintro e w3 ⟨rfl, hb3⟩
            have HB3 := Lib.hid (belB HB.out HB.out.size (bela hb3))
            have HO3 := Lib.hid (own_below HO.out (bela hb3))
            clear hb3 hc0 hc1 hbl
            go_wp2_with fail
            go_roundw
            case rel => exact ⟨k + 1, by omega, by go_num, by rw [HK.out]; exact HO3.out, HB3.out⟩
            case measure => simp [intOf]; omega
        · obtain rfl : k = m := by omega
          clear ho hb
          go_wp2_with fail
          go_ret
          exact ⟨_, rfl, by rw [HE.out]; exact HO.out, HB.out⟩
end Go.Proofs.Ytajfglcoigklnaa
