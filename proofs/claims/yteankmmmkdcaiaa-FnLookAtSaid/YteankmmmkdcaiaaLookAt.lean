/-
  The contracts of LookAt.
-/
import Derived.Test.YteankmmmkdcaiaaWatchesV
import Derived.Test.YteankmmmkdcaiaaAppendAny
import Derived.Test.YteankmmmkdcaiaaPause
namespace Go.Proofs.Yteankmmmkdcaiaa
open Go.ChangeShapes Go.WideShapes Go.ChangeAt Go.RowKit Go.Joins
set_option linter.unusedVariables false

theorem was_set : ∀ (l : List Wa) (k : Nat) (z : Wa) (p q : Int), l[k]? = some z → ((was l).set (k * 3 + 1) (.int .i64 p)).set (k * 3 + 2) (.int .i64 q) = was (l.set k ⟨z.a, p, q⟩) := by
  intro l
  induction l with
  | nil => intro k z p q h; simp at h
  | cons y l ih =>
    intro k z p q h
    cases k with
    | zero =>
      simp only [List.getElem?_cons_zero, Option.some.injEq] at h
      subst h
      simp [was, wac]
    | succ k =>
      rw [List.getElem?_cons_succ] at h
      have e := ih k z p q h
      rw [show (k + 1) * 3 + 1 = (k * 3 + 1) + 1 + 1 + 1 by omega, show (k + 1) * 3 + 2 = (k * 3 + 2) + 1 + 1 + 1 by omega]
      show ((Value.string y.a :: Value.int .i64 y.b :: Value.int .i64 y.c :: was l).set ((k * 3 + 1) + 1 + 1 + 1) _).set ((k * 3 + 2) + 1 + 1 + 1) _ = Value.string y.a :: Value.int .i64 y.b :: Value.int .i64 y.c :: was (l.set k ⟨z.a, p, q⟩)
      simp only [List.set_cons_succ, e]
theorem was_oneC (l : List Wa) : ∀ u ∈ was l, u.oneCell' = true := by
  intro u hu
  simp only [was, List.mem_flatMap, wac, List.mem_cons, List.not_mem_nil, or_false] at hu
  obtain ⟨z, _, rfl | rfl | rfl⟩ := hu <;> rfl

def laV (l : List Wa) (now : Int) : Bool := wvA l && wi now 0 1000000
def laP (feed : ByteArray) (z : Wa) : Bool := z.a.toList == feed.toList
def laN (z : Wa) (now : Int) (ch : Bool) : Wa := ⟨z.a, np z.b ch, now + np z.b ch⟩
def laL (l : List Wa) (feed : ByteArray) (now : Int) (ch : Bool) : List Wa := if laV l now = true then (match l[l.findIdx (laP feed)]? with | some z => l.set (l.findIdx (laP feed)) (laN z now ch) | none => l) else []
def laB (l : List Wa) (feed : ByteArray) (now : Int) : Bool := laV l now && decide (l.findIdx (laP feed) < l.length)
/-- None of the first k has the key. -/
def NF (l : List Wa) (feed : ByteArray) (k : Nat) : Prop := ∀ i z, i < k → l[i]? = some z → laP feed z = false
theorem NF_0 (l : List Wa) (feed : ByteArray) : NF l feed 0 := fun i z h => absurd h (by omega)
theorem NF_succ {l : List Wa} {feed : ByteArray} {k : Nat} {z : Wa} (h : NF l feed k) (hz : l[k]? = some z) (h1 : laP feed z = false) : NF l feed (k + 1) := fun i x hi hx => by
  by_cases e : i = k
  · subst e; rw [hz] at hx; injection hx with hx; subst hx; exact h1
  · exact h i x (by omega) hx
theorem la_bad {l : List Wa} {feed : ByteArray} {now : Int} {ch : Bool} (h : laV l now = false) : laL l feed now ch = [] ∧ laB l feed now = false := by simp [laL, laB, h]
theorem la_idx {l : List Wa} {feed : ByteArray} {k : Nat} {z : Wa} (hn : NF l feed k) (hz : l[k]? = some z) (h1 : laP feed z = true) : l.findIdx (laP feed) = k := by
  have hk := get_lt hz
  rw [List.findIdx_eq hk]
  refine ⟨by rw [(List.getElem?_eq_some_iff.1 hz).2]; exact h1, fun j hj => ?_⟩
  exact hn j _ hj (List.getElem?_eq_getElem (by omega))
theorem la_hit {l : List Wa} {feed : ByteArray} {now : Int} {ch : Bool} {k : Nat} {z : Wa} (hv : laV l now = true) (hn : NF l feed k) (hz : l[k]? = some z) (h1 : laP feed z = true) :
    laL l feed now ch = l.set k (laN z now ch) ∧ laB l feed now = true := by
  have e := la_idx hn hz h1
  have hk := get_lt hz
  unfold laL laB
  rw [if_pos hv, e, hz, hv]
  exact ⟨rfl, by simpa using hk⟩
theorem la_none {l : List Wa} {feed : ByteArray} {now : Int} {ch : Bool} (hv : laV l now = true) (hn : NF l feed l.length) : laL l feed now ch = l ∧ laB l feed now = false := by
  have e : l.findIdx (laP feed) = l.length := by
    rw [List.findIdx_eq_length]
    intro x hx
    obtain ⟨i, hi⟩ := List.mem_iff_getElem?.1 hx
    exact hn i x (get_lt hi) hi
  unfold laL laB
  rw [if_pos hv, e, List.getElem?_eq_none (Nat.le_refl _)]
  simp
theorem laL_len (l : List Wa) (feed : ByteArray) (now : Int) (ch : Bool) : (laL l feed now ch).length = (if laV l now = true then l.length else 0) := by
  unfold laL; split
  · split <;> simp
  · rfl
theorem laV_parts {l : List Wa} {now : Int} (h : laV l now = true) : wvA l = true ∧ 0 ≤ now ∧ now ≤ 1000000 := by
  simp only [laV, Bool.and_eq_true, wi_iff] at h; exact h
theorem wvA_b {l : List Wa} {k : Nat} {z : Wa} (h : wvA l = true) (hz : l[k]? = some z) : 10 ≤ z.b ∧ z.b ≤ 1280 ∧ 0 ≤ z.c ∧ z.c ≤ 1000000000 ∧ wvB z.a = true := by
  simp only [wvA, Bool.and_eq_true] at h
  have := (vAll_iff.1 h.2 k z hz).1
  simp only [waOk, Bool.and_eq_true, wi_iff] at this
  exact ⟨this.1.2.1, this.1.2.2, this.2.1, this.2.2, this.1.1⟩
theorem np_bd {p : Int} {ch : Bool} (h1 : 10 ≤ p) (h2 : p ≤ 1280) : 10 ≤ np p ch ∧ np p ch ≤ 1280 := by
  unfold np; rw [if_pos (wi_iff.2 ⟨h1, h2⟩)]; split <;> omega

theorem cpw_any (A : Option Addr) (n c : Nat) (l : List Wa) (w : World) (h : Rd w 3 A n (was l)) (hn : n ≤ 1048576) :
    Calls Try.prog 46 #[.slice A n c] w fun e w' => ∃ v, e = .returned v ∧ w'.ownsRow w.heap.size 33 3 v n (was l) ∧ Below w.heap.size w w' := by
  have H := Lib.hid h; clear h
  obtain ⟨i0, hi, hz0, hz1, hz2⟩ := info_parts wa_info
  have HI := Lib.hid hi; have HZ0 := Lib.hid hz0; have HZ1 := Lib.hid hz1; have HZ2 := Lib.hid hz2
  clear hi hz0 hz1 hz2
  go_enter Try.func46, Try.ntmps46
  go_wp2_with (first
    | (at_builtin; refine wpList_append_any _ rfl _ _ 29 rfl w.heap.size 33 i0 _ 3 32 Try.underlying29 HI.out HZ0.out HZ1.out HZ2.out rfl (by omega) (.slice none 0 0) 0 [] rfl (World.ownsRow_nil _ _ _ _) w.heap.size A n c (was l) rfl (reads_of_rd H.out (by omega)) (was_oneC l) (by simp only [maxLen]; omega) (by omega) (Nat.le_refl _) ?_; intro v1 w1 hown1 hg1 hat1))
  have HO := Lib.hid hown1
  have HB : Hid (Below w.heap.size w w1) := Lib.hid ((Below.refl _ _).grown hg1 (Nat.le_refl _) (by simp [Value.ownBlock]))
  clear hown1 hg1 hat1
  go_wp2_with fail
  go_ret
  exact ⟨_, rfl, by have := HO.out; simpa using this, HB.out⟩
set_option maxRecDepth 100000 in
set_option maxHeartbeats 4000000 in
theorem ila_any (A : Option Addr) (n c : Nat) (l : List Wa) (feed : ByteArray) (now : Int) (ch : Bool) (w : World) (h : Rd w 3 A n (was l)) (hn : n ≤ 1048576) (hnc : n ≤ c) (hc : c ≤ maxLen) (hs : ∀ z ∈ l, z.a.size ≤ maxLen) (hf : feed.size ≤ maxLen) :
    Calls Try.prog 30 #[.slice A n c, .string feed, .int .i64 now, .bool ch] w fun e w' => ∃ v, e = .returned (.tuple #[v, .bool (laB l feed now)]) ∧ w'.ownsRow w.heap.size 33 3 v (laL l feed now ch).length (was (laL l feed now ch)) ∧ Below w.heap.size w w' := by
  have hll := rd_walen h
  have hnl : n ≤ maxLen := Nat.le_trans hnc hc
  have H := Lib.hid h; have HLL := Lib.hid hll; have HS := Lib.hid hs; have HNC := Lib.hid hnc; have HC := Lib.hid hc; have HNL := Lib.hid hnl; have HN := Lib.hid hn
  clear h hll hs hnc hc hnl
  obtain ⟨i0, hi, hz0, hz1, hz2⟩ := info_parts wa_info
  have HI := Lib.hid hi; have HZ0 := Lib.hid hz0; have HZ1 := Lib.hid hz1; have HZ2 := Lib.hid hz2
  clear hi hz0 hz1 hz2
  generalize hr : laL l feed now ch = R
  generalize hbr : laB l feed now = bR
  have HR := Lib.hid hr; have HBR := Lib.hid hbr; clear hr hbr
  cases hv : laV l now
  · have HE : Hid (R = [] ∧ bR = false) := Lib.hid (by rw [← HR.out, ← HBR.out]; exact la_bad hv)
    have HV := Lib.hid hv; clear hv
    cases hw : wvA l
    · go_enter Try.func30, Try.ntmps30
      go_wp2_with fail
      refine (iwa_any _ _ _ _ _ H.out HNC.out HC.out HS.out).mono ?_
      rw [hw]
      rintro e w1 ⟨rfl, hb1⟩
      have HB1 := Lib.hid hb1; clear hb1
      go_wp2_with fail
      go_ret2
      exact ⟨_, by rw [HE.out.2]; rfl, by rw [HE.out.1]; exact World.ownsRow_nil _ _ _ _, HB1.out⟩
    · have hwi : wi now 0 1000000 = false := by have := HV.out; simpa [laV, hw] using this
      go_enter Try.func30, Try.ntmps30
      go_wp2_with fail
      refine (iwa_any _ _ _ _ _ H.out HNC.out HC.out HS.out).mono ?_
      rw [hw]
      rintro e w1 ⟨rfl, hb1⟩
      have HB1 := Lib.hid hb1; clear hb1
      go_wp2_with (go_at_call 35; refine (within_any _ _ _ _).mono ?_; rintro e w' ⟨rfl, rfl⟩)
      go_ret2
      exact ⟨_, by rw [HE.out.2]; rfl, by rw [HE.out.1]; exact World.ownsRow_nil _ _ _ _, HB1.out⟩
  · obtain ⟨hw, hn0, hn1⟩ := laV_parts hv
    have hwi : wi now 0 1000000 = true := wi_iff.2 ⟨hn0, hn1⟩
    have HV := Lib.hid hv; have HW := Lib.hid hw; clear hv hw
    go_enter Try.func30, Try.ntmps30
    go_wp2_with fail
    refine (iwa_any _ _ _ _ _ H.out HNC.out HC.out HS.out).mono ?_
    rw [HW.out]
    rintro e w1 ⟨rfl, hb1⟩
    have HB1 := Lib.hid hb1; clear hb1
    go_wp2_with (go_at_call 35; refine (within_any _ _ _ _).mono ?_; rintro e w' ⟨rfl, rfl⟩)
    refine (cpw_any _ _ _ l _ (H.out.below HB1.out) HN.out).mono ?_
    rintro e w2 ⟨v, rfl, ho, hb2⟩
    obtain ⟨A2, c2, rfl, _, _, _⟩ := own_form ho
    have HO := Lib.hid (own_less ho HB1.out.size); have HB2 := Lib.hid (belB HB1.out HB1.out.size hb2)
    clear ho hb2
    go_wp2_with fail
    go_loop [24] (fun i => ∃ k : Nat, k ≤ n ∧ i = .int .i64 k ∧ NF l feed k) (fun i => n - (intOf i).toNat)
    case atStart => exact ⟨0, Nat.zero_le _, rfl, NF_0 _ _⟩
    case round =>
      obtain ⟨k, hk, rfl, hnf⟩ := hrel
      have HNF := Lib.hid hnf; clear hnf
      by_cases hlt : k < n
      · obtain ⟨g, rfl, hgb, hgl⟩ := own_at HO.out hlt
        have hz : l[k]? = some (l[k]'(by rw [HLL.out]; exact hlt)) := List.getElem?_eq_getElem _
        generalize l[k]'(by rw [HLL.out]; exact hlt) = z at hz
        have hc0 : w2.cell? ⟨g, k * 3, none⟩ = some (.string z.a) := (HO.out.cellAt (k * 3) (by omega)).trans ((was_get hz 0 (by omega)).trans rfl)
        have hc1 : w2.cell? ⟨g, k * 3 + 1, none⟩ = some (.int .i64 z.b) := (HO.out.cellAt (k * 3 + 1) (by omega)).trans ((was_get hz 1 (by omega)).trans rfl)
        have hc2 : w2.cell? ⟨g, k * 3 + 2, none⟩ = some (.int .i64 z.c) := (HO.out.cellAt (k * 3 + 2) (by omega)).trans ((was_get hz 2 (by omega)).trans rfl)
        have hf1 := HO.out.frozenAt (k * 3 + 1)
        have hf2 := HO.out.frozenAt (k * 3 + 2)
        obtain ⟨b1, b2, b3, b4, b5⟩ := wvA_b HW.out hz
        have nb := np_bd (ch := ch) b1 b2
        have HZ := Lib.hid hz; clear hz b5
        cases hm : (z.a.toList == feed.toList)
        · go_wp2_with fail
          go_round
          case rel => exact ⟨k + 1, by omega, by go_num, NF_succ HNF.out HZ.out hm⟩
          case measure => simp [intOf]; omega
        · have HE : Hid (R = l.set k (laN z now ch) ∧ bR = true) := Lib.hid (by rw [← HR.out, ← HBR.out]; exact la_hit HV.out HNF.out HZ.out hm)
          generalize hnp : np z.b ch = pz at *
          have HNP := Lib.hid hnp; clear hnp
          go_wp2_with (go_at_call 12; refine (inp_any _ _ _).mono ?_; rw [HNP.out]; rintro e w' ⟨rfl, rfl⟩)
          go_ret2
          refine ⟨_, by rw [HE.out.2]; rfl, ?_, ((HB2.out.setCell hgb _).setCell hgb _)⟩
          rw [HE.out.1, List.length_set, laN, HNP.out, ← was_set l k z pz (now + pz) HZ.out, HLL.out]
          exact ((HO.out.stored (k * 3 + 1) _).1.stored (k * 3 + 2) _).1
      · obtain rfl : k = n := by omega
        have HE : Hid (R = l ∧ bR = false) := Lib.hid (by rw [← HR.out, ← HBR.out]; exact la_none HV.out (by rw [HLL.out]; exact HNF.out))
        go_wp2_with fail
        go_ret2
        exact ⟨_, by rw [HE.out.2]; rfl, by rw [HE.out.1, HLL.out]; exact HO.out, HB2.out⟩
set_option maxRecDepth 100000 in
set_option maxHeartbeats 4000000 in
theorem sla_any (A : Option Addr) (n c : Nat) (l : List Wa) (feed : ByteArray) (now : Int) (ch : Bool) (w : World) (h : Rd w 3 A n (was l)) (hn : n ≤ 1048576) (hnc : n ≤ c) (hc : c ≤ maxLen) (hs : ∀ z ∈ l, z.a.size ≤ maxLen) (hf : feed.size ≤ maxLen) :
    Calls Try.prog 31 #[.slice A n c, .string feed, .int .i64 now, .bool ch] w fun e w' => ∃ v, e = .returned (.tuple #[v, .bool (laB l feed now)]) ∧ w'.ownsRow w.heap.size 33 3 v (laL l feed now ch).length (was (laL l feed now ch)) ∧ Below w.heap.size w w' := by
  have hll := rd_walen h
  have hnl : n ≤ maxLen := Nat.le_trans hnc hc
  have H := Lib.hid h; have HLL := Lib.hid hll; have HS := Lib.hid hs; have HNC := Lib.hid hnc; have HC := Lib.hid hc; have HNL := Lib.hid hnl; have HN := Lib.hid hn
  clear h hll hs hnc hc hnl
  obtain ⟨i0, hi, hz0, hz1, hz2⟩ := info_parts wa_info
  have HI := Lib.hid hi; have HZ0 := Lib.hid hz0; have HZ1 := Lib.hid hz1; have HZ2 := Lib.hid hz2
  clear hi hz0 hz1 hz2
  generalize hr : laL l feed now ch = R
  generalize hbr : laB l feed now = bR
  have HR := Lib.hid hr; have HBR := Lib.hid hbr; clear hr hbr
  cases hv : laV l now
  · have HE : Hid (R = [] ∧ bR = false) := Lib.hid (by rw [← HR.out, ← HBR.out]; exact la_bad hv)
    have HV := Lib.hid hv; clear hv
    cases hw : wvA l
    · go_enter Try.func31, Try.ntmps31
      go_wp2_with fail
      refine (swa_any _ _ _ _ _ H.out HNL.out HS.out).mono ?_
      rw [hw]
      rintro e w1 ⟨rfl, hb1⟩
      have HB1 := Lib.hid hb1; clear hb1
      go_wp2_with fail
      go_ret2
      exact ⟨_, by rw [HE.out.2]; rfl, by rw [HE.out.1]; exact own_less (World.ownsRow_made _ #[] 0 (Nat.le_refl _) (by simp) (by simp)) HB1.out.size, HB1.out.alloc HB1.out.size _⟩
    · have hwi : wi now 0 1000000 = false := by have := HV.out; simpa [laV, hw] using this
      go_enter Try.func31, Try.ntmps31
      go_wp2_with fail
      refine (swa_any _ _ _ _ _ H.out HNL.out HS.out).mono ?_
      rw [hw]
      rintro e w1 ⟨rfl, hb1⟩
      have HB1 := Lib.hid hb1; clear hb1
      go_wp2_with (go_at_call 34; refine (l1In_any _ _ _ _).mono ?_; rintro e w' ⟨rfl, rfl⟩)
      go_ret2
      exact ⟨_, by rw [HE.out.2]; rfl, by rw [HE.out.1]; exact own_less (World.ownsRow_made _ #[] 0 (Nat.le_refl _) (by simp) (by simp)) HB1.out.size, HB1.out.alloc HB1.out.size _⟩
  · obtain ⟨hw, hn0, hn1⟩ := laV_parts hv
    have hwi : wi now 0 1000000 = true := wi_iff.2 ⟨hn0, hn1⟩
    have HV := Lib.hid hv; have HW := Lib.hid hw; clear hv hw
    go_enter Try.func31, Try.ntmps31
    go_wp2_with fail
    refine (swa_any _ _ _ _ _ H.out HNL.out HS.out).mono ?_
    rw [HW.out]
    rintro e w1 ⟨rfl, hb1⟩
    have HB1 := Lib.hid hb1; clear hb1
    go_wp2_with (first
      | (go_at_call 34; refine (l1In_any _ _ _ _).mono ?_; rintro e w' ⟨rfl, rfl⟩)
      | (at_builtin; refine wpList_append_any _ rfl _ _ 29 rfl w.heap.size 33 i0 _ 3 32 Try.underlying29 HI.out HZ0.out HZ1.out HZ2.out rfl (by omega) (.slice (some ⟨w1.heap.size, 0, none⟩) 0 0) 0 [] rfl (own_less (World.ownsRow_made w1 #[] 0 (Nat.le_refl _) (by simp) (by simp)) HB1.out.size) _ A n c (was l) rfl (reads_of_rd ((H.out.below HB1.out).alloc _) (by omega)) (was_oneC l) (by simp only [maxLen]; omega) (by omega) (by simp; have := HB1.out.size; omega) ?_; intro v1 w2 hown1 hg1 hat1))
    have hb2 : Below w.heap.size w w2 := (HB1.out.alloc HB1.out.size _).grown hg1 (by simp; have := HB1.out.size; omega) (fun j hj => by simp only [Value.ownBlock, Option.some.injEq] at hj; have := HB1.out.size; omega)
    simp only [Nat.zero_add, List.nil_append] at hown1
    obtain ⟨A2, c2, rfl, _, _, _⟩ := own_form hown1
    have HO := Lib.hid hown1; have HB2 := Lib.hid hb2
    clear hown1 hg1 hat1 hb2
    go_wp2_with fail
    go_loop [11] (fun i => ∃ k : Nat, k ≤ n ∧ i = .int .i64 k ∧ NF l feed k) (fun i => n - (intOf i).toNat)
    case atStart => exact ⟨0, Nat.zero_le _, rfl, NF_0 _ _⟩
    case round =>
      obtain ⟨k, hk, rfl, hnf⟩ := hrel
      have HNF := Lib.hid hnf; clear hnf
      by_cases hlt : k < n
      · obtain ⟨g, rfl, hgb, hgl⟩ := own_at HO.out hlt
        have hz : l[k]? = some (l[k]'(by rw [HLL.out]; exact hlt)) := List.getElem?_eq_getElem _
        generalize l[k]'(by rw [HLL.out]; exact hlt) = z at hz
        have hc0 : w2.cell? ⟨g, k * 3, none⟩ = some (.string z.a) := (HO.out.cellAt (k * 3) (by omega)).trans ((was_get hz 0 (by omega)).trans rfl)
        have hc1 : w2.cell? ⟨g, k * 3 + 1, none⟩ = some (.int .i64 z.b) := (HO.out.cellAt (k * 3 + 1) (by omega)).trans ((was_get hz 1 (by omega)).trans rfl)
        have hc2 : w2.cell? ⟨g, k * 3 + 2, none⟩ = some (.int .i64 z.c) := (HO.out.cellAt (k * 3 + 2) (by omega)).trans ((was_get hz 2 (by omega)).trans rfl)
        have hf1 := HO.out.frozenAt (k * 3 + 1)
        have hf2 := HO.out.frozenAt (k * 3 + 2)
        obtain ⟨b1, b2, b3, b4, b5⟩ := wvA_b HW.out hz
        have nb := np_bd (ch := ch) b1 b2
        have HZ := Lib.hid hz; clear hz b5
        cases hm : (z.a.toList == feed.toList)
        · go_wp2_with fail
          go_round
          case rel => exact ⟨k + 1, by omega, by go_num, NF_succ HNF.out HZ.out hm⟩
          case measure => simp [intOf]; omega
        · have HE : Hid (R = l.set k (laN z now ch) ∧ bR = true) := Lib.hid (by rw [← HR.out, ← HBR.out]; exact la_hit HV.out HNF.out HZ.out hm)
          generalize hnp : np z.b ch = pz at *
          have HNP := Lib.hid hnp; clear hnp
          go_wp2_with (go_at_call 11; refine (snp_any _ _ _).mono ?_; rw [HNP.out]; rintro e w' ⟨rfl, rfl⟩)
          go_ret2
          refine ⟨_, by rw [HE.out.2]; rfl, ?_, ((HB2.out.setCell hgb _).setCell hgb _)⟩
          rw [HE.out.1, List.length_set, laN, HNP.out, ← was_set l k z pz (now + pz) HZ.out, HLL.out]
          exact ((HO.out.stored (k * 3 + 1) _).1.stored (k * 3 + 2) _).1
      · obtain rfl : k = n := by omega
        have HE : Hid (R = l ∧ bR = false) := Lib.hid (by rw [← HR.out, ← HBR.out]; exact la_none HV.out (by rw [HLL.out]; exact HNF.out))
        go_wp2_with fail
        go_ret2
        exact ⟨_, by rw [HE.out.2]; rfl, by rw [HE.out.1, HLL.out]; exact HO.out, HB2.out⟩
end Go.Proofs.Yteankmmmkdcaiaa
