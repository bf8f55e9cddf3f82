/-
  FetchRun: what it computes.
-/
import Derived.Test.YtgbbobpakjlddaaKept2
import Derived.Test.YtgbbobpakjlddaaTimes
namespace Go.Proofs.Ytgbbobpakjlddaa
open Go.ChangeShapes Go.WideShapes Go.ChangeAt Go.RowKit Go.Joins
set_option linter.unusedVariables false

def frK (ts ds : List Int) (long : Int) : Nat → Int × Int
  | 0 => (-1, 0)
  | k + 1 => (kfA (frK ts ds long k).1 (frK ts ds long k).2 (ts.getD k 0) (ds.getD k 0) long, kfB (frK ts ds long k).1 (frK ts ds long k).2 (ts.getD k 0) (ds.getD k 0) long)
def frC (ts ds : List Int) (long : Int) (k : Nat) : Int := fc (frK ts ds long k).1 (frK ts ds long k).2 (ts.getD k 0) (ds.getD k 0)
def frL (ts ds : List Int) (long : Int) (n : Nat) : List Int := (List.range n).map (frC ts ds long)
def dOk (ds : List Int) (k : Nat) : Bool := wi (ds.getD k 0) 0 999982
def dTo (ds : List Int) (k : Nat) : Prop := ∀ j, j < k → dOk ds j = true
def frV (ts ds : List Int) (long : Int) : Bool := (ts.length == ds.length) && tvB ts && wi long 0 1000000 && (List.range ts.length).all (dOk ds)
def frR (ts ds : List Int) (long : Int) : List Int := if frV ts ds long = true then frL ts ds long ts.length else []
theorem frL_len (ts ds : List Int) (long : Int) (n : Nat) : (frL ts ds long n).length = n := by simp [frL]
theorem frL_succ (ts ds : List Int) (long : Int) (n : Nat) : frL ts ds long (n + 1) = frL ts ds long n ++ [frC ts ds long n] := by simp [frL, List.range_succ]
theorem dTo_0 (ds : List Int) : dTo ds 0 := fun j h => absurd h (by omega)
theorem dTo_succ {ds : List Int} {k : Nat} (h : dTo ds k) (h1 : dOk ds k = true) : dTo ds (k + 1) := fun j hj => by
  by_cases e : j = k
  · subst e; exact h1
  · exact h j (by omega)
theorem kpV_step {a b now dg long : Int} (h : kpV a b = true) : kpV (kfA a b now dg long) (kfB a b now dg long) = true := by
  unfold kfA kfB
  by_cases hv : kfV a b now dg long = true
  · simp only [hv, if_true]
    by_cases h0 : fc a b now dg = 0
    · simp only [h0, if_true]; exact h
    · simp only [h0, if_false]
      simp only [kfV, fcV, Bool.and_eq_true, wi_iff] at hv
      rw [kpV_iff]
      omega
  · simp only [hv, Bool.false_eq_true, if_false]
    decide +kernel
theorem frK_ok (ts ds : List Int) (long : Int) (k : Nat) : kpV (frK ts ds long k).1 (frK ts ds long k).2 = true := by
  induction k with
  | zero => show kpV (-1) 0 = true; decide +kernel
  | succ k ih => exact kpV_step ih
theorem frC_neg {ts ds : List Int} {long : Int} {k : Nat} (h : dOk ds k = false) : frC ts ds long k = -1 := by
  unfold frC dOk at *
  exact fc_no (by rw [fcV, h, Bool.and_false])
theorem frC_pos {ts ds : List Int} {long : Int} {k : Nat} (h : dOk ds k = true) : 0 ≤ frC ts ds long k := by
  unfold frC dOk at *
  exact fc_pos (by rw [fcV, frK_ok, h]; rfl)
theorem frR_no1 {ts ds : List Int} {long : Int} (h : ts.length ≠ ds.length) : frR ts ds long = [] := by
  unfold frR; rw [if_neg]; simp [frV, h]
theorem frR_no2 {ts ds : List Int} {long : Int} (h : tvB ts = false) : frR ts ds long = [] := by
  unfold frR; rw [if_neg]; simp [frV, h]
theorem frR_no3 {ts ds : List Int} {long : Int} (h : wi long 0 1000000 = false) : frR ts ds long = [] := by
  unfold frR; rw [if_neg]; simp [frV, h]
theorem frR_no4 {ts ds : List Int} {long : Int} {k : Nat} (hk : k < ts.length) (h : dOk ds k = false) : frR ts ds long = [] := by
  unfold frR; rw [if_neg]
  have : (List.range ts.length).all (dOk ds) = false := by
    rw [List.all_eq_false]; exact ⟨k, List.mem_range.2 hk, by simp [h]⟩
  simp [frV, this]
theorem frR_yes {ts ds : List Int} {long : Int} (h1 : ts.length = ds.length) (h2 : tvB ts = true) (h3 : wi long 0 1000000 = true) (h4 : dTo ds ts.length) : frR ts ds long = frL ts ds long ts.length := by
  unfold frR; rw [if_pos]
  have : (List.range ts.length).all (dOk ds) = true := by
    rw [List.all_eq_true]; intro j hj; exact h4 j (List.mem_range.1 hj)
  rw [frV, this, h1, h2, h3]; simp
theorem frR_0 {ts ds : List Int} {long : Int} (h : ts.length = 0) : frR ts ds long = [] := by
  unfold frR; split
  · rw [h]; rfl
  · rfl

/-- Block g is what is kept. -/
def KB (w : World) (g : Nat) (a b : Int) : Prop := w.heap[g]? = some (.cells #[.int .i64 a, .int .i64 b] 25 (0, 0))
theorem KB.lt {w : World} {g : Nat} {a b : Int} (h : KB w g a b) : g < w.heap.size := (Array.getElem?_eq_some_iff.1 h).1
theorem KB.new (w : World) (a b : Int) : KB (w.alloc (.cells #[.int .i64 a, .int .i64 b] 25)) w.heap.size a b := heap_alloc_new w _
theorem KB.alloc {w : World} {g : Nat} {a b : Int} (h : KB w g a b) (o : Obj) : KB (w.alloc o) g a b := (Below.heap_alloc w o g h.lt).trans h
theorem KB.drew {w : World} {g : Nat} {a b : Int} (h : KB w g a b) : KB w.drew g a b := h
theorem KB.cells {w : World} {g : Nat} {a b : Int} (h : KB w g a b) : (w.cell? ⟨g, 0, none⟩ = some (.int .i64 a) ∧ w.cell? ⟨g, 1, none⟩ = some (.int .i64 b)) ∧ w.frozen? ⟨g, 0, none⟩ = false ∧ w.frozen? ⟨g, 1, none⟩ = false := by
  unfold KB at h; refine ⟨⟨?_, ?_⟩, ?_, ?_⟩ <;> simp [World.cell?, World.frozen?, h]
theorem KB.store {w : World} {g : Nat} {a b : Int} (h : KB w g a b) (a' b' : Int) : KB ((w.setCell ⟨g, 0, none⟩ (.int .i64 a')).setCell ⟨g, 1, none⟩ (.int .i64 b')) g a' b' := by
  unfold KB at h ⊢
  simp [World.setCell, Array.getElem?_modify, h]
theorem KB.grown {w w' : World} {g : Nat} {a b : Int} {row : Option Nat} (h : KB w g a b) (hg : w.grownBy w' row) (hr : some g ≠ row) : KB w' g a b := (hg.block g h.lt hr).trans h
theorem KB.below {w w' : World} {g : Nat} {a b : Int} (h : KB w g a b) (hg : Below w.heap.size w w') : KB w' g a b := (hg.block g h.lt).trans h

set_option maxHeartbeats 1000000 in
theorem ifr_any (A B : Option Addr) (n c m d : Nat) (ts ds : List Int) (long : Int) (w : World) (h1 : Rd w 1 A n (iv ts)) (h2 : Rd w 1 B m (iv ds)) (hn : n ≤ 1048576) (hm : m ≤ 1048576) :
    Calls Try.prog 21 #[.slice A n c, .slice B m d, .int .i64 long] w fun e w' => ∃ v, e = .returned v ∧ w'.ownsRow w.heap.size 3 1 v (frR ts ds long).length (iv (frR ts ds long)) ∧ Below w.heap.size w w' := by
  have hl1 := rd_ilen h1; have hl2 := rd_ilen h2
  have H1 := Lib.hid h1; have H2 := Lib.hid h2; have L1 := Lib.hid hl1; have L2 := Lib.hid hl2; have HN := Lib.hid hn
  clear h1 h2 hl1 hl2
  by_cases hnm : n = m
  · subst hnm
    cases ht : tvB ts
    · generalize hr : frR ts ds long = R
      have HR : Hid (R = []) := by rw [← hr]; exact frR_no2 ht
      have HT := Lib.hid ht
      clear hr ht
      go_enter Try.func21, Try.ntmps21
      go_wp2_with (first | (go_at_call 33; refine (itv_any _ _ _ _ _ H1.out HN.out).mono ?_; rw [HT.out]; rintro e w' ⟨rfl, rfl⟩) | (go_at_call 32; refine (within_any _ _ _ _).mono ?_; rintro e w' ⟨rfl, rfl⟩))
      go_ret
      exact ⟨_, rfl, by rw [HR.out]; exact World.ownsRow_nil _ _ _ _, Below.refl _ _⟩
    · cases hlg : wi long 0 1000000
      · generalize hr : frR ts ds long = R
        have HR : Hid (R = []) := by rw [← hr]; exact frR_no3 hlg
        have HT := Lib.hid ht
        clear hr ht
        go_enter Try.func21, Try.ntmps21
        go_wp2_with (first | (go_at_call 33; refine (itv_any _ _ _ _ _ H1.out HN.out).mono ?_; rw [HT.out]; rintro e w' ⟨rfl, rfl⟩) | (go_at_call 32; refine (within_any _ _ _ _).mono ?_; rintro e w' ⟨rfl, rfl⟩))
        go_ret
        exact ⟨_, rfl, by rw [HR.out]; exact World.ownsRow_nil _ _ _ _, Below.refl _ _⟩
      · have hn20 : n ≤ 20 := by have := (tvB_iff.1 ht).1; rw [L1.out] at this; exact this
        obtain ⟨i0, hi, hz0, hz1, hz2⟩ := info_parts i64_info
        have HI := Lib.hid hi; have HZ0 := Lib.hid hz0; have HZ1 := Lib.hid hz1; have HZ2 := Lib.hid hz2
        clear hi hz0 hz1 hz2
        generalize hr : frR ts ds long = R
        have HR := Lib.hid hr
        have HT := Lib.hid ht; have HLG := Lib.hid hlg
        clear hr ht
        go_enter Try.func21, Try.ntmps21
        go_wp2_with (first | (go_at_call 33; refine (itv_any _ _ _ _ _ H1.out HN.out).mono ?_; rw [HT.out]; rintro e w' ⟨rfl, rfl⟩) | (go_at_call 32; refine (within_any _ _ _ _).mono ?_; rintro e w' ⟨rfl, rfl⟩))
        go_loopw [8, 30] (fun v i wr => ∃ k : Nat, k ≤ n ∧ i = .int .i64 k ∧ wr.ownsRow (w.heap.size + 1) 3 1 v k (iv (frL ts ds long k)) ∧ KB wr w.heap.size (frK ts ds long k).1 (frK ts ds long k).2 ∧ dTo ds k ∧ Below w.heap.size w wr)
          (fun _ i _ => n - (intOf i).toNat)
        case atStart => exact ⟨0, Nat.zero_le _, rfl, World.ownsRow_nil _ _ _ _, KB.new _ _ _, dTo_0 _, (Below.refl _ _).alloc (Nat.le_refl _) _⟩
        case round =>
          obtain ⟨k, hk, rfl, ho, hkb, hd, hb⟩ := hrel
          by_cases hlt : k < n
          · obtain ⟨b, off, z, rfl, hbl, hz, hc⟩ := H1.out.iv hlt
            obtain ⟨b2, off2, dg, rfl, hbl2, hdg, hc2⟩ := H2.out.iv hlt
            have hc' := (hb.cell (p := ⟨b, off + k, none⟩) hbl).trans hc
            have hc2' := (hb.cell (p := ⟨b2, off2 + k, none⟩) hbl2).trans hc2
            generalize hx : frC ts ds long k = x
            have hsucc := frL_succ ts ds long k
            have HX1 : Hid (frK ts ds long (k + 1) = (kfA (frK ts ds long k).1 (frK ts ds long k).2 z dg long, kfB (frK ts ds long k).1 (frK ts ds long k).2 z dg long)) := by
              rw [← getD_of hz, ← getD_of hdg]; exact Lib.hid rfl
            have HX : Hid (fc (frK ts ds long k).1 (frK ts ds long k).2 z dg = x) := by rw [← hx, ← getD_of hz, ← getD_of hdg]; exact Lib.hid rfl
            have HXC := Lib.hid hx
            have HS := Lib.hid hsucc
            have HOK : Hid (dOk ds k = true → 0 ≤ x) := by rw [← hx]; exact Lib.hid frC_pos
            have HNO : Hid (dOk ds k = false → x = -1) := by rw [← hx]; exact Lib.hid frC_neg
            clear hx hsucc hz hdg hc hc2
            generalize hka : (frK ts ds long k).1 = ka at *
            generalize hkb' : (frK ts ds long k).2 = kb at *
            clear hka hkb'
            obtain ⟨⟨g0, g1⟩, f0, f1⟩ := hkb.cells
            have hgl := hkb.lt
            have HO := Lib.hid ho; have HK := Lib.hid hkb; have HD := Lib.hid hd; have HB := Lib.hid hb
            clear ho hkb hd hb
            go_wp2
            go_still_tail 6, (by kernel_rfl)
            change wpList _ _ _ _ _ wr.drew
            cases hdk : dOk ds k
            · have hxn : x = -1 := HNO.out hdk
              have hxn' : x < 0 := by omega
              have HE : Hid (R = []) := by rw [← HR.out]; exact frR_no4 (by rw [L1.out]; exact hlt) hdk
              clear hxn hdk
              go_wp2_with (first | (go_at_call 15; refine (ifc_any _ _ _ _ _).mono ?_; rw [HX.out]; rintro e w1 ⟨rfl, o1, o2, rfl⟩))
              go_ret
              exact ⟨_, rfl, by rw [HE.out]; exact World.ownsRow_nil _ _ _ _, ((HB.out.drew.alloc (by simp; omega) _).alloc (by simp; omega) _)⟩
            · have hxp : 0 ≤ x := HOK.out hdk
              have HDK := Lib.hid hdk; clear hdk
              go_wp2_with (first
                | (go_at_call 15; refine (ifc_any _ _ _ _ _).mono ?_; rw [HX.out]; rintro e w1 ⟨rfl, o1, o2, rfl⟩)
                | (at_builtin; refine wpList_append1 _ rfl _ _ 33 rfl (w.heap.size + 1) 3 i0 (.int .i64 0) 1 8 Try.underlying33 HI.out HZ0.out HZ1.out HZ2.out rfl (by decide) [.int .i64 x] rfl ?c1 _ k (iv (frL ts ds long k)) _ _ ((HO.out.drew.alloc _).alloc _) rfl rfl _ rfl ?c2 ?c3 ?c4 ?c5 ?_))
              case c1 => intro u hu; simp at hu; subst hu; rfl
              case c2 => simp
              case c3 => simp only [maxLen]; omega
              case c4 => omega
              case c5 => simp; omega
              intro v' w3 ho3 hg3
              have hnb : some w.heap.size ≠ u8.ownBlock := fun e => by have := (HO.out.lt _ e.symm).1; omega
              have hkb3 : KB w3 w.heap.size ka kb := (((HK.out.drew).alloc _).alloc _).grown hg3 hnb
              have hb3 : Below w.heap.size w w3 := ((HB.out.drew.alloc (by simp; omega) _).alloc (by simp; omega) _).grown hg3 (by simp; omega) (fun j hj => by have := (HO.out.lt _ hj).1; omega)
              have hc3 := (hb3.cell (p := ⟨b2, off2 + k, none⟩) hbl2).trans (HB.out.cell (p := ⟨b2, off2 + k, none⟩) hbl2).symm
              obtain ⟨⟨g0', g1'⟩, f0', f1'⟩ := hkb3.cells
              have hgl' := hkb3.lt
              have HO3 := Lib.hid ho3; have HK3 := Lib.hid hkb3; have HB3 := Lib.hid hb3
              clear ho3 hg3 hnb hkb3 hb3
              have hc2'' := hc3.trans hc2'
              clear hc3 hc2'
              generalize hya : kfA ka kb z dg long = ya at *
              generalize hyb : kfB ka kb z dg long = yb at *
              have HYA := Lib.hid hya; have HYB := Lib.hid hyb; clear hya hyb
              go_wp2_with fail
              go_still_tail 7, (by kernel_rfl)
              change wpList _ _ _ _ _ w3.drew
              go_wp2_with fail
              refine (ikf_any _ _ _ _ _ _).mono ?_
              rw [HYA.out, HYB.out]
              rintro e w4 ⟨rfl, p1, p2, p3, p4, hw4⟩
              have hb4 := beld (bel4 hw4)
              clear hw4
              have hk4 := HK3.out.below hb4
              have hgl4 := hk4.lt
              obtain ⟨⟨g04, g14⟩, f04, f14⟩ := hk4.cells
              have HB4 := Lib.hid hb4; have HK4 := Lib.hid hk4
              clear hb4 hk4
              go_wp2
              go_roundw
              case rel =>
                refine ⟨k + 1, by omega, by go_num, ?_, ?_, dTo_succ HD.out HDK.out, ?_⟩
                · rw [HS.out, HXC.out, iv_app]
                  exact ownsRow_setCell_below (ownsRow_setCell_below (own_below HO3.out HB4.out) (by simp) _) (by simp) _
                · rw [HX1.out]
                  exact HK4.out.store _ _
                · exact ((belB HB3.out (by omega) HB4.out).setCell (by simp) _).setCell (by simp) _
              case measure => simp [intOf]; omega
          · obtain rfl : k = n := by omega
            have HO := Lib.hid ho; have HK := Lib.hid hkb; have HD := Lib.hid hd; have HB := Lib.hid hb
            clear ho hkb hd hb
            have HE : Hid (R = frL ts ds long k) := by rw [← HR.out, frR_yes (by rw [L1.out, L2.out]) HT.out HLG.out (by rw [L1.out]; exact HD.out), L1.out]; exact Lib.hid rfl
            go_wp2
            go_ret
            exact ⟨_, rfl, by rw [HE.out, frL_len]; exact own_less HO.out (by omega), HB.out⟩
  · generalize hr : frR ts ds long = R
    have HR : Hid (R = []) := by rw [← hr]; exact frR_no1 (by rw [L1.out, L2.out]; exact hnm)
    have hnm' : ((n : Int) != (m : Int)) = true := by simp; omega
    clear hr hnm
    go_enter Try.func21, Try.ntmps21
    go_wp2
    go_ret
    exact ⟨_, rfl, by rw [HR.out]; exact World.ownsRow_nil _ _ _ _, Below.refl _ _⟩
end Go.Proofs.Ytgbbobpakjlddaa
