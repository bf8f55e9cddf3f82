/-
  HostRun: what it computes; the contract of the program's.
-/
import Derived.Test.YtkdpambhdjinjaaHost2
import Derived.Test.YtkdpambhdjinjaaTimes
import Derived.Test.YtkdpambhdjinjaaBoolS
namespace Go.Proofs.Ytkdpambhdjinjaa
open Go.ChangeShapes Go.WideShapes Go.ChangeAt Go.RowKit Go.Joins
set_option linter.unusedVariables false

structure HS where
  f : Int
  u : Int
  m : Int
/-- One time. -/
def hrStep (s : ByteArray) (p : HS) (t : Int) (g : Bool) : HS := if mtB s p.f p.u t = true then ⟨stF p.f g, stU p.f t g, p.m + 1⟩ else p
def hrS (s : ByteArray) (f u : Int) (ts : List Int) (gs : List Bool) : Nat → HS
  | 0 => ⟨f, u, 0⟩
  | k + 1 => hrStep s (hrS s f u ts gs k) (ts.getD k 0) (gs.getD k false)
def hrV (s : ByteArray) (f u : Int) (ts : List Int) (gs : List Bool) : Bool := hvB s f u && (ts.length == gs.length) && tvB ts
def hrW (s : ByteArray) (f u : Int) (ts : List Int) (gs : List Bool) : ByteArray := if hrV s f u ts gs = true then s else ⟨#[]⟩
def hrR (s : ByteArray) (f u : Int) (ts : List Int) (gs : List Bool) : HS := if hrV s f u ts gs = true then hrS s f u ts gs ts.length else ⟨0, 0, -1⟩
theorem hrS_m (s : ByteArray) (f u : Int) (ts : List Int) (gs : List Bool) (k : Nat) : 0 ≤ (hrS s f u ts gs k).m ∧ (hrS s f u ts gs k).m ≤ k := by
  induction k with
  | zero => simp [hrS]
  | succ k ih =>
    simp only [hrS, hrStep]
    split
    · simp only; omega
    · omega
theorem hr_no {s : ByteArray} {f u : Int} {ts : List Int} {gs : List Bool} (h : hrV s f u ts gs = false) : hrW s f u ts gs = ⟨#[]⟩ ∧ hrR s f u ts gs = ⟨0, 0, -1⟩ := by simp [hrW, hrR, h]
theorem hr_yes {s : ByteArray} {f u : Int} {ts : List Int} {gs : List Bool} (h : hrV s f u ts gs = true) : hrW s f u ts gs = s ∧ hrR s f u ts gs = hrS s f u ts gs ts.length := by simp [hrW, hrR, h]
theorem hrV_no1 {s : ByteArray} {f u : Int} {ts : List Int} {gs : List Bool} (h : hvB s f u = false) : hrV s f u ts gs = false := by simp [hrV, h]
theorem hrV_no2 {s : ByteArray} {f u : Int} {ts : List Int} {gs : List Bool} (h : ts.length ≠ gs.length) : hrV s f u ts gs = false := by simp [hrV, h]
theorem hrV_no3 {s : ByteArray} {f u : Int} {ts : List Int} {gs : List Bool} (h : tvB ts = false) : hrV s f u ts gs = false := by simp [hrV, h]
theorem hrV_yes {s : ByteArray} {f u : Int} {ts : List Int} {gs : List Bool} (h1 : hvB s f u = true) (h2 : ts.length = gs.length) (h3 : tvB ts = true) : hrV s f u ts gs = true := by rw [hrV, h1, h3, h2]; simp
theorem getB_of {ts : List Bool} {k : Nat} {z : Bool} (h : ts[k]? = some z) : ts.getD k false = z := by simp [h]
theorem mt_hv {s : ByteArray} {f u now : Int} (h : mtB s f u now = true) : hvB s f u = true := by simp [mtB] at h; exact h.1
theorem tOk_wi {ts : List Int} {k : Nat} {z : Int} (h : tOk ts k = true) (hz : ts[k]? = some z) : wi z 0 1000000 = true := by
  unfold tOk at h; rw [getD_of hz] at h; simp at h; exact h.1

/-- Block g is a host. -/
def SB (w : World) (g : Nat) (s : ByteArray) (f u : Int) : Prop := w.heap[g]? = some (.cells #[.string s, .int .i64 f, .int .i64 u] 26 (0, 0))
section
variable {w w' : World} {g : Nat} {s : ByteArray} {f u : Int}
theorem SB.lt (h : SB w g s f u) : g < w.heap.size := (Array.getElem?_eq_some_iff.1 h).1
theorem SB.new (W : World) (s : ByteArray) (f u : Int) (hg : g = W.heap.size) : SB (W.alloc (.cells #[.string s, .int .i64 f, .int .i64 u] 26)) g s f u := new_blk W _ hg
theorem SB.alloc (h : SB w g s f u) (o : Obj) : SB (w.alloc o) g s f u := (Below.heap_alloc w o g h.lt).trans h
theorem SB.drew (h : SB w g s f u) : SB w.drew g s f u := h
theorem SB.cells (h : SB w g s f u) : (w.cell? ⟨g, 0, none⟩ = some (.string s) ∧ w.cell? ⟨g, 1, none⟩ = some (.int .i64 f) ∧ w.cell? ⟨g, 2, none⟩ = some (.int .i64 u)) ∧ w.frozen? ⟨g, 0, none⟩ = false ∧ w.frozen? ⟨g, 1, none⟩ = false ∧ w.frozen? ⟨g, 2, none⟩ = false := by
  unfold SB at h; refine ⟨⟨?_, ?_, ?_⟩, ?_, ?_, ?_⟩ <;> simp [World.cell?, World.frozen?, h]
theorem SB.store (h : SB w g s f u) (s' : ByteArray) (f' u' : Int) : SB (((w.setCell ⟨g, 0, none⟩ (.string s')).setCell ⟨g, 1, none⟩ (.int .i64 f')).setCell ⟨g, 2, none⟩ (.int .i64 u')) g s' f' u' := by
  unfold SB at h ⊢
  simp [World.setCell, Array.getElem?_modify, h]
theorem SB.far (h : SB w g s f u) {p : Addr} (hp : g ≠ p.block) (v : Value) : SB (w.setCell p v) g s f u := (Below.heap_setCell w p v g hp).trans h
theorem SB.below (h : SB w g s f u) (hg : Below w.heap.size w w') : SB w' g s f u := (hg.block g h.lt).trans h
theorem SB.below' {B : Nat} {a : World} (h : SB a g s f u) (hB : g < B) (hg : Below B a w') : SB w' g s f u := (hg.block g hB).trans h
end

theorem imt_b (s : ByteArray) (f u now : Int) (w : World) (hs : s.size ≤ maxLen) :
    Calls Try.prog 16 #[sv s f u, .int .i64 now] w fun e w' => e = .returned (.bool (mtB s f u now)) ∧ Below w.heap.size w w' :=
  (imt_any s f u now w hs).mono fun e w' ⟨he, o1, o2, hw⟩ => ⟨he, bel2 hw⟩
theorem smt_b (s : ByteArray) (f u now : Int) (w : World) (hs : s.size ≤ maxLen) :
    Calls Try.prog 15 #[sv s f u, .int .i64 now] w fun e w' => e = .returned (.bool (mtB s f u now)) ∧ Below w.heap.size w w' :=
  (smt_any s f u now w hs).mono fun e w' ⟨he, o1, o2, hw⟩ => ⟨he, bel2 hw⟩
theorem ist_b (s : ByteArray) (f u now : Int) (good : Bool) (w : World) (hs : s.size ≤ maxLen) (h : stV s f u now = true) :
    Calls Try.prog 21 #[sv s f u, .int .i64 now, .bool good] w fun e w' => e = .returned (sv s (stF f good) (stU f now good)) ∧ Below w.heap.size w w' := by
  cases good
  · exact (ist_bad s f u now w hs h).mono fun e w' ⟨he, o1, o2, o3, hw⟩ => ⟨he, bel3 hw⟩
  · exact (ist_good s f u now w hs h).mono fun e w' ⟨he, o1, o2, o3, hw⟩ => ⟨he, bel3 hw⟩
theorem sst_b (s : ByteArray) (f u now : Int) (good : Bool) (w : World) (hs : s.size ≤ maxLen) (h : stV s f u now = true) :
    Calls Try.prog 20 #[sv s f u, .int .i64 now, .bool good] w fun e w' => e = .returned (sv s (stF f good) (stU f now good)) ∧ Below w.heap.size w w' := by
  cases good
  · exact (sst_bad s f u now w hs h).mono fun e w' ⟨he, o1, o2, o3, o4, hw⟩ => ⟨he, bel4 hw⟩
  · exact (sst_good s f u now w hs h).mono fun e w' ⟨he, o1, o2, o3, hw⟩ => ⟨he, bel3 hw⟩
theorem ihv_b (s : ByteArray) (f u : Int) (w : World) (hs : s.size ≤ maxLen) :
    Calls Try.prog 14 #[sv s f u] w fun e w' => e = .returned (.bool (hvB s f u)) ∧ Below w.heap.size w w' :=
  (ihv_any s f u w hs).mono fun e w' ⟨he, hw⟩ => ⟨he, bel1 hw⟩
theorem shv_b (s : ByteArray) (f u : Int) (w : World) (hs : s.size ≤ maxLen) :
    Calls Try.prog 12 #[sv s f u] w fun e w' => e = .returned (.bool (hvB s f u)) ∧ Below w.heap.size w w' :=
  (shv_any s f u w hs).mono fun e w' ⟨he, hw⟩ => ⟨he, bel1 hw⟩

set_option maxHeartbeats 2000000 in
theorem ihr_no (s : ByteArray) (f u : Int) (A B : Option Addr) (n c m d : Nat) (ts : List Int) (gs : List Bool) (w : World) (hs : s.size ≤ maxLen) (h1 : Rd w 1 A n (iv ts)) (h2 : Rd w 1 B m (bvs gs)) (hn : n ≤ 1048576) (hv : hrV s f u ts gs = false) :
    Calls Try.prog 25 #[sv s f u, .slice A n c, .slice B m d] w fun e w' => e = .returned (.tuple #[sv ⟨#[]⟩ 0 0, .int .i64 (-1)]) ∧ Below w.heap.size w w' := by
  have hl1 := rd_ilen h1; have hl2 := rd_blen h2
  have H1 := Lib.hid h1; have L1 := Lib.hid hl1; have L2 := Lib.hid hl2; have HN := Lib.hid hn; have HS := Lib.hid hs; have HV := Lib.hid hv
  clear h1 h2 hl1 hl2 hn hs hv
  have HR0 : Hid (SB ((w.alloc (.cells #[.string s, .int .i64 f, .int .i64 u] 26)).alloc (.cells #[.string ⟨#[]⟩, .int .i64 0, .int .i64 0] 26)) (w.heap.size + 1) ⟨#[]⟩ 0 0) := Lib.hid (SB.new _ _ _ _ (by simp))
  go_enter Try.func25, Try.ntmps25
  go_wp2_with fail
  refine (ihv_b _ _ _ _ HS.out).mono ?_
  rintro e w1 ⟨rfl, hb1⟩
  have hr1 := HR0.out.below hb1
  have HB1 : Hid (Below w.heap.size w w1) := Lib.hid ((((Below.refl _ _).alloc (Nat.le_refl _) _).alloc (by simp) _).trans (hb1.mono (by simp; omega)))
  obtain ⟨⟨g0, g1, g2⟩, f0, f1, f2⟩ := hr1.cells
  have hgl := hr1.lt
  clear hb1 hr1
  cases hh : hvB s f u
  · go_wp2_with fail
    exact bodyPost_ret (v := .tuple #[sv ⟨#[]⟩ 0 0, .int .i64 (-1)]) (by simp [results, Try.results25, go_sem, g0, g1, g2, f0, f1, f2, hgl]) rfl ⟨rfl, ((HB1.out.setCell (by simp) _).setCell (by simp) _).setCell (by simp) _⟩
  · by_cases hnm : n = m
    · subst hnm
      have ht : tvB ts = false := by
        cases ht : tvB ts
        · rfl
        · rw [hrV_yes hh (by rw [L1.out, L2.out]) ht] at HV; exact absurd HV.out (by simp)
      have HT := Lib.hid ht; clear ht
      go_wp2_with (go_at_call 39; refine (itv_any _ _ _ _ _ ((H1.out.below HB1.out)) HN.out).mono ?_; rw [HT.out]; rintro e w' ⟨rfl, rfl⟩)
      exact bodyPost_ret (v := .tuple #[sv ⟨#[]⟩ 0 0, .int .i64 (-1)]) (by simp [results, Try.results25, go_sem, g0, g1, g2, f0, f1, f2, hgl]) rfl ⟨rfl, ((HB1.out.setCell (by simp) _).setCell (by simp) _).setCell (by simp) _⟩
    · have hnm' : ((n : Int) != (m : Int)) = true := by simp; omega
      clear hnm
      go_wp2_with fail
      exact bodyPost_ret (v := .tuple #[sv ⟨#[]⟩ 0 0, .int .i64 (-1)]) (by simp [results, Try.results25, go_sem, g0, g1, g2, f0, f1, f2, hgl]) rfl ⟨rfl, ((HB1.out.setCell (by simp) _).setCell (by simp) _).setCell (by simp) _⟩
end Go.Proofs.Ytkdpambhdjinjaa
