/-
  In a drawn region: 'append(append([]T{}, xs[:k]...), xs[k+1:]...)'; beside a table.
-/
import Derived.Test.YtadgmncngkkdnaaTab
import Derived.Test.YtadgmncngkkdnaaAppendAny
namespace Go.Proofs.Ytadgmncngkkdnaa
open Go.ChangeShapes Go.WideShapes Go.ChangeAt Go.RowKit Go.Joins
set_option linter.unusedVariables false

section
variable {N : Nat} {slot : Nat → Nat} {tab : Nat → Value → Prop} {jw : Nat} {v0 : Value} {ja js : Nat} {T : TypeId} {z0 zc : Array Value} {w0 w : World} {f : Nat → Bool} {s : Nat → Value}
theorem TabJ.stepB (h : TabJ N slot tab jw v0 ja js T z0 zc w0 f s w) (inj : ∀ i, i < N → ∀ j, j < N → slot i = slot j → i = j) (i : Nat) (hi : i < N) (hja : ¬ ja < N) {v : Value} {w' : World} (hb : Below w0.heap.size w w') (ht : tab i v) :
    TabJ N slot tab jw v0 ja js T z0 zc w0 (upF f i) (upS s (slot i) v) w' := by
  refine ⟨fun j hj hf => ?_, fun hw hf => ?_, h.below.trans hb, fun ha hf => absurd ha hja⟩
  · by_cases e : j = i
    · subst e; rw [upS_eq]; exact ht
    · rw [upF_ne e] at hf
      rw [upS_ne (fun q => e (inj i hi j hj q).symm)]; exact h.m j hj hf
  · by_cases e : jw = i
    · subst e; rw [upF_eq] at hf; cases hf
    · rw [upF_ne e] at hf
      rw [upS_ne (fun q => e (inj i hi jw hw q).symm)]; exact h.u hw hf
end
structure CutR (B : Nat) (T : TypeId) (sz i0 i1 i2 s0 s1 s2 k m : Nat) (x1 x2 : List Value) (f : Nat → Bool) (s : Nat → Value) (w : World) : Prop where
  big : B ≤ w.heap.size
  r0 : f i0 = true → f i1 = false → w.ownsRow B T sz (s s0) 0 []
  r1 : f i1 = true → f i2 = false → w.ownsRow B T sz (s s1) k x1
  r2 : f i2 = true → w.ownsRow B T sz (s s2) m x2
section
variable {B : Nat} {T : TypeId} {sz i0 i1 i2 s0 s1 s2 k m : Nat} {x1 x2 : List Value} {f : Nat → Bool} {s : Nat → Value} {w w' : World} {v : Value}
theorem CutR.start (h : B ≤ w.heap.size) : CutR B T sz i0 i1 i2 s0 s1 s2 k m x1 x2 (fun _ => false) s w.drew := ⟨h, fun h => by (cases h), fun h => by (cases h), fun h => by (cases h)⟩
theorem CutR.step (h : CutR B T sz i0 i1 i2 s0 s1 s2 k m x1 x2 f s w) (i d : Nat) (hi : i0 ≠ i ∧ i1 ≠ i ∧ i2 ≠ i) (hd : d ≠ s0 ∧ d ≠ s1 ∧ d ≠ s2) (hb : Below w.heap.size w w') : CutR B T sz i0 i1 i2 s0 s1 s2 k m x1 x2 (upF f i) (upS s d v) w' := by
  obtain ⟨a0, a1, a2⟩ := hi
  obtain ⟨b0, b1, b2⟩ := hd
  refine ⟨Nat.le_trans h.big hb.size, ?_, ?_, ?_⟩
  · rw [upF_ne a0, upF_ne a1, upS_ne b0]; exact fun x y => own_below (h.r0 x y) hb
  · rw [upF_ne a1, upF_ne a2, upS_ne b1]; exact fun x y => own_below (h.r1 x y) hb
  · rw [upF_ne a2, upS_ne b2]; exact fun x => own_below (h.r2 x) hb
theorem CutR.step0 (h : CutR B T sz i0 i1 i2 s0 s1 s2 k m x1 x2 f s w) (h1 : f i1 = false) (h2 : f i2 = false) (a1 : i1 ≠ i0) (a2 : i2 ≠ i0) : CutR B T sz i0 i1 i2 s0 s1 s2 k m x1 x2 (upF f i0) (upS s s0 (.slice (some ⟨w.heap.size, 0, none⟩) 0 0)) (w.alloc (.cells #[] T)) := by
  refine ⟨Nat.le_trans h.big (by simp), ?_, ?_, ?_⟩
  · intro _ _; rw [upS_eq]; exact own_less (World.ownsRow_made w #[] 0 (Nat.le_refl _) (by simp) (by simp)) h.big
  · rw [upF_ne a1, h1]; intro e; cases e
  · rw [upF_ne a2, h2]; intro e; cases e
theorem CutR.step1 (h : CutR B T sz i0 i1 i2 s0 s1 s2 k m x1 x2 f s w) (h2 : f i2 = false) (a2 : i2 ≠ i1) (hs : w.heap.size ≤ w'.heap.size) (ho : w'.ownsRow B T sz v k x1) : CutR B T sz i0 i1 i2 s0 s1 s2 k m x1 x2 (upF f i1) (upS s s1 v) w' := by
  refine ⟨Nat.le_trans h.big hs, ?_, ?_, ?_⟩
  · rw [upF_eq]; intro _ e; cases e
  · intro _ _; rw [upS_eq]; exact ho
  · rw [upF_ne a2, h2]; intro e; cases e
theorem CutR.step2 (h : CutR B T sz i0 i1 i2 s0 s1 s2 k m x1 x2 f s w) (h1 : f i1 = true) (a1 : i1 ≠ i2) (hs : w.heap.size ≤ w'.heap.size) (ho : w'.ownsRow B T sz v m x2) : CutR B T sz i0 i1 i2 s0 s1 s2 k m x1 x2 (upF f i2) (upS s s2 v) w' := by
  refine ⟨Nat.le_trans h.big hs, ?_, ?_, ?_⟩
  · rw [upF_ne a1, h1]; intro _ e; cases e
  · rw [upF_eq]; intro _ e; cases e
  · intro _; rw [upS_eq]; exact ho
end
end Go.Proofs.Ytadgmncngkkdnaa
