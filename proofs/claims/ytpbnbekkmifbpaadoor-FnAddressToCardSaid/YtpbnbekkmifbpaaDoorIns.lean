/-
  The region 'append(append(append([]T{}, xs[:k]...), z), xs[k:]...)', whatever the order of its operations: the invariant and its steps.
-/
import Derived.Test.YtpbnbekkmifbpaaDoorTab
import Derived.Test.YtpbnbekkmifbpaaDoorAppendAny
import Derived.Test.YtpbnbekkmifbpaaDoorMem
namespace Go.Proofs.YtpbnbekkmifbpaaDoor
open Go.ChangeShapes Go.WideShapes Go.ChangeAt Go.RowKit Go.Joins
set_option linter.unusedVariables false

structure InsJ (T : TypeId) (sz b B : Nat) (A : Option Addr) (n k c : Nat) (C : Value → Prop) (zv : Value) (cz x1 x2 : List Value) (w0 : World) (f : Nat → Bool) (s : Nat → Value) (w : World) : Prop where
  m1 : f 1 = true → s (b + 1) = .slice A n c
  m2 : f 2 = true → s (b + 2) = .int .i64 k
  m3 : f 3 = true → s (b + 3) = .slice A k c
  m5 : f 5 = true → s (b + 5) = zv
  m8 : f 8 = true → s (b + 8) = .slice A n c
  m9 : f 9 = true → s (b + 9) = .int .i64 k
  m10 : f 10 = true → C (s (b + 10))
  below : Below B w0 w
  r0 : f 0 = true → f 4 = false → w.ownsRow B T sz (s b) 0 []
  r4 : f 4 = true → f 7 = false → w.ownsRow B T sz (s (b + 4)) k x1
  r6 : f 6 = true → f 7 = false → ∃ g, s (b + 6) = .slice (some ⟨g, 0, none⟩) 1 1 ∧ B ≤ g ∧ Bk w g T cz.toArray ∧ (f 0 = true → f 4 = false → some g ≠ (s b).ownBlock) ∧ (f 4 = true → some g ≠ (s (b + 4)).ownBlock)
  r7 : f 7 = true → f 11 = false → w.ownsRow B T sz (s (b + 7)) (k + 1) (x1 ++ cz)
  r11 : f 11 = true → w.ownsRow B T sz (s (b + 11)) (k + 1 + (n - k)) (x1 ++ cz ++ x2)
  r12 : f 12 = true → s 7 = s (b + 11)
section
variable {T : TypeId} {sz b B n k c : Nat} {A : Option Addr} {C : Value → Prop} {zv : Value} {cz x1 x2 : List Value} {w0 w : World} {f : Nat → Bool} {s : Nat → Value}
theorem InsJ.start (hB : B ≤ w.heap.size) (h : Below B w0 w) : InsJ T sz b B A n k c C zv cz x1 x2 w0 (fun _ => false) s w := by
  refine ⟨?_, ?_, ?_, ?_, ?_, ?_, ?_, h, ?_, ?_, ?_, ?_, ?_, ?_⟩ <;> intro h <;> cases h
set_option maxHeartbeats 1000000 in
/-- An operation that turns no world and yields one known value. -/
theorem InsJ.pure (i d : Nat) (v : Value) (h : InsJ T sz b B A n k c C zv cz x1 x2 w0 f s w) (hb : 8 ≤ b) (hd : (i ≠ 12 ∧ d = b + i) ∨ (i = 12 ∧ d = 7)) (hi : i = 1 ∨ i = 2 ∨ i = 3 ∨ i = 5 ∨ i = 8 ∨ i = 9 ∨ i = 10 ∨ i = 12)
    (h1 : i = 1 → v = .slice A n c) (h2 : i = 2 → v = .int .i64 k) (h3 : i = 3 → v = .slice A k c) (h5 : i = 5 → v = zv) (h8 : i = 8 → v = .slice A n c) (h9 : i = 9 → v = .int .i64 k) (h10 : i = 10 → C v) (h12 : i = 12 → v = s (b + 11)) :
    InsJ T sz b B A n k c C zv cz x1 x2 w0 (upF f i) (upS s d v) w := by
  obtain ⟨i0, i4, i6, i7, i11, i12⟩ : i ≠ 0 ∧ i ≠ 4 ∧ i ≠ 6 ∧ i ≠ 7 ∧ i ≠ 11 ∧ i ≤ 12 := by omega
  clear hi
  have hdb : ∀ j, j ≤ 11 → j ≠ i → d ≠ b + j := by
    intro j hj hji
    rcases hd with ⟨hq, hd⟩ | ⟨hq, hd⟩ <;> omega
  have hde : ∀ j, j ≤ 11 → j = i → b + j = d := by
    intro j hj hji
    rcases hd with ⟨hq, hd⟩ | ⟨hq, hd⟩ <;> omega
  have hd7 : i = 12 → (7 : Nat) = d := by
    intro e
    rcases hd with ⟨hq, hd⟩ | ⟨hq, hd⟩
    · exact absurd e hq
    · exact hd.symm
  have n0 : upF f i 0 = f 0 := upF_ne (Ne.symm i0)
  have n4 : upF f i 4 = f 4 := upF_ne (Ne.symm i4)
  have n6 : upF f i 6 = f 6 := upF_ne (Ne.symm i6)
  have n7 : upF f i 7 = f 7 := upF_ne (Ne.symm i7)
  have n11 : upF f i 11 = f 11 := upF_ne (Ne.symm i11)
  have s0 : upS s d v b = s b := upS_ne (hdb 0 (by decide) (Ne.symm i0))
  have s4 : upS s d v (b + 4) = s (b + 4) := upS_ne (hdb 4 (by decide) (Ne.symm i4))
  have s6 : upS s d v (b + 6) = s (b + 6) := upS_ne (hdb 6 (by decide) (Ne.symm i6))
  have s7 : upS s d v (b + 7) = s (b + 7) := upS_ne (hdb 7 (by decide) (Ne.symm i7))
  have s11 : upS s d v (b + 11) = s (b + 11) := upS_ne (hdb 11 (by decide) (Ne.symm i11))
  have one : ∀ j, j ≤ 11 → upF f i j = true → (i = j ∧ upS s d v (b + j) = v) ∨ (f j = true ∧ upS s d v (b + j) = s (b + j)) := by
    intro j hj hf
    by_cases e : j = i
    · refine .inl ⟨e.symm, ?_⟩
      rw [hde j hj e, upS_eq]
    · rw [upF_ne e] at hf
      exact .inr ⟨hf, upS_ne (hdb j hj e)⟩
  refine ⟨?_, ?_, ?_, ?_, ?_, ?_, ?_, h.below, ?_, ?_, ?_, ?_, ?_, ?_⟩
  · intro hf; exact (one 1 (by omega) hf).elim (fun e => by rw [e.2]; exact h1 e.1) (fun e => by rw [e.2]; exact h.m1 e.1)
  · intro hf; exact (one 2 (by omega) hf).elim (fun e => by rw [e.2]; exact h2 e.1) (fun e => by rw [e.2]; exact h.m2 e.1)
  · intro hf; exact (one 3 (by omega) hf).elim (fun e => by rw [e.2]; exact h3 e.1) (fun e => by rw [e.2]; exact h.m3 e.1)
  · intro hf; exact (one 5 (by omega) hf).elim (fun e => by rw [e.2]; exact h5 e.1) (fun e => by rw [e.2]; exact h.m5 e.1)
  · intro hf; exact (one 8 (by omega) hf).elim (fun e => by rw [e.2]; exact h8 e.1) (fun e => by rw [e.2]; exact h.m8 e.1)
  · intro hf; exact (one 9 (by omega) hf).elim (fun e => by rw [e.2]; exact h9 e.1) (fun e => by rw [e.2]; exact h.m9 e.1)
  · intro hf; exact (one 10 (by omega) hf).elim (fun e => by rw [e.2]; exact h10 e.1) (fun e => by rw [e.2]; exact h.m10 e.1)
  · rw [n0, n4, s0]; exact h.r0
  · rw [n4, n7, s4]; exact h.r4
  · rw [n6, n7, n0, n4, s0, s4, s6]; exact h.r6
  · rw [n7, n11, s7]; exact h.r7
  · rw [n11, s11]; exact h.r11
  · intro hf
    rw [s11]
    by_cases e : i = 12
    · rw [hd7 e, upS_eq]; exact h12 e
    · rw [upF_ne (Ne.symm e)] at hf
      rw [upS_ne (by rcases hd with ⟨hq, hd⟩ | ⟨hq, hd⟩ <;> omega)]; exact h.r12 hf
/-- What stands when the operations on the row are at hand. -/
theorem InsJ.step0 (h : InsJ T sz b B A n k c C zv cz x1 x2 w0 f s w) (hb : 8 ≤ b) (hB : B ≤ w.heap.size) (h4 : f 4 = false) (h7 : f 7 = false) (h11 : f 11 = false) :
    InsJ T sz b B A n k c C zv cz x1 x2 w0 (upF f 0) (upS s b (.slice (some ⟨w.heap.size, 0, none⟩) 0 0)) (w.alloc (.cells #[] T)) := by
  have F : ∀ j, j ≠ 0 → upF f 0 j = f j := fun j hj => upF_ne hj
  have S : ∀ j, j ≠ 0 → upS s b (.slice (some ⟨w.heap.size, 0, none⟩) 0 0) (b + j) = s (b + j) := fun j hj => upS_ne (by omega)
  have S7 : upS s b (.slice (some ⟨w.heap.size, 0, none⟩) 0 0) 7 = s 7 := upS_ne (by omega)
  refine ⟨?_, ?_, ?_, ?_, ?_, ?_, ?_, h.below.alloc hB _, ?_, ?_, ?_, ?_, ?_, ?_⟩
  · rw [F 1 (by omega), S 1 (by omega)]; exact h.m1
  · rw [F 2 (by omega), S 2 (by omega)]; exact h.m2
  · rw [F 3 (by omega), S 3 (by omega)]; exact h.m3
  · rw [F 5 (by omega), S 5 (by omega)]; exact h.m5
  · rw [F 8 (by omega), S 8 (by omega)]; exact h.m8
  · rw [F 9 (by omega), S 9 (by omega)]; exact h.m9
  · rw [F 10 (by omega), S 10 (by omega)]; exact h.m10
  · intro _ _
    rw [upS_eq]
    exact own_less (World.ownsRow_made w #[] 0 (Nat.le_refl _) (by simp) (by simp)) hB
  · rw [F 4 (by omega), h4]; intro e; cases e
  · rw [F 6 (by omega), F 7 (by omega), S 6 (by omega), upS_eq]
    intro h6 _
    obtain ⟨g, e1, e2, e3, _, _⟩ := h.r6 h6 h7
    refine ⟨g, e1, e2, e3.alloc _, fun _ _ e => ?_, ?_⟩
    · have := e3.lt; simp [Value.ownBlock] at e; omega
    · rw [F 4 (by omega), h4]; intro e; cases e
  · rw [F 7 (by omega), h7]; intro e; cases e
  · rw [F 11 (by omega), h11]; intro e; cases e
  · rw [F 12 (by omega), S7, S 11 (by omega)]; exact h.r12
theorem InsJ.step6 (h : InsJ T sz b B A n k c C zv cz x1 x2 w0 f s w) (hb : 8 ≤ b) (hB : B ≤ w.heap.size) (h7 : f 7 = false) (h11 : f 11 = false) :
    InsJ T sz b B A n k c C zv cz x1 x2 w0 (upF f 6) (upS s (b + 6) (.slice (some ⟨w.heap.size, 0, none⟩) 1 1)) (w.alloc (.cells cz.toArray T)) := by
  have F : ∀ j, j ≠ 6 → upF f 6 j = f j := fun j hj => upF_ne hj
  have S : ∀ j, j ≠ 6 → upS s (b + 6) (.slice (some ⟨w.heap.size, 0, none⟩) 1 1) (b + j) = s (b + j) := fun j hj => upS_ne (by omega)
  have S0 : upS s (b + 6) (.slice (some ⟨w.heap.size, 0, none⟩) 1 1) b = s b := upS_ne (by omega)
  have S7 : upS s (b + 6) (.slice (some ⟨w.heap.size, 0, none⟩) 1 1) 7 = s 7 := upS_ne (by omega)
  refine ⟨?_, ?_, ?_, ?_, ?_, ?_, ?_, h.below.alloc hB _, ?_, ?_, ?_, ?_, ?_, ?_⟩
  · rw [F 1 (by omega), S 1 (by omega)]; exact h.m1
  · rw [F 2 (by omega), S 2 (by omega)]; exact h.m2
  · rw [F 3 (by omega), S 3 (by omega)]; exact h.m3
  · rw [F 5 (by omega), S 5 (by omega)]; exact h.m5
  · rw [F 8 (by omega), S 8 (by omega)]; exact h.m8
  · rw [F 9 (by omega), S 9 (by omega)]; exact h.m9
  · rw [F 10 (by omega), S 10 (by omega)]; exact h.m10
  · rw [F 0 (by omega), F 4 (by omega), S0]; exact fun a b => (h.r0 a b).alloc _
  · rw [F 4 (by omega), F 7 (by omega), S 4 (by omega)]; exact fun a b => (h.r4 a b).alloc _
  · intro _ _
    rw [upS_eq, F 0 (by omega), F 4 (by omega), S0, S 4 (by omega)]
    refine ⟨w.heap.size, rfl, hB, Bk.new w T _, fun a b e => ?_, fun a e => ?_⟩
    · have := ((h.r0 a b).lt _ e.symm).2; omega
    · have := ((h.r4 a h7).lt _ e.symm).2; omega
  · rw [F 7 (by omega), h7]; intro e; cases e
  · rw [F 11 (by omega), h11]; intro e; cases e
  · rw [F 12 (by omega), S7, S 11 (by omega)]; exact h.r12
theorem InsJ.step4 (h : InsJ T sz b B A n k c C zv cz x1 x2 w0 f s w) (hb : 8 ≤ b) (hB : B ≤ w.heap.size) (h0 : f 0 = true) (h4 : f 4 = false) (h7 : f 7 = false) (h11 : f 11 = false) {v : Value} {w' : World}
    (ho : w'.ownsRow B T sz v k x1) (hg : w.grownBy w' (s b).ownBlock) (ha : v.ownBlock = (s b).ownBlock ∨ v.ownBlock = some w.heap.size) :
    InsJ T sz b B A n k c C zv cz x1 x2 w0 (upF f 4) (upS s (b + 4) v) w' := by
  have F : ∀ j, j ≠ 4 → upF f 4 j = f j := fun j hj => upF_ne hj
  have S : ∀ j, j ≠ 4 → upS s (b + 4) v (b + j) = s (b + j) := fun j hj => upS_ne (by omega)
  have S7 : upS s (b + 4) v 7 = s 7 := upS_ne (by omega)
  have hr := h.r0 h0 h4
  refine ⟨?_, ?_, ?_, ?_, ?_, ?_, ?_, h.below.grown hg hB (fun g hgg => (hr.lt g hgg).1), ?_, ?_, ?_, ?_, ?_, ?_⟩
  · rw [F 1 (by omega), S 1 (by omega)]; exact h.m1
  · rw [F 2 (by omega), S 2 (by omega)]; exact h.m2
  · rw [F 3 (by omega), S 3 (by omega)]; exact h.m3
  · rw [F 5 (by omega), S 5 (by omega)]; exact h.m5
  · rw [F 8 (by omega), S 8 (by omega)]; exact h.m8
  · rw [F 9 (by omega), S 9 (by omega)]; exact h.m9
  · rw [F 10 (by omega), S 10 (by omega)]; exact h.m10
  · intro _ e; rw [upF_eq] at e; cases e
  · intro _ _; rw [upS_eq]; exact ho
  · rw [F 6 (by omega), F 7 (by omega), S 6 (by omega), upS_eq]
    intro h6 _
    obtain ⟨g, e1, e2, e3, e4, _⟩ := h.r6 h6 h7
    have hne := e4 h0 h4
    refine ⟨g, e1, e2, e3.grown hg hne, fun _ e => ?_, fun _ => ?_⟩
    · rw [upF_eq] at e; cases e
    · rcases ha with e | e
      · rw [e]; exact hne
      · rw [e]; intro e'; injection e' with e'; have := e3.lt; omega
  · rw [F 7 (by omega), h7]; intro e; cases e
  · rw [F 11 (by omega), h11]; intro e; cases e
  · rw [F 12 (by omega), S7, S 11 (by omega)]; exact h.r12
theorem InsJ.step7 (h : InsJ T sz b B A n k c C zv cz x1 x2 w0 f s w) (hb : 8 ≤ b) (hB : B ≤ w.heap.size) (h4 : f 4 = true) (h7 : f 7 = false) (h11 : f 11 = false) {v : Value} {w' : World}
    (ho : w'.ownsRow B T sz v (k + 1) (x1 ++ cz)) (hg : w.grownBy w' (s (b + 4)).ownBlock) :
    InsJ T sz b B A n k c C zv cz x1 x2 w0 (upF f 7) (upS s (b + 7) v) w' := by
  have F : ∀ j, j ≠ 7 → upF f 7 j = f j := fun j hj => upF_ne hj
  have S : ∀ j, j ≠ 7 → upS s (b + 7) v (b + j) = s (b + j) := fun j hj => upS_ne (by omega)
  have S7 : upS s (b + 7) v 7 = s 7 := upS_ne (by omega)
  have hr := h.r4 h4 h7
  refine ⟨?_, ?_, ?_, ?_, ?_, ?_, ?_, h.below.grown hg hB (fun g hgg => (hr.lt g hgg).1), ?_, ?_, ?_, ?_, ?_, ?_⟩
  · rw [F 1 (by omega), S 1 (by omega)]; exact h.m1
  · rw [F 2 (by omega), S 2 (by omega)]; exact h.m2
  · rw [F 3 (by omega), S 3 (by omega)]; exact h.m3
  · rw [F 5 (by omega), S 5 (by omega)]; exact h.m5
  · rw [F 8 (by omega), S 8 (by omega)]; exact h.m8
  · rw [F 9 (by omega), S 9 (by omega)]; exact h.m9
  · rw [F 10 (by omega), S 10 (by omega)]; exact h.m10
  · rw [F 4 (by omega), h4]; intro _ e; cases e
  · intro _ e; rw [upF_eq] at e; cases e
  · intro _ e; rw [upF_eq] at e; cases e
  · intro _ _; rw [upS_eq]; exact ho
  · rw [F 11 (by omega), h11]; intro e; cases e
  · rw [F 12 (by omega), S7, S 11 (by omega)]; exact h.r12
theorem InsJ.step11 (h : InsJ T sz b B A n k c C zv cz x1 x2 w0 f s w) (hb : 8 ≤ b) (hB : B ≤ w.heap.size) (h4 : f 4 = true) (h7 : f 7 = true) (h11 : f 11 = false) (h12 : f 12 = false) {v : Value} {w' : World}
    (ho : w'.ownsRow B T sz v (k + 1 + (n - k)) (x1 ++ cz ++ x2)) (hg : w.grownBy w' (s (b + 7)).ownBlock) :
    InsJ T sz b B A n k c C zv cz x1 x2 w0 (upF f 11) (upS s (b + 11) v) w' := by
  have F : ∀ j, j ≠ 11 → upF f 11 j = f j := fun j hj => upF_ne hj
  have S : ∀ j, j ≠ 11 → upS s (b + 11) v (b + j) = s (b + j) := fun j hj => upS_ne (by omega)
  have hr := h.r7 h7 h11
  refine ⟨?_, ?_, ?_, ?_, ?_, ?_, ?_, h.below.grown hg hB (fun g hgg => (hr.lt g hgg).1), ?_, ?_, ?_, ?_, ?_, ?_⟩
  · rw [F 1 (by omega), S 1 (by omega)]; exact h.m1
  · rw [F 2 (by omega), S 2 (by omega)]; exact h.m2
  · rw [F 3 (by omega), S 3 (by omega)]; exact h.m3
  · rw [F 5 (by omega), S 5 (by omega)]; exact h.m5
  · rw [F 8 (by omega), S 8 (by omega)]; exact h.m8
  · rw [F 9 (by omega), S 9 (by omega)]; exact h.m9
  · rw [F 10 (by omega), S 10 (by omega)]; exact h.m10
  · rw [F 4 (by omega), h4]; intro _ e; cases e
  · rw [F 7 (by omega), h7]; intro _ e; cases e
  · rw [F 7 (by omega), h7]; intro _ e; cases e
  · intro _ e; rw [upF_eq] at e; cases e
  · intro _; rw [upS_eq]; exact ho
  · rw [F 12 (by omega), h12]; intro e; cases e
end
end Go.Proofs.YtpbnbekkmifbpaaDoor
