/-
  A drawn region by a table: every operation yields one known value; callees let old blocks stand; one slot may be read before it is written; one block may be laid and stored.
-/
import Derived.Test.YtpbnbekkmifbpaaDoorRegInv
import Derived.Test.YtpbnbekkmifbpaaDoorMem
import Derived.Test.YtpbnbekkmifbpaaDoorTypedS
namespace Go.Proofs.YtpbnbekkmifbpaaDoor
open Go.ChangeShapes Go.WideShapes Go.ChangeAt Go.RowKit Go.Joins
set_option linter.unusedVariables false

def upF (f : Nat → Bool) (i : Nat) : Nat → Bool := fun j => if j = i then true else f j
def upS (s : Nat → Value) (d : Nat) (v : Value) : Nat → Value := fun t => if (some d : Option Nat) = some t then v else s t
theorem upF_ne {f : Nat → Bool} {i j : Nat} (h : j ≠ i) : upF f i j = f j := by simp [upF, h]
theorem upF_eq (f : Nat → Bool) (i : Nat) : upF f i i = true := by simp [upF]
theorem upS_ne {s : Nat → Value} {d t : Nat} {v : Value} (h : d ≠ t) : upS s d v t = s t := by simp [upS, h]
theorem upS_eq (s : Nat → Value) (d : Nat) (v : Value) : upS s d v d = v := by simp [upS]

structure TabJ (N : Nat) (slot : Nat → Nat) (tab : Nat → Value → Prop) (jw : Nat) (v0 : Value) (ja js : Nat) (T : TypeId) (z0 zc : Array Value) (w0 : World) (f : Nat → Bool) (s : Nat → Value) (w : World) : Prop where
  m : ∀ j, j < N → f j = true → tab j (s (slot j))
  u : jw < N → f jw = false → s (slot jw) = v0
  below : Below w0.heap.size w0 w
  blk : ja < N → f ja = true → ∃ g, s (slot ja) = .pointer (some ⟨g, 0, none⟩) ∧ w0.heap.size ≤ g ∧ Bk w g T (if f js = true then zc else z0)
section
variable {N : Nat} {slot : Nat → Nat} {tab : Nat → Value → Prop} {jw : Nat} {v0 : Value} {ja js : Nat} {T : TypeId} {z0 zc : Array Value} {w0 w : World} {f : Nat → Bool} {s : Nat → Value}
theorem TabJ.start (hu : jw < N → s (slot jw) = v0) : TabJ N slot tab jw v0 ja js T z0 zc w0 (fun _ => false) s w0.drew :=
  ⟨fun j _ h => by (cases h), fun h _ => hu h, (Below.refl _ _).drew, fun _ h => by (cases h)⟩
theorem TabJ.step (h : TabJ N slot tab jw v0 ja js T z0 zc w0 f s w) (inj : ∀ i, i < N → ∀ j, j < N → slot i = slot j → i = j) (i : Nat) (hi : i < N) (hia : i ≠ ja) (his : i ≠ js) {v : Value} {w' : World} (hb : Below w.heap.size w w') (ht : tab i v) :
    TabJ N slot tab jw v0 ja js T z0 zc w0 (upF f i) (upS s (slot i) v) w' := by
  refine ⟨fun j hj hf => ?_, fun hw hf => ?_, belB h.below h.below.size hb, fun ha hf => ?_⟩
  · by_cases e : j = i
    · subst e; rw [upS_eq]; exact ht
    · rw [upF_ne e] at hf
      rw [upS_ne (fun q => e (inj i hi j hj q).symm)]; exact h.m j hj hf
  · by_cases e : jw = i
    · subst e; rw [upF_eq] at hf; cases hf
    · rw [upF_ne e] at hf
      rw [upS_ne (fun q => e (inj i hi jw hw q).symm)]; exact h.u hw hf
  · rw [upF_ne (Ne.symm hia)] at hf
    rw [upF_ne (Ne.symm his), upS_ne (fun q => hia (inj i hi ja ha q))]
    obtain ⟨g, e1, e2, e3⟩ := h.blk ha hf
    exact ⟨g, e1, e2, e3.keep hb⟩
theorem TabJ.pure (h : TabJ N slot tab jw v0 ja js T z0 zc w0 f s w) (inj : ∀ i, i < N → ∀ j, j < N → slot i = slot j → i = j) (i : Nat) (hi : i < N) (hia : i ≠ ja) (his : i ≠ js) {v : Value} (ht : tab i v) :
    TabJ N slot tab jw v0 ja js T z0 zc w0 (upF f i) (upS s (slot i) v) w := h.step inj i hi hia his (Below.refl _ _) ht
theorem TabJ.alloc (h : TabJ N slot tab jw v0 ja js T z0 zc w0 f s w) (inj : ∀ i, i < N → ∀ j, j < N → slot i = slot j → i = j) (ha : ja < N) (hjs : f js = false) (has : ja ≠ js) (hwa : jw ≠ ja) (ht : ∀ v, tab ja v) :
    TabJ N slot tab jw v0 ja js T z0 zc w0 (upF f ja) (upS s (slot ja) (.pointer (some ⟨w.heap.size, 0, none⟩))) (w.alloc (.cells z0 T)) := by
  refine ⟨fun j hj hf => ?_, fun hw hf => ?_, h.below.alloc h.below.size _, fun _ hf => ?_⟩
  · by_cases e : j = ja
    · subst e; exact ht _
    · rw [upF_ne e] at hf
      rw [upS_ne (fun q => e (inj ja ha j hj q).symm)]; exact h.m j hj hf
  · rw [upF_ne hwa] at hf
    rw [upS_ne (fun q => hwa (inj ja ha jw hw q).symm)]; exact h.u hw hf
  · rw [upF_ne (Ne.symm has), upS_eq, hjs]
    exact ⟨w.heap.size, rfl, h.below.size, Bk.new w _ _⟩
theorem TabJ.store (h : TabJ N slot tab jw v0 ja js T z0 zc w0 f s w) (ha : ja < N) (hfa : f ja = true) (has : ja ≠ js) (hws : jw ≠ js) (ht : ∀ v, tab js v) {w' : World} {g : Nat} (e1 : s (slot ja) = .pointer (some ⟨g, 0, none⟩)) (hg : w0.heap.size ≤ g)
    (hk : Bk w' g T zc) (hb : Below g w w') : TabJ N slot tab jw v0 ja js T z0 zc w0 (upF f js) s w' := by
  refine ⟨fun j hj hf => ?_, fun hw hf => ?_, h.below.trans (hb.mono hg), fun _ _ => ?_⟩
  · by_cases e : j = js
    · subst e; exact ht _
    · rw [upF_ne e] at hf; exact h.m j hj hf
  · rw [upF_ne hws] at hf; exact h.u hw hf
  · rw [upF_eq]; exact ⟨g, e1, hg, hk⟩
end
end Go.Proofs.YtpbnbekkmifbpaaDoor
