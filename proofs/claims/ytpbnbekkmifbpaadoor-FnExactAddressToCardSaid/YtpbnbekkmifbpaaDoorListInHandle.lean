/-
  Lists of Handle that came in.
-/
import Derived.Test.YtpbnbekkmifbpaaDoorListHandle
import Derived.OpenShut
import Derived.Deep.Slices
import Derived.Deep.Fields
import Derived.ChangeSame
namespace Go.Proofs.YtpbnbekkmifbpaaDoor
open Go.ChangeShapes Go.WideShapes Go.ChangeAt Go.RowKit Go.Joins Go.Deep
set_option linter.unusedVariables false

section
variable {H : Type} {enc : TypeId × Value → H} {P : Program} {w : World} {base : Nat} {spare : Nat → Bool} {held : Bool}
theorem open_slice_fields_ha {t e : TypeId} {fs : Array Field} {fuel : Nat} {cs : List Value} {x : DataW H × List MemPlace} (ht : P.underlying t = some (.slice e)) (he : P.underlying e = some (.struct fs))
    (hone : oneCellFields P fs = true) (hC : P.cellsOf e = fs.size) (h : DataW.trod enc P w base spare held fuel t cs = some x) :
    (cs = [.slice none 0 0] ∧ x = (.nil, [])) ∨
    ∃ (a : Addr) (len cap m : Nat) (D : Nat → DataW H) (Pl : Nat → List MemPlace), cs = [.slice (some a) len cap] ∧ base ≤ a.block ∧ len ≤ cap ∧ cap ≤ maxLen ∧ m = (if spare a.block then cap else len) ∧
      x = (.slice ((List.range len).map D) ((List.range (m - len)).map fun j => D (len + j)), MemPlace.row a (m * fs.size) ++ (List.range m).flatMap Pl) ∧
      ∀ i, i < m → ∃ (ys : List (DataW H × List MemPlace)) (n : Nat), D i = .agg (ys.map (·.1)) ∧ Pl i = ys.flatMap (·.2) ∧ ys.length = fs.size ∧
        ∀ (j : Nat) (f : Field), fs[j]? = some f → ∃ (v : Value) (y : DataW H × List MemPlace), w.cell? (a.add (i * fs.size + j)) = some v ∧ ys[j]? = some y ∧ DataW.trod enc P w base spare held n f.type [v] = some y := by
  rcases open_slice ht h with h0 | ⟨a, len, cap, m, n, D, Pl, hcs, hb, hl, hm, hmm, hx, hi⟩
  · exact .inl h0
  · refine .inr ⟨a, len, cap, m, D, Pl, hcs, hb, hl, hm, hmm, by rw [hC] at hx; exact hx, fun i him => ?_⟩
    obtain ⟨cs', hc, ht'⟩ := hi i him
    rw [hC] at hc
    obtain ⟨ys, n', hn', hy, hlen, hyl, hf⟩ := DataW.trod_struct he ht'
    obtain ⟨_, hcl, hat⟩ := World.cells?_some hc
    simp only [Prod.mk.injEq] at hy
    refine ⟨ys, n', hy.1, hy.2, hyl, fun j f hj => ?_⟩
    obtain ⟨ho, hk⟩ := hone_of hone j f hj
    have hjl : j < fs.size := (Array.getElem?_eq_some_iff.1 hj).1
    have hcell := hat j hjl
    have hv : cs'[j]? = some (cs'[j]'(by omega)) := List.getElem?_eq_getElem (by omega)
    have h1 := hf j f hj
    rw [ho, hk] at h1
    have hone' : (cs'.drop j).take 1 = [cs'[j]'(by omega)] := by
      rw [List.drop_eq_getElem_cons (by omega)]
      rfl
    rw [hone'] at h1
    have hys : ys[j]? = some (ys[j]'(by omega)) := List.getElem?_eq_getElem (by omega)
    refine ⟨_, _, ?_, hys, h1.trans hys⟩
    rw [← Go.Deep.add_add, hcell, hv]
end
theorem choose_ha {n : Nat} {p : Nat → Ha → Prop} (h : ∀ i, i < n → ∃ z, p i z) : ∃ f : Nat → Ha, ∀ i, i < n → p i (f i) := by
  classical
  refine ⟨fun i => if hi : i < n then Classical.choose (h i hi) else ⟨⟨#[]⟩, ⟨#[]⟩⟩, fun i hi => ?_⟩
  simp only [dif_pos hi]
  exact Classical.choose_spec (h i hi)
theorem has_in {H : Type} {enc : TypeId × Value → H} {W : World} {a : Option Addr} {n c : Nat} {d : DataW H} {p : List MemPlace}
    (h : DataW.Trod enc Tryd.prog W 0 (fun _ => true) true 38 (.slice a n c) d p) : ∃ l : List Ha, Rd W 2 a n (has l) ∧ n ≤ maxLen ∧ ∀ z ∈ l, z.a.size ≤ maxLen ∧ z.b.size ≤ maxLen := by
  obtain ⟨fuel, hf⟩ := h
  rcases open_slice_fields_ha Tryd.underlying38 Tryd.underlying59 (by kernel_rfl) (by kernel_rfl) hf with ⟨hcs, _⟩ | ⟨x, len, cap, m, D, Pl, hcs, _, hl, hm, hmm, _, hx⟩
  · simp [Value.cells] at hcs
    obtain ⟨rfl, rfl, rfl⟩ := hcs
    exact ⟨[], Rd.none_, by simp, by simp⟩
  · simp [Value.cells] at hcs
    obtain ⟨rfl, rfl, rfl⟩ := hcs
    simp at hmm
    subst hmm
    obtain ⟨F, hF⟩ := choose_ha (n := m) (p := fun i z => W.cell? (x.add (i * 2 + 0)) = some (.string z.a) ∧ W.cell? (x.add (i * 2 + 1)) = some (.string z.b) ∧ z.a.size ≤ maxLen ∧ z.b.size ≤ maxLen) (fun i hi => by
      obtain ⟨ys, fu, _, _, _, hy⟩ := hx i hi
      obtain ⟨v0, y0, c0, _, t0⟩ := hy 0 _ rfl
      obtain ⟨z0, e0, _, m0⟩ := DataW.trod_string Tryd.underlying9 t0
      obtain rfl : v0 = _ := by simpa using e0
      obtain ⟨v1, y1, c1, _, t1⟩ := hy 1 _ rfl
      obtain ⟨z1, e1, _, m1⟩ := DataW.trod_string Tryd.underlying9 t1
      obtain rfl : v1 = _ := by simpa using e1
      exact ⟨⟨z0, z1⟩, c0, c1, m0, m1⟩)
    have hlen : ((List.range n).map F).length = n := by simp
    have hz : ∀ k, k < n → ((List.range n).map F)[k]? = some (F k) := fun k hk => by simp [hk]
    refine ⟨(List.range n).map F, rd_in (by rw [has_len, hlen]) fun i u hu => ?_, by omega, fun z hzm => ?_⟩
    · have hi : i < n * 2 := by
        have := (List.getElem?_eq_some_iff.1 hu).1
        rw [has_len, hlen] at this; exact this
      have hk : i / 2 < n := by omega
      have hu2 := has_get (hz _ hk) (i % 2) (by omega)
      rw [show i / 2 * 2 + i % 2 = i by omega, hu] at hu2
      have hFk := hF (i / 2) (by omega)
      have hr : i % 2 = 0 ∨ i % 2 = 1 := by omega
      rcases hr with hr | hr
      · rw [hr] at hu2
        injection hu2 with hu2
        have hh := hFk.1
        rw [hu2]
        rwa [show i / 2 * 2 + 0 = i by omega] at hh
      · rw [hr] at hu2
        injection hu2 with hu2
        have hh := hFk.2.1
        rw [hu2]
        rwa [show i / 2 * 2 + 1 = i by omega] at hh
    · obtain ⟨k, hk, rfl⟩ := List.mem_map.1 hzm
      have hFk := hF k (by have := List.mem_range.1 hk; omega)
      exact ⟨hFk.2.2.1, hFk.2.2.2⟩
end Go.Proofs.YtpbnbekkmifbpaaDoor
