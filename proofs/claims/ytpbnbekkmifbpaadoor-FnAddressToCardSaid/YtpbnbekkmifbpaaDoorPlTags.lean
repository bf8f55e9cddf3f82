/-
  Plain law of TagsIn and MentionsIn: what they answer is valid, each once; a text with one word more.
-/
import Derived.Test.YtpbnbekkmifbpaaDoorTgS
namespace Go.Proofs.YtpbnbekkmifbpaaDoor
open Go.ChangeShapes Go.WideShapes Go.ChangeAt Go.RowKit Go.Joins
set_option linter.unusedVariables false

theorem tv_app {s t : ByteArray} (h : tvB (s ++ t) = true) : tvB s = true := by
  simp only [tvB, Bool.and_eq_true, decide_eq_true_eq, ByteArray.size_append, ByteArray.data_append, Array.toList_append, List.all_append] at h ⊢
  exact ⟨by omega, h.2.1⟩
theorem wsB_more (s : ByteArray) (b : List UInt8) (h32 : ∀ c ∈ b, c ≠ 32) : wsB (s ++ mkB (32 :: b)) = wsB s ++ [mkB b] := by
  have e : (s ++ mkB (32 :: b)).data.toList = s.data.toList ++ 32 :: b := by rw [ByteArray.data_append, Array.toList_append, data_mkB]
  rw [wsB, e, spL_last _ _ h32, List.map_append]; rfl
theorem wdB_more {s : ByteArray} {b : List UInt8} (h32 : ∀ c ∈ b, c ≠ 32) (h : tvB (s ++ mkB (32 :: b)) = true) : wdB (s ++ mkB (32 :: b)) = wdB s ++ [ctB (mkB b)] := by
  rw [wdB_yes h, wdB_yes (tv_app h), wsB_more s b h32, List.map_append]; rfl

theorem tgF_valid {acc : List ByteArray} {x : ByteArray} (h : ∀ z ∈ acc, wvB z = true) : ∀ z ∈ tgF acc x, wvB z = true := by
  unfold tgF tgV
  split
  · next hc =>
    simp only [Bool.and_eq_true] at hc
    intro z hz
    rcases List.mem_append.1 hz with hz | hz
    · exact h z hz
    · rw [List.mem_singleton.1 hz]; exact hc.1.2
  · exact h
theorem tgF_nodup {acc : List ByteArray} {x : ByteArray} (h : acc.Nodup) : (tgF acc x).Nodup := by
  unfold tgF
  split
  · next hc =>
    simp only [Bool.and_eq_true, Bool.not_eq_true'] at hc
    have hn : tgT x ∉ acc := fun e => by rw [inS_iff.2 e] at hc; cases hc.2
    rw [List.nodup_append]
    refine ⟨h, by simp, fun a ha b hb e => ?_⟩
    rw [List.mem_singleton.1 hb] at e; subst e; exact hn ha
  · exact h
theorem tgFold_ok (ws : List ByteArray) : ∀ acc : List ByteArray, (∀ z ∈ acc, wvB z = true) → acc.Nodup → (∀ z ∈ ws.foldl tgF acc, wvB z = true) ∧ (ws.foldl tgF acc).Nodup := by
  induction ws with
  | nil => intro acc h1 h2; exact ⟨h1, h2⟩
  | cons x ws ih => intro acc h1 h2; exact ih _ (tgF_valid h1) (tgF_nodup h2)
theorem tgB_valid (s : ByteArray) : ∀ z ∈ tgB s, wvB z = true := (tgFold_ok (wdB s) [] (by simp) List.nodup_nil).1
theorem tgB_nodup (s : ByteArray) : (tgB s).Nodup := (tgFold_ok (wdB s) [] (by simp) List.nodup_nil).2
def tgZ : ByteArray := ⟨#[122, 111, 101]⟩
theorem tgB_more {s : ByteArray} (h : tvB (s ++ ⟨#[32, 35, 122, 111, 101, 46]⟩) = true) : tgB (s ++ ⟨#[32, 35, 122, 111, 101, 46]⟩) = if inS (tgB s) tgZ = true then tgB s else tgB s ++ [tgZ] := by
  have e := wdB_more (s := s) (b := [35, 122, 111, 101, 46]) (by decide) h
  have e1 : ctB (mkB [35, 122, 111, 101, 46]) = ⟨#[35, 122, 111, 101]⟩ := by decide +kernel
  rw [e1] at e
  have e2 : tgT ⟨#[35, 122, 111, 101]⟩ = tgZ := by decide +kernel
  have e3 : tgV ⟨#[35, 122, 111, 101]⟩ = true := by decide +kernel
  rw [tgB, show (⟨#[32, 35, 122, 111, 101, 46]⟩ : ByteArray) = mkB (32 :: [35, 122, 111, 101, 46]) from rfl, e, List.foldl_append]
  show tgF (tgB s) ⟨#[35, 122, 111, 101]⟩ = _
  rw [tgF, e2, e3]
  cases inS (tgB s) tgZ <;> simp

theorem mnF_valid {acc : List Ha} {x : ByteArray} (h : ∀ z ∈ acc, hdV z = true) : ∀ z ∈ mnF acc x, hdV z = true := by
  unfold mnF
  split
  · next hc =>
    simp only [Bool.and_eq_true] at hc
    intro z hz
    rcases List.mem_append.1 hz with hz | hz
    · exact h z hz
    · rw [List.mem_singleton.1 hz]; exact rhV_hd hc.1
  · exact h
theorem mnF_nodup {acc : List Ha} {x : ByteArray} (h : acc.Nodup) : (mnF acc x).Nodup := by
  unfold mnF
  split
  · next hc =>
    simp only [Bool.and_eq_true, Bool.not_eq_true'] at hc
    have hn : rhH x ∉ acc := fun e => by rw [inH_iff.2 e] at hc; cases hc.2
    rw [List.nodup_append]
    refine ⟨h, by simp, fun a ha b hb e => ?_⟩
    rw [List.mem_singleton.1 hb] at e; subst e; exact hn ha
  · exact h
theorem mnFold_ok (ws : List ByteArray) : ∀ acc : List Ha, (∀ z ∈ acc, hdV z = true) → acc.Nodup → (∀ z ∈ ws.foldl mnF acc, hdV z = true) ∧ (ws.foldl mnF acc).Nodup := by
  induction ws with
  | nil => intro acc h1 h2; exact ⟨h1, h2⟩
  | cons x ws ih => intro acc h1 h2; exact ih _ (mnF_valid h1) (mnF_nodup h2)
theorem mnB_valid (s : ByteArray) : ∀ z ∈ mnB s, hdV z = true := (mnFold_ok (wdB s) [] (by simp) List.nodup_nil).1
theorem mnB_nodup (s : ByteArray) : (mnB s).Nodup := (mnFold_ok (wdB s) [] (by simp) List.nodup_nil).2
def mnZ : Ha := ⟨⟨#[122, 111, 101]⟩, ⟨#[105, 99, 101]⟩⟩
theorem mnB_more {s : ByteArray} (h : tvB (s ++ ⟨#[32, 64, 122, 111, 101, 64, 105, 99, 101, 33]⟩) = true) : mnB (s ++ ⟨#[32, 64, 122, 111, 101, 64, 105, 99, 101, 33]⟩) = if inH (mnB s) mnZ = true then mnB s else mnB s ++ [mnZ] := by
  have e := wdB_more (s := s) (b := [64, 122, 111, 101, 64, 105, 99, 101, 33]) (by decide) h
  have e1 : ctB (mkB [64, 122, 111, 101, 64, 105, 99, 101, 33]) = ⟨#[64, 122, 111, 101, 64, 105, 99, 101]⟩ := by decide +kernel
  rw [e1] at e
  have e3 : rhV ⟨#[64, 122, 111, 101, 64, 105, 99, 101]⟩ = true := by decide +kernel
  have e2 : rhH ⟨#[64, 122, 111, 101, 64, 105, 99, 101]⟩ = mnZ := by
    rw [rhH, if_pos e3]
    have a1 : (haOf ⟨#[64, 122, 111, 101, 64, 105, 99, 101]⟩).a = mnZ.a := by decide +kernel
    have a2 : (haOf ⟨#[64, 122, 111, 101, 64, 105, 99, 101]⟩).b = mnZ.b := by decide +kernel
    generalize haOf ⟨#[64, 122, 111, 101, 64, 105, 99, 101]⟩ = y at *
    obtain ⟨ya, yb⟩ := y
    simp only at a1 a2
    rw [a1, a2]
  rw [mnB, show (⟨#[32, 64, 122, 111, 101, 64, 105, 99, 101, 33]⟩ : ByteArray) = mkB (32 :: [64, 122, 111, 101, 64, 105, 99, 101, 33]) from rfl, e, List.foldl_append]
  show mnF (mnB s) ⟨#[64, 122, 111, 101, 64, 105, 99, 101]⟩ = _
  rw [mnF, e2, e3]
  cases inH (mnB s) mnZ <;> simp
theorem nodup_ne {α : Type} {l : List α} (h : l.Nodup) {j k : Nat} {y z : α} (hj : l[j]? = some y) (hk : l[k]? = some z) (hlt : j < k) : y ≠ z := by
  intro e; subst e
  have hjl := get_lt hj; have hkl := get_lt hk
  have := List.pairwise_iff_getElem.1 h j k hjl hkl hlt
  rw [(List.getElem?_eq_some_iff.1 hj).2, (List.getElem?_eq_some_iff.1 hk).2] at this
  exact this rfl
end Go.Proofs.YtpbnbekkmifbpaaDoor
