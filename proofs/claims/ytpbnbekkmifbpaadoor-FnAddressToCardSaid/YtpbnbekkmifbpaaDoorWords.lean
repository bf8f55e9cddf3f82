/-
  Plain law: the words of a text; words without the signs at their end.
-/
import Derived.Test.YtpbnbekkmifbpaaDoorCut27
import Derived.Test.YtpbnbekkmifbpaaDoorText
import Derived.Test.YtpbnbekkmifbpaaDoorStrS
import Derived.Lib.SplitLaws
import Derived.Lib.SlTrimSet
namespace Go.Proofs.YtpbnbekkmifbpaaDoor
open Go.ChangeShapes Go.WideShapes Go.ChangeAt Go.RowKit Go.Joins
set_option linter.unusedVariables false

/-- Bytes as a text. -/
def mkB (l : List UInt8) : ByteArray := ⟨l.toArray⟩
theorem mkB_data (s : ByteArray) : mkB s.data.toList = s := by
  obtain ⟨⟨l⟩⟩ := s; rfl
theorem data_mkB (l : List UInt8) : (mkB l).data.toList = l := by simp [mkB]
theorem mkB_size (l : List UInt8) : (mkB l).size = l.length := by simp [mkB, ByteArray.size]
theorem mkB_app (a b : List UInt8) : mkB a ++ mkB b = mkB (a ++ b) := by
  apply ByteArray.ext; simp [mkB, ByteArray.data_append]
theorem size_list (s : ByteArray) : s.data.toList.length = s.size := by simp
/-- The pieces between spaces. -/
def spL : List UInt8 → List (List UInt8)
  | [] => [[]]
  | c :: l => if c = 32 then [] :: spL l else match spL l with
    | [] => [[c]]
    | h :: t => (c :: h) :: t
theorem spL_ne (l : List UInt8) : spL l ≠ [] := by
  cases l with
  | nil => simp [spL]
  | cons c l =>
    unfold spL
    split
    · simp
    · split <;> simp
theorem spL_32 (l : List UInt8) : spL (32 :: l) = [] :: spL l := by rw [spL, if_pos rfl]
theorem spL_cons {c : UInt8} {l h : List UInt8} {t : List (List UInt8)} (hc : c ≠ 32) (e : spL l = h :: t) : spL (c :: l) = (c :: h) :: t := by
  rw [spL, if_neg hc, e]
theorem spL_len (l : List UInt8) : 1 ≤ (spL l).length ∧ (spL l).length ≤ l.length + 1 := by
  induction l with
  | nil => simp [spL]
  | cons c l ih =>
    by_cases hc : c = 32
    · subst hc; rw [spL_32]; simp; omega
    · cases e : spL l with
      | nil => exact absurd e (spL_ne l)
      | cons h t => rw [spL_cons hc e]; rw [e] at ih; simp at ih ⊢; omega
theorem spL_snoc_32 (l : List UInt8) : spL (l ++ [32]) = spL l ++ [[]] := by
  induction l with
  | nil => simp [spL]
  | cons c l ih =>
    by_cases hc : c = 32
    · subst hc; rw [List.cons_append, spL_32, spL_32, ih]; rfl
    · cases e : spL l with
      | nil => exact absurd e (spL_ne l)
      | cons h t =>
        rw [List.cons_append, spL_cons hc e, spL_cons (h := h) (t := t ++ [[]]) hc (by rw [ih, e]; rfl)]; rfl
theorem spL_snoc {c : UInt8} (hc : c ≠ 32) (l : List UInt8) {z : List UInt8} (hz : (spL l)[(spL l).length - 1]? = some z) : spL (l ++ [c]) = (spL l).set ((spL l).length - 1) (z ++ [c]) := by
  induction l generalizing z with
  | nil => simp [spL] at hz; subst hz; simp [spL, hc]
  | cons d l ih =>
    by_cases hd : d = 32
    · subst hd
      rw [spL_32] at hz ⊢
      rw [List.cons_append, spL_32]
      have hl := (spL_len l).1
      have e1 : (spL l).length = (spL l).length - 1 + 1 := by omega
      rw [List.length_cons, Nat.add_sub_cancel, e1, List.getElem?_cons_succ] at hz
      rw [ih hz, List.length_cons, Nat.add_sub_cancel]
      conv => rhs; rw [e1, List.set_cons_succ]
    · cases e : spL l with
      | nil => exact absurd e (spL_ne l)
      | cons h t =>
        rw [e] at ih
        rw [spL_cons hd e] at hz ⊢
        rw [List.cons_append]
        cases t with
        | nil =>
          simp at hz; subst hz
          rw [spL_cons (h := h ++ [c]) (t := []) hd (by have := ih (z := h) (by simp); simpa using this)]
          simp
        | cons a t =>
          have e2 := ih (z := z) (by simpa using hz)
          rw [spL_cons (h := h) (t := (a :: t).set t.length (z ++ [c])) hd (by rw [e2]; simp)]
          simp
theorem spL_app (a b : List UInt8) (ha : a ≠ []) (h32 : ∀ c ∈ a, c ≠ 32) : spL (a ++ 32 :: b) = a :: spL b := by
  induction a with
  | nil => exact absurd rfl ha
  | cons c a ih =>
    have hc : c ≠ 32 := h32 c (List.mem_cons_self ..)
    cases a with
    | nil => rw [List.singleton_append, spL_cons hc (spL_32 b)]
    | cons d a => rw [List.cons_append, spL_cons hc (ih (by simp) (fun x hx => h32 x (List.mem_cons_of_mem _ hx)))]
theorem spL_last (a b : List UInt8) (h32 : ∀ c ∈ b, c ≠ 32) : spL (a ++ 32 :: b) = spL a ++ [b] := by
  have one : ∀ l : List UInt8, (∀ c ∈ l, c ≠ 32) → spL l = [l] := by
    intro l
    induction l with
    | nil => intro _; rfl
    | cons c l ih => intro h; exact spL_cons (h c (List.mem_cons_self ..)) (ih fun x hx => h x (List.mem_cons_of_mem _ hx))
  induction a with
  | nil => rw [List.nil_append, spL_32, one b h32]; rfl
  | cons c a ih =>
    rw [List.cons_append]
    by_cases hc : c = 32
    · subst hc; rw [spL_32, spL_32, ih]; rfl
    · cases e : spL a with
      | nil => exact absurd e (spL_ne a)
      | cons h t => rw [spL_cons hc e, spL_cons (h := h) (t := t ++ [b]) hc (by rw [ih, e]; rfl)]; rfl
theorem spL_mem {l x : List UInt8} (h : x ∈ spL l) : x.length ≤ l.length := by
  induction l generalizing x with
  | nil => simp [spL] at h; subst h; simp
  | cons c l ih =>
    by_cases hc : c = 32
    · subst hc; rw [spL_32] at h
      rcases List.mem_cons.1 h with rfl | h
      · simp
      · have := ih h; simp; omega
    · cases e : spL l with
      | nil => exact absurd e (spL_ne l)
      | cons a t =>
        rw [spL_cons hc e] at h
        rw [e] at ih
        rcases List.mem_cons.1 h with rfl | h
        · have := ih (x := a) (List.mem_cons_self ..); simp; omega
        · have := ih (x := x) (List.mem_cons_of_mem _ h); simp; omega

/-- The kit's word for the pieces. -/
theorem splitK_spL (l : List UInt8) : Lib.splitK [32] 0 (Lib.count l [32]) l = spL l := by
  induction l with
  | nil => rw [Lib.count_miss (by simp [Lib.index])]; rfl
  | cons c l ih =>
    by_cases hc : c = 32
    · subst hc
      have hix : Lib.index (32 :: l) [32] = 0 := by rw [Lib.index]; simp [List.isPrefixOf]
      rw [Lib.count_cons_eq, Nat.add_comm, Lib.splitK, hix, spL_32]
      simp [ih]
    · have hp : ([32] : List UInt8).isPrefixOf (c :: l) = false := by simp [List.isPrefixOf, Ne.symm hc]
      have hix : Lib.index (c :: l) [32] = if Lib.index l [32] == -1 then -1 else Lib.index l [32] + 1 := by rw [Lib.index, hp]; simp
      rw [Lib.count_cons_ne c 32 l hc]
      cases hk : Lib.count l [32] with
      | zero =>
        rw [hk] at ih
        have e : spL l = [l] := ih.symm
        rw [spL_cons hc e]; rfl
      | succ k =>
        rw [hk] at ih
        have hm : Lib.index l [32] ≠ -1 := fun e => by rw [Lib.count_miss e] at hk; cases hk
        have hge := Lib.index_ge l [32]
        obtain ⟨j, hj⟩ : ∃ j : Nat, Lib.index l [32] = j := ⟨(Lib.index l [32]).toNat, by omega⟩
        rw [hj] at hix
        rw [if_neg (by simp)] at hix
        have n1 : ((j : Int) == -1) = false := by simp
        have n2 : (((j : Int) + 1) == -1) = false := by simp; omega
        have n3 : ((j : Int) + 1).toNat = j + 1 := by omega
        rw [Lib.splitK, hj, n1] at ih
        rw [Lib.splitK, hix, n2]
        simp only [Bool.false_eq_true, if_false, n3, Int.toNat_natCast, Nat.add_zero, List.length_cons, List.length_nil, Nat.zero_add, List.take_succ_cons, List.drop_succ_cons] at ih ⊢
        exact (spL_cons hc ih.symm).symm

/-- The words of a text. -/
def wsB (s : ByteArray) : List ByteArray := (spL s.data.toList).map mkB
theorem wsB_len (s : ByteArray) : 1 ≤ (wsB s).length ∧ (wsB s).length ≤ s.size + 1 := by
  have := spL_len s.data.toList; rw [size_list] at this; simpa [wsB] using this
theorem wsB_mem {s z : ByteArray} (h : z ∈ wsB s) : z.size ≤ s.size := by
  obtain ⟨x, hx, rfl⟩ := List.mem_map.1 h
  rw [mkB_size, ← size_list s]; exact spL_mem hx
theorem splitB_wsB (s : ByteArray) : Lib.splitB ⟨#[32]⟩ 0 (Lib.countB s ⟨#[32]⟩) s = wsB s := by
  have h := Lib.splitB_data ⟨#[32]⟩ 0 (Lib.countB s ⟨#[32]⟩) s
  have e : Lib.countB s ⟨#[32]⟩ = Lib.count s.data.toList [32] := rfl
  rw [e] at h ⊢
  rw [show (⟨#[32]⟩ : ByteArray).data.toList = [32] from rfl, splitK_spL] at h
  rw [wsB, ← h, List.map_map]
  conv => lhs; rw [← List.map_id (Lib.splitB _ _ _ _)]
  apply List.map_congr_left
  intro x _
  exact (mkB_data x).symm
theorem countB_wsB (s : ByteArray) : Lib.countB s ⟨#[32]⟩ + 1 = (wsB s).length := by
  rw [← splitB_wsB]; exact (Lib.splitB_all ⟨#[32]⟩ (by decide) 0 _ s rfl).symm

/-- Words, one byte more. -/
theorem ext_snoc {s : ByteArray} {k : Nat} (h : k < s.size) : (s.extract 0 (k + 1)).data.toList = (s.extract 0 k).data.toList ++ [s[k]] := by
  have hl : k < s.data.toList.length := by rw [size_list]; exact h
  have e : ∀ m, (s.extract 0 m).data.toList = s.data.toList.take m := fun m => by rw [ByteArray.data_extract]; simp
  rw [e, e, List.take_add_one, List.getElem?_eq_getElem hl]
  rfl
theorem ws_32 {s : ByteArray} {k : Nat} (h : k < s.size) (hc : s[k] = 32) : wsB (s.extract 0 (k + 1)) = wsB (s.extract 0 k) ++ [⟨#[]⟩] := by
  rw [wsB, ext_snoc h, hc, spL_snoc_32, wsB, List.map_append]; rfl
theorem ext_mk {s : ByteArray} {k : Nat} (h : k < s.size) : s.extract k (k + 1) = mkB [s[k]] := by
  have hl : k < s.data.toList.length := by rw [size_list]; exact h
  apply ByteArray.ext
  apply Array.ext'
  rw [ByteArray.data_extract]
  simp only [Array.toList_extract, mkB]
  rw [List.extract_eq_take_drop, show k + 1 - k = 1 by omega, List.drop_eq_getElem_cons hl]
  rfl
theorem ws_no {s : ByteArray} {k : Nat} (h : k < s.size) (hc : s[k] ≠ 32) {z : ByteArray} (hz : (wsB (s.extract 0 k))[(wsB (s.extract 0 k)).length - 1]? = some z) :
    wsB (s.extract 0 (k + 1)) = (wsB (s.extract 0 k)).set ((wsB (s.extract 0 k)).length - 1) (z ++ s.extract k (k + 1)) := by
  unfold wsB at hz ⊢
  rw [List.length_map, List.getElem?_map] at hz
  rw [List.length_map]
  cases hy : (spL (s.extract 0 k).data.toList)[(spL (s.extract 0 k).data.toList).length - 1]? with
  | none => rw [hy] at hz; cases hz
  | some y =>
    rw [hy] at hz
    obtain rfl : mkB y = z := by simpa using hz
    rw [ext_snoc h, spL_snoc hc _ hy, List.map_set, ext_mk h, mkB_app]
theorem svs_set (zs : List ByteArray) (k : Nat) (z : ByteArray) : (svs zs).set k (.string z) = svs (zs.set k z) := by simp [svs, List.map_set]

/-- The kit's word for a word without its signs. -/
theorem sg_contains (c : UInt8) : ([46, 44, 33, 63, 58] : List UInt8).contains c = sgB c := by
  have e : ∀ d : UInt8, (c = d) ↔ ((c.toNat : Int) = (d.toNat : Int)) := fun d => ⟨fun h => by rw [h], fun h => UInt8.toNat_inj.1 (by omega)⟩
  rw [Bool.eq_iff_iff, List.contains_iff_mem]
  simp only [List.mem_cons, List.not_mem_nil, or_false, e, sgB, Bool.or_eq_true, beq_iff_eq, UInt8.reduceToNat]
  omega
theorem trim_take (s : ByteArray) : ∀ k, k ≤ s.size → Lib.trimRightS (s.data.toList.take k) [46, 44, 33, 63, 58] = s.data.toList.take (cutN s k)
  | 0, _ => by simp [cutN, Lib.trimRightS]
  | k + 1, h => by
    have hl : k < s.data.toList.length := by rw [size_list]; omega
    have e : s.data.toList.take (k + 1) = s.data.toList.take k ++ [s.data.toList[k]] := by rw [List.take_add_one, List.getElem?_eq_getElem hl]; rfl
    have hk : s.data.toList[k] = s[k]'(by omega) := rfl
    cases hs : sgB (s[k]'(by omega))
    · rw [cutN_no (by omega) hs, e, Lib.trimRightS, List.reverse_append]
      simp only [List.reverse_cons, List.reverse_nil, List.nil_append, List.singleton_append, List.dropWhile_cons, sg_contains, hk, hs]
      simp
    · rw [cutN_yes (by omega) hs, ← trim_take s k (by omega), e, Lib.trimRightS, List.reverse_append, Lib.trimRightS]
      simp only [List.reverse_cons, List.reverse_nil, List.nil_append, List.singleton_append, List.dropWhile_cons, sg_contains, hk, hs]
      simp
theorem trim_ctB (s : ByteArray) : mkB (Lib.trimRightS s.data.toList [46, 44, 33, 63, 58]) = ctB s := by
  have h := trim_take s s.size (Nat.le_refl _)
  rw [List.take_of_length_le (by rw [size_list]; exact Nat.le_refl _)] at h
  rw [h, ctB]
  apply ByteArray.ext
  rw [ByteArray.data_extract]
  apply Array.ext'
  simp [mkB]
theorem ctB_size (s : ByteArray) : (ctB s).size ≤ s.size := by rw [ctB, ByteArray.size_extract]; omega

/-- What wordsOf answers. -/
def wdB (s : ByteArray) : List ByteArray := if tvB s = true then (wsB s).map ctB else []
theorem wdB_yes {s : ByteArray} (h : tvB s = true) : wdB s = (wsB s).map ctB := by rw [wdB, if_pos h]
theorem wdB_no {s : ByteArray} (h : tvB s = false) : wdB s = [] := by rw [wdB, if_neg (by rw [h]; simp)]
end Go.Proofs.YtpbnbekkmifbpaaDoor
