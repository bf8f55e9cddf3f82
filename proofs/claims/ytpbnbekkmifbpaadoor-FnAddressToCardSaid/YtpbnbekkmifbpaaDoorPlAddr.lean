/-
  Plain law of AddressTo: all followers are named in its text; doing it again changes nothing.
-/
import Derived.Test.YtpbnbekkmifbpaaDoorPlTags
import Derived.Test.YtpbnbekkmifbpaaDoorAdS
namespace Go.Proofs.YtpbnbekkmifbpaaDoor
open Go.ChangeShapes Go.WideShapes Go.ChangeAt Go.RowKit Go.Joins
set_option linter.unusedVariables false

theorem wv_byte {s : ByteArray} (h : wvB s = true) : ∀ c ∈ s.data.toList, (97 ≤ c.toNat ∧ c.toNat ≤ 122) ∨ (48 ≤ c.toNat ∧ c.toNat ≤ 57) := by
  intro c hc
  obtain ⟨k, hk, rfl⟩ := List.mem_iff_getElem.1 hc
  have hk' : k < s.size := by rw [size_list] at hk; exact hk
  simp only [wvB, Bool.and_eq_true, List.all_eq_true] at h
  have ho := h.2 k (List.mem_range.2 hk')
  have hb : bt s k = ((s.data.toList[k]).toNat : Int) := bt_eq hk'
  rcases okw_iff.1 ho with ⟨h1, h2⟩ | ⟨_, h1, h2⟩
  · left; rw [hb] at h1 h2; omega
  · right; rw [hb] at h1 h2; omega
theorem wv_no {s : ByteArray} (h : wvB s = true) {c : UInt8} (hc : c ∈ s.data.toList) : c ≠ 32 ∧ c ≠ 64 ∧ sgB c = false := by
  have hb := wv_byte h c hc
  refine ⟨fun e => by subst e; revert hb; decide, fun e => by subst e; revert hb; decide, ?_⟩
  simp only [sgB, Bool.or_eq_false_iff, beq_eq_false_iff_ne, ne_eq]
  omega
theorem ht_list {h : Ha} (e : hdV h = true) : (htB h).data.toList = 64 :: (h.a.data.toList ++ 64 :: h.b.data.toList) := by
  rw [htB_yes e]
  simp [ByteArray.data_append]
theorem hd_parts {h : Ha} (e : hdV h = true) : wvB h.a = true ∧ wvB h.b = true := by
  simpa only [hdV, Bool.and_eq_true] using e
theorem ht_mem {h : Ha} (e : hdV h = true) {c : UInt8} (hc : c ∈ (htB h).data.toList) : c ≠ 32 := by
  rw [ht_list e] at hc
  rcases List.mem_cons.1 hc with rfl | hc
  · decide
  · rcases List.mem_append.1 hc with hc | hc
    · exact (wv_no (hd_parts e).1 hc).1
    · rcases List.mem_cons.1 hc with rfl | hc
      · decide
      · exact (wv_no (hd_parts e).2 hc).1
theorem ix_app (c : UInt8) : ∀ (l r : List UInt8), c ∉ l → Lib.indexByte (l ++ c :: r) c = l.length
  | [], r, _ => by simp [Lib.indexByte]
  | b :: l, r, h => by
    have hb : b ≠ c := fun e => h (by rw [e]; exact List.mem_cons_self ..)
    have ih := ix_app c l r (fun e => h (List.mem_cons_of_mem _ e))
    rw [List.cons_append, Lib.indexByte, ih]
    have n1 : (b == c) = false := by simpa using hb
    have n2 : (((l.length : Nat) : Int) == -1) = false := by simp
    rw [n1, n2]
    simp
theorem ht_at {h : Ha} (e : hdV h = true) : atI (htB h) = (h.a.size : Nat) := by
  unfold atI
  rw [ht_list e]
  show Lib.indexByte (h.a.data.toList ++ 64 :: h.b.data.toList) 64 = _
  rw [ix_app 64 _ _ (fun hc => (wv_no (hd_parts e).1 hc).2.1 rfl), size_list]
theorem ht_size {h : Ha} (e : hdV h = true) : (htB h).size = h.a.size + h.b.size + 2 := by
  rw [← size_list, ht_list e]
  simp; omega
theorem ht_hp {h : Ha} (e : hdV h = true) : Lib.hasPrefix (htB h).data.toList [64] = true := by
  rw [ht_list e]; simp [Lib.hasPrefix, List.isPrefixOf]
theorem ht_haI {h : Ha} (e : hdV h = true) : haI (htB h) h.a.size = h := by
  obtain ⟨a, b⟩ := h
  have hl := ht_list e
  have hs := ht_size e
  simp only at hl hs
  have e1 : (htB ⟨a, b⟩).extract 1 (1 + a.size) = a := by
    apply ba_ext
    rw [ext_list, hl, List.drop_take, show 1 + a.size - 1 = a.size by omega]
    simp only [List.drop_succ_cons, List.drop_zero]
    rw [← size_list a, List.take_left]
  have e2 : (htB ⟨a, b⟩).extract (1 + a.size + 1) (htB ⟨a, b⟩).size = b := by
    apply ba_ext
    rw [ext_list, List.take_of_length_le (by rw [size_list]; exact Nat.le_refl _), hl, show 1 + a.size + 1 = (a.size + 1) + 1 by omega, List.drop_succ_cons, ← size_list a]
    rw [List.drop_append, List.drop_of_length_le (by omega)]
    simp
  show (⟨_, _⟩ : Ha) = _
  rw [e1, e2]
theorem ht_rh {h : Ha} (e : hdV h = true) : rhV (htB h) = true ∧ rhH (htB h) = h := by
  have hi := ht_at e
  have hv : hdV (haI (htB h) h.a.size) = true := by rw [ht_haI e]; exact e
  exact ⟨(rhV_i (ht_hp e) hi).trans hv, (rhH_yes (ht_hp e) hi hv).trans (ht_haI e)⟩
theorem ht_cut {h : Ha} (e : hdV h = true) : ctB (htB h) = htB h := by
  have hs := ht_size e
  have hb := wvB_size (hd_parts e).2
  have hlast : sgB ((htB h)[(htB h).size - 1]'(by omega)) = false := by
    have hg : (htB h).data.toList[(htB h).size - 1]? = some ((htB h)[(htB h).size - 1]'(by omega)) := by
      rw [List.getElem?_eq_getElem (by rw [size_list]; omega)]; rfl
    have key : ∀ c, (htB h).data.toList[(htB h).size - 1]? = some c → c ∈ h.b.data.toList := by
      intro c hc
      rw [ht_list e, hs] at hc
      rw [show h.a.size + h.b.size + 2 - 1 = (h.a.size + h.b.size) + 1 by omega, List.getElem?_cons_succ, List.getElem?_append_right (by rw [size_list]; omega), size_list,
        show h.a.size + h.b.size - h.a.size = (h.b.size - 1) + 1 by omega, List.getElem?_cons_succ] at hc
      exact List.mem_of_getElem? hc
    have hm := key _ hg
    exact (wv_no (hd_parts e).2 hm).2.2
  have hc : cutN (htB h) (htB h).size = (htB h).size := by
    have := cutN_no (s := htB h) (k := (htB h).size - 1) (by omega) hlast
    rwa [show (htB h).size - 1 + 1 = (htB h).size by omega] at this
  rw [ctB, hc, ext_all]

/-- The texts of these, each with a space behind it. -/
def catH : List Ha → ByteArray
  | [] => ⟨#[]⟩
  | h :: l => (htB h ++ ⟨#[32]⟩) ++ catH l
theorem ba_empty (s : ByteArray) : (⟨#[]⟩ : ByteArray) ++ s = s := by apply ba_ext; simp [ByteArray.data_append]
theorem ba_empty' (s : ByteArray) : s ++ (⟨#[]⟩ : ByteArray) = s := by apply ba_ext; simp [ByteArray.data_append]
theorem adF_cat (N : List Ha) : ∀ (f : List Ha) (t : ByteArray), f.foldl (adF N) t = t ++ catH (f.filter fun h => !inH N h)
  | [], t => by simp [catH, ba_empty']
  | h :: f, t => by
    rw [List.foldl_cons, adF_cat N f]
    cases hi : inH N h
    · rw [adF_out hi, List.filter_cons_of_pos (by rw [hi]; rfl), catH, ByteArray.append_assoc]
    · rw [adF_in hi, List.filter_cons_of_neg (by rw [hi]; simp)]
theorem ws_cat (s : ByteArray) : ∀ l : List Ha, (∀ h ∈ l, hdV h = true) → wsB (catH l ++ s) = l.map htB ++ wsB s
  | [], _ => by simp [catH, ba_empty]
  | h :: l, hl => by
    have e := hl h (List.mem_cons_self ..)
    have ih := ws_cat s l (fun x hx => hl x (List.mem_cons_of_mem _ hx))
    have hd : (catH (h :: l) ++ s).data.toList = (htB h).data.toList ++ 32 :: (catH l ++ s).data.toList := by
      simp [catH, ByteArray.data_append]
    unfold wsB at ih ⊢
    rw [hd, spL_app _ _ (by rw [ht_list e]; simp) (fun c hc => ht_mem e hc), List.map_cons, ih, mkB_data]
    rfl
theorem mn_mem {z : Ha} : ∀ (ws : List ByteArray) (acc : List Ha), z ∈ ws.foldl mnF acc ↔ z ∈ acc ∨ ∃ x ∈ ws, rhV x = true ∧ rhH x = z := by
  intro ws
  induction ws with
  | nil => intro acc; simp
  | cons x ws ih =>
    intro acc
    rw [List.foldl_cons, ih]
    constructor
    · rintro (h | ⟨y, hy, h1, h2⟩)
      · unfold mnF at h
        split at h
        · next hc =>
          simp only [Bool.and_eq_true] at hc
          rcases List.mem_append.1 h with h | h
          · exact .inl h
          · exact .inr ⟨x, List.mem_cons_self .., hc.1, (List.mem_singleton.1 h).symm⟩
        · exact .inl h
      · exact .inr ⟨y, List.mem_cons_of_mem _ hy, h1, h2⟩
    · rintro (h | ⟨y, hy, h1, h2⟩)
      · left; unfold mnF; split
        · exact List.mem_append_left _ h
        · exact h
      · rcases List.mem_cons.1 hy with rfl | hy
        · left
          unfold mnF
          cases hi : inH acc (rhH y)
          · rw [h1]; simp [h2]
          · rw [if_neg (by simp)]; rw [← h2]; exact inH_iff.1 hi
        · exact .inr ⟨y, hy, h1, h2⟩
theorem fv_all {f : List Ha} (h : fvB f = true) : ∀ z ∈ f, hdV z = true := fun z hz => by
  obtain ⟨k, hk⟩ := List.mem_iff_getElem?.1 hz
  exact ((fvB_parts h).2 k z hk).1
theorem ad_named {s : ByteArray} {f : List Ha} (h : adV s f = true) : ∀ z ∈ f, inH (mnB (adX s f)) z = true := by
  intro z hz
  have h' := h
  simp only [adV, Bool.and_eq_true] at h'
  obtain ⟨⟨ht, hf⟩, hx⟩ := h'
  have hall := fv_all hf
  have e : adX s f = catH (f.filter fun h => !inH (mnB s) h) ++ s := by rw [adX, adF_cat, ba_empty]
  have hw := ws_cat s (f.filter fun h => !inH (mnB s) h) (fun x hx => hall x (List.mem_filter.1 hx).1)
  rw [inH_iff, mnB, wdB_yes hx, e, hw, mn_mem]
  right
  cases hi : inH (mnB s) z
  · have hm : z ∈ f.filter fun h => !inH (mnB s) h := List.mem_filter.2 ⟨hz, by rw [hi]; rfl⟩
    have hv := hall z hz
    refine ⟨ctB (htB z), List.mem_map_of_mem (List.mem_append_left _ (List.mem_map_of_mem hm)), ?_⟩
    rw [ht_cut hv]; exact ht_rh hv
  · have hm := inH_iff.1 hi
    rw [mnB, wdB_yes ht, mn_mem] at hm
    rcases hm with hm | ⟨x, hx, h1⟩
    · cases hm
    · obtain ⟨y, hy, rfl⟩ := List.mem_map.1 hx
      exact ⟨ctB y, List.mem_map_of_mem (List.mem_append_right _ hy), h1⟩
theorem ad_again {s : ByteArray} {f : List Ha} (h : adV s f = true) : adX (adX s f) f = adX s f := by
  have hn := ad_named h
  have e : f.filter (fun h => !inH (mnB (adX s f)) h) = [] := by
    rw [List.filter_eq_nil_iff]
    intro z hz
    rw [hn z hz]; simp
  conv => lhs; rw [adX, adF_cat, e, ba_empty]
  rw [catH, ba_empty]
theorem ad_V {s : ByteArray} {f : List Ha} (h : adV s f = true) : adV (adX s f) f = true := by
  have h' := h
  simp only [adV, Bool.and_eq_true] at h'
  obtain ⟨⟨ht, hf⟩, hx⟩ := h'
  rw [adV, ad_again h, hx, hf]; rfl
theorem ad_S {s : ByteArray} {f : List Ha} (h : adV s f = true) : adS (adX s f) f = adX s f := by rw [adS_yes (ad_V h), ad_again h]
theorem ad_tv {s : ByteArray} {f : List Ha} (h : adV s f = true) : tvB (adX s f) = true := by
  simp only [adV, Bool.and_eq_true] at h; exact h.2
end Go.Proofs.YtpbnbekkmifbpaaDoor
