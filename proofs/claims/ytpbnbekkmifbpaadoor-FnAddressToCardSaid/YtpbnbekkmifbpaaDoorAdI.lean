/-
  The contract of AddressTo of the program.
-/
import Derived.Test.YtpbnbekkmifbpaaDoorExMent
import Derived.Test.YtpbnbekkmifbpaaDoorFansM
namespace Go.Proofs.YtpbnbekkmifbpaaDoor
open Go.ChangeShapes Go.WideShapes Go.ChangeAt Go.RowKit Go.Joins
set_option linter.unusedVariables false

/-- One follower more. -/
def adF (N : List Ha) (t : ByteArray) (h : Ha) : ByteArray := if inH N h = true then t else t ++ (htB h ++ ⟨#[32]⟩)
def adK (N f : List Ha) (k : Nat) : ByteArray := (f.take k).foldl (adF N) ⟨#[]⟩
def adX (s : ByteArray) (f : List Ha) : ByteArray := f.foldl (adF (mnB s)) ⟨#[]⟩ ++ s
def adV (s : ByteArray) (f : List Ha) : Bool := tvB s && fvB f && tvB (adX s f)
/-- What AddressTo answers. -/
def adS (s : ByteArray) (f : List Ha) : ByteArray := if adV s f = true then adX s f else ⟨#[]⟩
theorem adK_0 (N f : List Ha) : adK N f 0 = ⟨#[]⟩ := by simp [adK]
theorem adK_end (N f : List Ha) : adK N f f.length = f.foldl (adF N) ⟨#[]⟩ := by simp [adK]
theorem adK_succ {N f : List Ha} {k : Nat} {z : Ha} (h : f[k]? = some z) : adK N f (k + 1) = adF N (adK N f k) z := by
  unfold adK; rw [take_snoc_get f k z h, List.foldl_append]; rfl
theorem adF_in {N : List Ha} {t : ByteArray} {z : Ha} (h : inH N z = true) : adF N t z = t := by rw [adF, if_pos h]
theorem adF_out {N : List Ha} {t : ByteArray} {z : Ha} (h : inH N z = false) : adF N t z = t ++ (htB z ++ ⟨#[32]⟩) := by rw [adF, if_neg (by rw [h]; simp)]
theorem adF_size (N : List Ha) (t : ByteArray) (z : Ha) : (adF N t z).size ≤ t.size + 19 := by
  unfold adF; split
  · omega
  · have := htB_size z
    have h1 : (⟨#[32]⟩ : ByteArray).size = 1 := rfl
    simp only [ByteArray.size_append]; omega
theorem adK_size (N f : List Ha) : ∀ k, (adK N f k).size ≤ 19 * k
  | 0 => by rw [adK_0]; exact Nat.zero_le _
  | k + 1 => by
    by_cases h : k < f.length
    · rw [adK_succ (List.getElem?_eq_getElem h)]
      have := adF_size N (adK N f k) f[k]; have := adK_size N f k; omega
    · have e : adK N f (k + 1) = adK N f k := by unfold adK; rw [List.take_of_length_le (by omega), List.take_of_length_le (by omega)]
      have := adK_size N f k; rw [e]; omega
theorem adV_t {s : ByteArray} {f : List Ha} (h : tvB s = false) : adV s f = false := by rw [adV, h]; rfl
theorem adV_f {s : ByteArray} {f : List Ha} (h : fvB f = false) : adV s f = false := by rw [adV, h]; simp
theorem adV_x {s : ByteArray} {f : List Ha} (h : tvB s = true) (h2 : fvB f = true) : adV s f = tvB (adX s f) := by rw [adV, h, h2]; rfl
theorem adS_no {s : ByteArray} {f : List Ha} (h : adV s f = false) : adS s f = ⟨#[]⟩ := by rw [adS, if_neg (by rw [h]; simp)]
theorem adS_yes {s : ByteArray} {f : List Ha} (h : adV s f = true) : adS s f = adX s f := by rw [adS, if_pos h]

set_option maxRecDepth 100000 in
set_option maxHeartbeats 8000000 in
theorem iad_any (s : ByteArray) (A : Option Addr) (n c : Nat) (l : List Ha) (w : World) (hs : s.size ≤ 1048576) (h : Rd w 2 A n (has l)) (hnc : n ≤ c) (hc : c ≤ maxLen) (hz : ∀ z ∈ l, z.a.size ≤ maxLen ∧ z.b.size ≤ maxLen) :
    Calls Tryd.prog 20 #[.string s, .slice A n c] w fun e w' => e = .returned (.tuple #[.string (adS s l), .bool (adV s l)]) ∧ Below w.heap.size w w' := by
  have hl := rd_halen h
  have HS : Hid (s.size ≤ maxLen) := Lib.hid (by simp only [maxLen]; omega)
  have H := Lib.hid h; have HNC := Lib.hid hnc; have HC := Lib.hid hc; have HZ := Lib.hid hz; have HL := Lib.hid hl
  clear h hnc hc hz hl
  cases ht : tvB s
  · have HV := Lib.hid (adV_t (f := l) ht); have HX := Lib.hid (adS_no HV.out)
    go_enter Tryd.func20, Tryd.ntmps20
    go_wp2_with fail
    refine (itv_any _ _ HS.out).mono ?_
    rw [ht]
    rintro e w' ⟨rfl, rfl⟩
    go_wp2_with fail
    go_ret2
    exact ⟨by rw [HV.out, HX.out]; rfl, Below.refl _ _⟩
  · have hs80 := tvB_size ht
    cases hf : fvB l
    · have HV := Lib.hid (adV_f (s := s) hf); have HX := Lib.hid (adS_no HV.out)
      go_enter Tryd.func20, Tryd.ntmps20
      go_wp2_with fail
      refine (itv_any _ _ HS.out).mono ?_
      rw [ht]
      rintro e w' ⟨rfl, rfl⟩
      go_wp2_with fail
      refine (ifv_any _ _ _ _ _ H.out HNC.out HC.out HZ.out).mono ?_
      rw [hf]
      rintro e w1 ⟨rfl, hb1⟩
      have HB1 := Lib.hid hb1; clear hb1
      go_wp2_with fail
      go_ret2
      exact ⟨by rw [HV.out, HX.out]; rfl, HB1.out⟩
    · have HVX := Lib.hid (adV_x ht hf)
      have hn10 : n ≤ 10 := by rw [← HL.out]; exact (fvB_parts hf).1
      have HADE : Hid (adX s l = adK (mnB s) l n ++ s) := Lib.hid (by rw [← HL.out, adK_end]; rfl)
      have HAN := Lib.hid (fun h => adS_no (s := s) (f := l) h); have HAY := Lib.hid (fun h => adS_yes (s := s) (f := l) h)
      have HF := Lib.hid hf; have HT := Lib.hid ht
      have HIM := Lib.hid (fun w => imn_any s w hs)
      have hmn := mnB_small s
      clear hf ht
      generalize mnB s = N at *
      go_enter Tryd.func20, Tryd.ntmps20
      go_wp2_with fail
      refine (itv_any _ _ HS.out).mono ?_
      rw [HT.out]
      rintro e w' ⟨rfl, rfl⟩
      go_wp2_with fail
      refine (ifv_any _ _ _ _ _ H.out HNC.out HC.out HZ.out).mono ?_
      rw [HF.out]
      rintro e w1 ⟨rfl, hb1⟩
      have HB1 := Lib.hid hb1; clear hb1
      go_wp2_with fail
      refine (HIM.out _).mono ?_
      rintro e w2 ⟨v, rfl, ho2, hb2⟩
      obtain ⟨A2, c2, rfl, hnc2, hcm2, hrd2⟩ := own_form ho2
      have HRN := Lib.hid hrd2
      have HB2 := Lib.hid (belt HB1.out hb2)
      have H2 := Lib.hid (H.out.below HB2.out)
      clear ho2 hb2 hnc2 hcm2 hrd2 HIM
      generalize N.length = m at *
      go_wp2_with fail
      go_loopw [7, 22] (fun t i wr => ∃ k : Nat, k ≤ n ∧ i = .int .i64 k ∧ t = .string (adK N l k) ∧ Below w2.heap.size w2 wr) (fun _ i _ => n - (intOf i).toNat)
      case atStart => exact ⟨0, Nat.zero_le _, rfl, by rw [adK_0], Below.refl _ _⟩
      case round =>
        obtain ⟨k, hk, rfl, rfl, hb⟩ := hrel
        have HB := Lib.hid hb; clear hb
        have hks := adK_size N l k
        by_cases hlt : k < n
        · obtain ⟨b, off, z, rfl, hbl, hz, hc0, hc1⟩ := (H2.out.below HB.out).ha hlt
          have HZS := Lib.hid (HZ.out z (List.mem_of_getElem? hz))
          have HK1 := Lib.hid (adK_succ (N := N) hz)
          have hth := htB_size z
          clear hz
          generalize hT : adK N l k = T at *
          clear hT
          have HT0 := Lib.hid (ht_impl z.a z.b)
          obtain ⟨za, zb⟩ := z
          cases hin : inH N ⟨za, zb⟩
          · have HE : Hid (adK N l (k + 1) = T ++ (htB ⟨za, zb⟩ ++ ⟨#[32]⟩)) := Lib.hid (by rw [HK1.out]; exact adF_out hin)
            clear HK1
            go_wp2_with fail
            refine (con_any _ _ _ N ⟨za, zb⟩ _ ((HRN.out.below HB.out).alloc _) (by simp only [maxLen]; omega)).mono ?_
            rw [hin]
            rintro e w4 ⟨rfl, hb4⟩
            have hk4 : Bk w4 wr.heap.size 29 #[.string za, .string zb] := (Bk.new wr _ _).keep hb4
            have HB4 := Lib.hid (belB HB.out HB.out.size (bela hb4))
            have d0 := hk4.cell 0 (v := .string za) rfl
            have d1 := hk4.cell 1 (v := .string zb) rfl
            have hl4 := hk4.lt
            clear hb4 hk4 hc0 hc1
            go_wp2_with fail
            refine (ht_impl za zb _ HZS.out.1 HZS.out.2).mono ?_
            rintro e w5 ⟨rfl, hb5⟩
            have HB5 := Lib.hid (belB HB4.out HB4.out.size hb5)
            clear hb5 d0 d1
            generalize htB ⟨za, zb⟩ = Y at *
            go_wp2
            go_roundw
            case rel => exact ⟨k + 1, by omega, by go_num, by rw [HE.out], HB5.out⟩
            case measure => simp [intOf]; omega
          · have HE : Hid (adK N l (k + 1) = T) := Lib.hid (by rw [HK1.out]; exact adF_in hin)
            clear HK1
            go_wp2_with fail
            refine (con_any _ _ _ N ⟨za, zb⟩ _ ((HRN.out.below HB.out).alloc _) (by simp only [maxLen]; omega)).mono ?_
            rw [hin]
            rintro e w4 ⟨rfl, hb4⟩
            have HB4 := Lib.hid (belB HB.out HB.out.size (bela hb4))
            clear hb4 hc0 hc1
            go_wp2
            go_roundw
            case rel => exact ⟨k + 1, by omega, by go_num, by rw [HE.out], HB4.out⟩
            case measure => simp [intOf]; omega
        · obtain rfl : k = n := by omega
          generalize hT : adK N l k = T at *
          have hxs : (adX s l).size ≤ maxLen := by rw [HADE.out, ByteArray.size_append]; simp only [maxLen]; omega
          have HXS := Lib.hid hxs; clear hxs hT
          cases hv : tvB (adX s l)
          all_goals
            rw [hv] at HVX
            (first | have HR := Lib.hid (HAY.out HVX.out) | have HR := Lib.hid (HAN.out HVX.out))
            have HTV := Lib.hid hv; clear hv
            rw [HADE.out] at HXS HTV
            try rw [HADE.out] at HR
            go_wp2_with fail
            refine (itv_any _ _ HXS.out).mono ?_
            rw [HTV.out]
            rintro e w' ⟨rfl, rfl⟩
            go_wp2_with fail
            go_ret2
            exact ⟨by rw [HVX.out, HR.out]; rfl, belt HB2.out HB.out⟩
end Go.Proofs.YtpbnbekkmifbpaaDoor
