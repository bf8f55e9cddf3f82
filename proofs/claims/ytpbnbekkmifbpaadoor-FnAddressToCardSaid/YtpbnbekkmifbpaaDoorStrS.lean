/-
  Lists of texts: eqStringS, markStringS, heldStringS.
-/
import Derived.Test.YtpbnbekkmifbpaaDoorMarkT
namespace Go.Proofs.YtpbnbekkmifbpaaDoor
open Go.ChangeShapes Go.WideShapes Go.ChangeAt Go.RowKit Go.Joins
set_option linter.unusedVariables false

/-- Texts as cells. -/
def svs (zs : List ByteArray) : List Value := zs.map Value.string
theorem svs_len (zs : List ByteArray) : (svs zs).length = zs.length := by simp [svs]
theorem svs_app (a b : List ByteArray) : svs (a ++ b) = svs a ++ svs b := by simp [svs]
theorem svs_one (z : ByteArray) : svs [z] = [.string z] := rfl
theorem rd_slen {w : World} {A : Option Addr} {n : Nat} {zs : List ByteArray} (h : Rd w 1 A n (svs zs)) : zs.length = n := by have := h.1; rw [svs_len] at this; omega
theorem Rd.sv {w : World} {A : Option Addr} {n k : Nat} {zs : List ByteArray} (h : Rd w 1 A n (svs zs)) (hk : k < n) :
    ∃ (b off : Nat) (z : ByteArray), A = some ⟨b, off, none⟩ ∧ b < w.heap.size ∧ zs[k]? = some z ∧ w.cell? ⟨b, off + k, none⟩ = some (.string z) := Rd.str h hk
theorem str_info : (Tryd.prog.info? 9).map (fun i => (i.zero, i.size, i.bytes)) = some (some (.string ⟨#[]⟩), 1, 16) := by kernel_rfl
/-- The marks from k on. -/
def mkS (k : Int) (n : Nat) : List ByteArray := (List.range n).map fun (j : Nat) => mtx (k + (j : Int))
theorem mkS_get {k : Int} {n j : Nat} (h : j < n) : (mkS k n)[j]? = some (mtx (k + (j : Int))) := by simp [mkS, h]
theorem mkS_len (k : Int) (n : Nat) : (mkS k n).length = n := by simp [mkS]

theorem eqS_same (A B : Option Addr) (n c d : Nat) (zs : List ByteArray) (w : World) (h1 : Rd w 1 A n (svs zs)) (h2 : Rd w 1 B n (svs zs)) (hn : n ≤ 1048576) :
    Calls Tryd.prog 29 #[.slice A n c, .slice B n d] w fun e w' => e = .returned (.bool true) ∧ Below w.heap.size w w' := by
  have H1 := Lib.hid h1; have H2 := Lib.hid h2; clear h1 h2
  go_enter Tryd.func29, Tryd.ntmps29
  go_wp2
  go_loopw [5] (fun i wr => ∃ k : Nat, k ≤ n ∧ i = .int .i64 k ∧ ∃ q, w.drewN q = wr) (fun i _ => n - (intOf i).toNat)
  case atStart => exact ⟨0, Nat.zero_le _, rfl, 0, rfl⟩
  case round =>
    obtain ⟨k, hk, rfl, q, rfl⟩ := hrel
    by_cases hlt : k < n
    · obtain ⟨b, off, z, rfl, hbl, hz, hc⟩ := H1.out.sv hlt
      obtain ⟨b2, off2, z2, rfl, hbl2, hz2, hc2⟩ := H2.out.sv hlt
      obtain rfl : z = z2 := by rw [hz] at hz2; injection hz2
      clear hz hz2
      go_wp2
      go_quiet (fail)
      go_wp2
      go_roundw
      case rel => exact ⟨k + 1, by omega, by go_num, _, rfl⟩
      case measure => simp [intOf]; omega
    · obtain rfl : k = n := by omega
      go_wp2
      go_ret
      exact ⟨rfl, belq (q := q) rfl⟩
theorem eqT_same (A B : Option Addr) (n c d : Nat) (zs : List ByteArray) (w : World) (h1 : Rd w 1 A n (svs zs)) (h2 : Rd w 1 B n (svs zs)) (hn : n ≤ 1048576) :
    Calls Tryd.prog 26 #[.slice A n c, .slice B n d] w fun e w' => e = .returned (.bool true) ∧ Below w.heap.size w w' := by
  have H1 := Lib.hid h1; have H2 := Lib.hid h2; clear h1 h2
  go_enter Tryd.func26, Tryd.ntmps26
  go_wp2
  go_loopw [5] (fun i wr => ∃ k : Nat, k ≤ n ∧ i = .int .i64 k ∧ ∃ q, w.drewN q = wr) (fun i _ => n - (intOf i).toNat)
  case atStart => exact ⟨0, Nat.zero_le _, rfl, 0, rfl⟩
  case round =>
    obtain ⟨k, hk, rfl, q, rfl⟩ := hrel
    by_cases hlt : k < n
    · obtain ⟨b, off, z, rfl, hbl, hz, hc⟩ := H1.out.sv hlt
      obtain ⟨b2, off2, z2, rfl, hbl2, hz2, hc2⟩ := H2.out.sv hlt
      obtain rfl : z = z2 := by rw [hz] at hz2; injection hz2
      clear hz hz2
      go_wp2
      go_quiet (fail)
      go_wp2
      go_roundw
      case rel => exact ⟨k + 1, by omega, by go_num, _, rfl⟩
      case measure => simp [intOf]; omega
    · obtain rfl : k = n := by omega
      go_wp2
      go_ret
      exact ⟨rfl, belq (q := q) rfl⟩

theorem markS_any (A : Option Addr) (n c base : Nat) (xs : List Value) (k0 : Int) (w : World) (h : w.ownsRow base 9 1 (.slice A n c) n xs) (hn : n ≤ 1048576) (h0 : 0 < k0) (h1 : k0 ≤ 10000000) :
    Calls Tryd.prog 30 #[.slice A n c, .int .i64 k0] w fun e w' => e = .returned (.int .i64 (k0 + (n : Int))) ∧ w'.ownsRow base 9 1 (.slice A n c) n (svs (mkS k0 n)) ∧ w.grownBy w' (Value.slice A n c).ownBlock := by
  have H := Lib.hid h; clear h
  go_enter Tryd.func30, Tryd.ntmps30
  go_wp2
  go_loopw [1, 5] (fun m i wr => ∃ k : Nat, k ≤ n ∧ i = .int .i64 k ∧ m = .int .i64 (k0 + k) ∧ ∃ ys : List Value, wr.ownsRow base 9 1 (.slice A n c) n ys ∧ Fill (svs (mkS k0 n)) ys n k ∧ w.grownBy wr (Value.slice A n c).ownBlock)
    (fun _ i _ => n - (intOf i).toNat)
  case atStart => exact ⟨0, Nat.zero_le _, rfl, by simp, _, H.out, fill_0 (by have := H.out.1; omega), World.grownBy.refl _ _⟩
  case round =>
    obtain ⟨k, hk, rfl, rfl, ys, ho, hf, hg⟩ := hrel
    by_cases hlt : k < n
    · obtain ⟨g, rfl, hgb, hgl⟩ := own_at ho hlt
      have HO := Lib.hid ho; have HF := Lib.hid hf; have HG := Lib.hid hg
      clear ho hf hg
      go_wp2_with fail
      refine (mt_any _ _ (by omega) (by omega)).mono ?_
      rintro e w2 ⟨rfl, hb2⟩
      have HO2 := Lib.hid (own_below HO.out hb2); have HG2 := Lib.hid (grown_tr HG.out (grown_of_below hb2))
      clear hb2
      obtain ⟨old, hold⟩ : ∃ u, w2.cell? ⟨g, k, none⟩ = some u := ⟨_, (HO2.out.cellAt k (by omega)).trans (List.getElem?_eq_getElem (by rw [HF.out.1]; exact hlt))⟩
      have hfr := HO2.out.frozenAt k
      generalize hmt : mtx (k0 + (k : Int)) = mt at *
      have HMT := Lib.hid hmt; clear hmt
      go_wp2
      go_roundw
      case rel => exact ⟨k + 1, by omega, by go_num, by go_num, _, (HO2.out.stored k _).1, fill_step HF.out hlt (by rw [svs, List.getElem?_map, mkS_get hlt, HMT.out]; rfl), grown_tr HG2.out (HO2.out.stored k _).2⟩
      case measure => simp [intOf]; omega
    · obtain rfl : k = n := by omega
      have e := fill_end hf (by rw [svs_len, mkS_len])
      have HE := Lib.hid e; clear e
      have HO := Lib.hid ho; have HG := Lib.hid hg
      clear ho hf hg
      go_wp2
      go_ret
      exact ⟨rfl, by rw [← HE.out]; exact HO.out, HG.out⟩
theorem heldS_any (A : Option Addr) (n c : Nat) (k0 : Int) (w : World) (h : Rd w 1 A n (svs (mkS k0 n))) (hn : n ≤ 1048576) (h0 : 0 < k0) (h1 : k0 ≤ 10000000) :
    Calls Tryd.prog 31 #[.slice A n c, .int .i64 k0] w fun e w' => e = .returned (.int .i64 (k0 + (n : Int))) ∧ Below w.heap.size w w' := by
  have H := Lib.hid h; clear h
  go_enter Tryd.func31, Tryd.ntmps31
  go_wp2
  go_loopw [1, 5] (fun m i wr => ∃ k : Nat, k ≤ n ∧ i = .int .i64 k ∧ m = .int .i64 (k0 + k) ∧ Below w.heap.size w wr) (fun _ i _ => n - (intOf i).toNat)
  case atStart => exact ⟨0, Nat.zero_le _, rfl, by simp, Below.refl _ _⟩
  case round =>
    obtain ⟨k, hk, rfl, rfl, hb⟩ := hrel
    by_cases hlt : k < n
    · obtain ⟨b, off, z, rfl, hbl, hz, hc⟩ := (H.out.below hb).sv hlt
      obtain rfl : z = mtx (k0 + (k : Int)) := by rw [mkS_get hlt] at hz; injection hz with hz; exact hz.symm
      generalize hmt : mtx (k0 + (k : Int)) = mt at *
      have HMT := Lib.hid hmt; have HB := Lib.hid hb; clear hmt hz hb
      go_wp2_with fail
      go_region_held3 (fun w' => w'.cell? ⟨b, off + k, none⟩ = some (.string mt)) (first | assumption | (refine drew_some ?_; assumption))
        (first | (go_at_call 42; refine (mt_any _ _ (by omega) (by omega)).mono ?_; rw [HMT.out]; rintro e w2 ⟨rfl, hb2⟩; have hc2 := (hb2.cell (p := ⟨b, off + k, none⟩) hbl).trans hc))
      have HB2 := Lib.hid (belB HB.out HB.out.size (beld hb2))
      clear hb2
      go_wp2
      go_roundw
      case rel => exact ⟨k + 1, by omega, by go_num, by go_num, by first | exact HB2.out | exact HB2.out.drew⟩
      case measure => simp [intOf]; omega
    · obtain rfl : k = n := by omega
      have HB := Lib.hid hb; clear hb
      go_wp2
      go_ret
      exact ⟨rfl, HB.out⟩
end Go.Proofs.YtpbnbekkmifbpaaDoor
