/-
  The drawing of a host, and the walk of the law of HostValid.
-/
import Derived.Test.YtkdpambhdjinjaaDrawHost2
namespace Go.Proofs.Ytkdpambhdjinjaa
open Go.ChangeShapes Go.WideShapes Go.ChangeAt Go.RowKit Go.Joins
set_option linter.unusedVariables false
set_option linter.unusedSimpArgs false

theorem dhv_any (a : Option Addr) (len cap : Nat) (zs : List Int) (w0 w : World) (h : IsCode w0 a len cap zs) (hB : Below w0.heap.size w0 w) :
    Calls Try.prog 17 #[.slice a len cap] w fun e w' => ∃ (s : ByteArray) (f u : Int), e = .returned (sv s f u) ∧ hostSm s f u ∧ Below w.heap.size w w' := by
  have H := Lib.hid h; clear h
  have HB := Lib.hid hB; clear hB
  go_enter Try.func17, Try.ntmps17
  go_wp2_with fail
  refine (open_any _ _ _ _ _ _ H.out (HB.out.alloc HB.out.size _)).mono ?_
  rintro e w1 ⟨R, rfl, hb, hR, hR2, hr⟩
  have HB1 := Lib.hid hb; have HR := Lib.hid hr; clear hb hr
  go_wp2_with fail
  refine (l20h_any _ _ 0 _ HR.out (by omega) (by omega)).mono ?_
  rintro e w2 ⟨s, f, u, rfl, hs, hg, hr⟩
  have HB2 := Lib.hid (below_of_grown HB1.out hR hg)
  have HS := Lib.hid hs
  clear hg hr hs
  have s0 := slotB HB2.out 0 _ rfl
  have s1 := slotB HB2.out 1 _ rfl
  have s2 := slotB HB2.out 2 _ rfl
  have t0 := slotBf HB2.out 0
  have t1 := slotBf HB2.out 1
  have t2 := slotBf HB2.out 2
  go_wp2
  refine bodyPost_ret (v := sv _ _ _) (by simp [results, Try.results17, go_sem, s0, s1, s2]; exact ⟨rfl, rfl, rfl⟩) rfl ?_
  refine ⟨_, _, _, rfl, HS.out, ?_⟩
  exact ((((below_slot rfl HB2.out).setCell (p := ⟨w.heap.size, 0, none⟩) (Nat.le_refl _) _).setCell (p := ⟨w.heap.size, 1, none⟩) (Nat.le_refl _) _).setCell (p := ⟨w.heap.size, 2, none⟩) (Nat.le_refl _) _)

theorem hvB_5 (s : ByteArray) : hvB s 0 5 = false := by simp [hvB]
theorem hvB_0 {s : ByteArray} {f u : Int} (h : hvB s f u = true) : hvB s 0 0 = true :=
  hvB_iff.2 ⟨(hvB_iff.1 h).1, ⟨by omega, by omega⟩, ⟨by omega, by omega⟩, .inl rfl⟩

theorem walkHostValid (a : Option Addr) (len cap : Nat) (zs : List Int) (w : World) (h : IsCode w a len cap zs) :
    Calls Try.prog 5 #[.slice a len cap] w fun e w' => e = .returned (.bool true) ∧ Below w.heap.size w w' := by
  obtain ⟨hl, hm⟩ := code_len h
  unfold maxLen at hm
  have H := Lib.hid h; clear h
  by_cases hb : (1048576 : Int) < (len : Int)
  · go_enter Try.func5, Try.ntmps5
    go_wp2
    go_ret
    exact ⟨rfl, by go_grown⟩
  · go_enter Try.func5, Try.ntmps5
    go_wp2_with fail
    refine (dhv_any _ _ _ _ _ _ H.out (Below.refl _ _)).mono ?_
    rintro e w1 ⟨s, f, u, rfl, hs, hb1⟩
    have HB1 := Lib.hid hb1
    have HS : Hid (s.size ≤ maxLen) := Lib.hid (by have := hs.1; unfold maxLen; omega)
    clear hb1 hs
    have h1 := hvB_5 s
    cases hv : hvB s f u
    · go_wp2_with (first | (go_at_call 14; refine (ihv_any _ _ _ _ HS.out).mono ?_; rintro e w1 ⟨rfl, rfl⟩) | (go_at_call 12; refine (shv_any _ _ _ _ HS.out).mono ?_; rintro e w1 ⟨rfl, rfl⟩) | (go_at_call 18; refine (alive_any _).mono ?_; rintro e w1 ⟨rfl, rfl⟩))
      go_ret
      refine ⟨rfl, bthen HB1.out (by go_grown)⟩
    · have hv2 := hvB_0 hv
      go_wp2_with (first | (go_at_call 14; refine (ihv_any _ _ _ _ HS.out).mono ?_; rintro e w1 ⟨rfl, rfl⟩) | (go_at_call 12; refine (shv_any _ _ _ _ HS.out).mono ?_; rintro e w1 ⟨rfl, rfl⟩) | (go_at_call 18; refine (alive_any _).mono ?_; rintro e w1 ⟨rfl, rfl⟩))
      go_ret
      refine ⟨rfl, bthen HB1.out (by go_grown)⟩
end Go.Proofs.Ytkdpambhdjinjaa
