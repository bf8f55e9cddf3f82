/-
  The drawing of AddressTo's input.
-/
import Derived.Test.YtpbnbekkmifbpaaDoorDrawSaid
import Derived.Test.YtpbnbekkmifbpaaDoorDrawFansM
namespace Go.Proofs.YtpbnbekkmifbpaaDoor
open Go.ChangeShapes Go.WideShapes Go.ChangeAt Go.RowKit Go.Joins
set_option linter.unusedVariables false

set_option maxHeartbeats 4000000 in
theorem dad_any (a : Option Addr) (len cap : Nat) (zs : List Int) (w0 w : World) (h : IsCode w0 a len cap zs) (hB : Below w0.heap.size w0 w) :
    Calls Tryd.prog 19 #[.slice a len cap] w fun e w' => ∃ (s : ByteArray) (v2 : Value) (m : Nat) (f : List Ha), e = .returned (.tuple #[.string s, v2]) ∧ s.size ≤ 81 ∧ m ≤ 7 ∧ w'.ownsRow w0.heap.size 29 2 v2 m (has f) ∧ (∀ y ∈ f, y.a.size ≤ 9 ∧ y.b.size ≤ 9) ∧ Below w0.heap.size w0 w' := by
  have HC := Lib.hid h
  have HB := Lib.hid hB
  clear h hB
  go_enter Tryd.func19, Tryd.ntmps19
  go_wp2_with fail
  refine (open_any a len cap zs w0 _ HC.out HB.out).mono ?_
  rintro e w1 ⟨R, rfl, hb1, hR1, hR2, hr1⟩
  have HB1 := Lib.hid (belB HB.out HB.out.size hb1)
  have HR1 := Lib.hid hr1
  have hR0 : w0.heap.size ≤ R := by have := HB.out.size; omega
  clear hb1 hr1
  go_wp2_with fail
  refine (l20sd_any _ R 0 _ HR1.out (by omega) (by omega)).mono ?_
  rintro e w2 ⟨s, rfl, hs, hg2, hr2⟩
  have HB2 := Lib.hid (below_pick HB1.out hg2 hR0 HB1.out.size)
  have HR2 := Lib.hid hr2
  clear hg2 hr2
  go_wp2_with fail
  refine (l20fa_any _ R 60 _ (rdr_more HR2.out (by omega)) (by omega) (by omega)).mono ?_
  rintro e w3 ⟨v2, m, f, rfl, hm, ho3, hs3, hg3, hr3⟩
  have HP3 := Lib.hid (own_less ho3 HB2.out.size)
  have HB3 := Lib.hid (below_pick HB2.out hg3 hR0 HB2.out.size)
  have HS3 := Lib.hid hs3
  clear ho3 hs3 hg3 hr3
  go_wp2_with fail
  go_ret2
  exact ⟨s, v2, m, f, rfl, hs, hm, HP3.out, HS3.out, HB3.out⟩
end Go.Proofs.YtpbnbekkmifbpaaDoor
