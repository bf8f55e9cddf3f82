/-
  The drawing of inputs: the reader, 'pick', 'odd', 'l20Open'.
-/
import Derived.Test.YtpbnbekkmifbpaaDoorBase
import Derived.StillTailTactics
import Derived.Deep.RegionHeld3
namespace Go.Proofs.YtpbnbekkmifbpaaDoor
open Go.ChangeShapes Go.WideShapes Go.ChangeAt Go.RowKit Go.Joins
set_option linter.unusedVariables false
variable {L : Nat}

/-- A slice of bytes that came in: nil, or a row of cells. -/
def IsCode (w : World) (a : Option Addr) (len cap : Nat) (zs : List Int) : Prop :=
  (a = none ∧ len = 0 ∧ cap = 0 ∧ zs = []) ∨
  ∃ x, a = some x ∧ len ≤ cap ∧ cap ≤ maxLen ∧ zs.length = cap ∧ (∀ i, i < zs.length → w.cell? (x.add i) = some (.int .u8 (zs.getD i 0))) ∧ ∀ n ∈ zs, (Lit.int .u8 n).wf = true

/-- The bytes of the reader, each below block R. -/
def Byts (w : World) (R : Nat) (A : Option Addr) (n : Nat) : Prop := 0 < n → ∃ b off : Nat, A = some ⟨b, off, none⟩ ∧ b < R ∧ ∀ j, j < n → ∃ v : Int, 0 ≤ v ∧ v ≤ 255 ∧ w.cell? ⟨b, off + j, none⟩ = some (.int .u8 v)
/-- Block R is a reader that was asked at most q times; its bytes lie below block L. -/
def Rdr (w : World) (L R q : Nat) : Prop :=
  ∃ (A : Option Addr) (n c p : Nat), w.heap[R]? = some (.cells #[.slice A n c, .int .i64 p] 67 (0, 0)) ∧ p ≤ q ∧ n ≤ 2000 ∧ n ≤ c ∧ c ≤ maxLen ∧ L ≤ R ∧ Byts w L A n

theorem xor_nn (x y : Int) (h1 : 0 ≤ x) (h2 : x < 4294967296) (h3 : 0 ≤ y) (h4 : y < 4294967296) : 0 ≤ bits .xor .i64 x y := by
  obtain ⟨a, rfl⟩ := Int.eq_ofNat_of_zero_le h1
  obtain ⟨b, rfl⟩ := Int.eq_ofNat_of_zero_le h3
  have hx : a ^^^ b < 2 ^ 32 := Nat.xor_lt_two_pow (by omega) (by omega)
  have e1 : (BitVec.ofInt 64 (a : Int)).toNat = a := by
    rw [BitVec.ofInt_natCast, BitVec.toNat_ofNat]; exact Nat.mod_eq_of_lt (by omega)
  have e2 : (BitVec.ofInt 64 (b : Int)).toNat = b := by
    rw [BitVec.ofInt_natCast, BitVec.toNat_ofNat]; exact Nat.mod_eq_of_lt (by omega)
  show 0 ≤ IntKind.i64.wrap ((BitVec.ofInt 64 (a : Int) ^^^ BitVec.ofInt 64 (b : Int)).toNat : Int)
  rw [BitVec.toNat_xor, e1, e2, IntKind.wrap_i64]
  omega
theorem tmod_nat (x n : Int) (h : 0 ≤ x) (hn : 1 ≤ n) : ∃ k : Nat, x.tmod n = (k : Int) ∧ (k : Int) < n := by
  rw [Int.tmod_eq_emod_of_nonneg h]
  have h1 := Int.emod_nonneg x (show n ≠ 0 by omega)
  have h2 := Int.emod_lt_of_pos x (show 0 < n by omega)
  obtain ⟨k, hk⟩ := Int.eq_ofNat_of_zero_le h1
  exact ⟨k, hk, by omega⟩
theorem emod_nat (x n : Int) (h : 0 ≤ x) (hn : 1 ≤ n) : ∃ k : Nat, x % n = (k : Int) ∧ (k : Int) < n := by
  have h1 := Int.emod_nonneg x (show n ≠ 0 by omega)
  have h2 := Int.emod_lt_of_pos x (show 0 < n by omega)
  obtain ⟨k, hk⟩ := Int.eq_ofNat_of_zero_le h1
  exact ⟨k, hk, by omega⟩
theorem grown_set (w : World) (R i : Nat) (v : Value) : w.grownBy (w.setCell ⟨R, i, none⟩ v) (some R) :=
  ⟨rfl, rfl, rfl, by simp [World.setCell], fun k hk hne => Below.heap_setCell w _ v k (by rintro rfl; exact hne rfl)⟩
theorem grown_drewN {a w : World} {row : Option Nat} (h : a.grownBy w row) (n : Nat) : a.grownBy (w.drewN n) row := ⟨h.os, h.tape, h.output, h.size, h.block⟩
theorem grown_trans' {a b c : World} {R : Nat} (h : a.grownBy b (some R)) (k : b.grownBy c (some R)) : a.grownBy c (some R) :=
  ⟨k.os.trans h.os, k.tape.trans h.tape, k.output.trans h.output, Nat.le_trans h.size k.size, fun i hi hne => (k.block i (Nat.lt_of_lt_of_le hi h.size) hne).trans (h.block i hi hne)⟩
theorem byts_keep {w w' : World} {R : Nat} {A : Option Addr} {n : Nat} (h : Byts w R A n) (hk : ∀ b o, b < R → w'.cell? ⟨b, o, none⟩ = w.cell? ⟨b, o, none⟩) : Byts w' R A n := fun hn => by
  obtain ⟨b, off, hA, hb, hc⟩ := h hn
  exact ⟨b, off, hA, hb, fun j hj => by
    obtain ⟨v, h1, h2, h3⟩ := hc j hj
    exact ⟨v, h1, h2, (hk b _ hb).trans h3⟩⟩
theorem rdr_set {w : World} {R p m c q nq : Nat} {A : Option Addr} (hb : w.heap[R]? = some (.cells #[.slice A m c, .int .i64 p] 67 (0, 0))) (hp : p ≤ q) (hm : m ≤ 2000) (hmc : m ≤ c) (hc : c ≤ maxLen) (hLR : L ≤ R) (hby : Byts w L A m) :
    Rdr ((w.setCell ⟨R, 1, none⟩ (.int .i64 ((p : Int) + 1))).drewN nq) L R (q + 1) := by
  refine ⟨A, m, c, p + 1, ?_, by omega, hm, hmc, hc, hLR, ?_⟩
  · show ((w.setCell ⟨R, 1, none⟩ (.int .i64 ((p : Int) + 1)))).heap[R]? = _
    simp [World.setCell, Array.getElem?_modify, hb]
  · exact byts_keep hby fun b o hbR => World.cell?_setCell_other w _ _ _ (fun e => by injection e; omega)
theorem grown_pick (w : World) (R nq : Nat) (v : Value) : w.grownBy ((w.setCell ⟨R, 1, none⟩ v).drewN nq) (some R) := grown_drewN (grown_set w R 1 v) nq

theorem pick_any (w : World) (R q : Nat) (n : Int) (h : Rdr w L R q) (hq : q ≤ 1000000) :
    Calls Tryd.prog 54 #[.pointer (some ⟨R, 0, none⟩), .int .i64 n] w fun e w' => ∃ k : Nat, e = .returned (.int .i64 k) ∧ ((k : Int) < n ∨ k = 0) ∧ w.grownBy w' (some R) ∧ Rdr w' L R (q + 1) := by
  obtain ⟨A, m, c, p, hb, hp, hm, hmc, hc, hLR, hby⟩ := h
  have c0 : w.cell? ⟨R, 0, none⟩ = some (.slice A m c) := by simp [World.cell?, hb]
  have c1 : w.cell? ⟨R, 1, none⟩ = some (.int .i64 p) := by simp [World.cell?, hb]
  have f1 : w.frozen? ⟨R, 1, none⟩ = false := by simp [World.frozen?, hb]
  have HB := Lib.hid hb; clear hb
  have HBY := Lib.hid hby
  by_cases hn : n < 1
  · clear hby
    go_enter Tryd.func54, Tryd.ntmps54
    go_wp2
    go_ret
    exact ⟨0, rfl, .inr rfl, grown_pick w R 0 _, rdr_set (nq := 0) HB.out hp hm hmc hc hLR HBY.out⟩
  · by_cases hm0 : m = 0
    · clear hby
      have hm0' : ((m : Int) == 0) = true := by simp [hm0]
      have HM := Lib.hid hm0; clear hm0
      go_enter Tryd.func54, Tryd.ntmps54
      go_wp2
      go_ret
      exact ⟨0, rfl, .inr rfl, grown_pick w R 0 _, rdr_set (nq := 0) HB.out hp hm hmc hc hLR HBY.out⟩
    · have hm0' : ((m : Int) == 0) = false := by simp [hm0]
      have hmp : 0 < m := by omega
      clear hm0
      obtain ⟨b, off, rfl, hbL, hcell⟩ := hby hmp
      have hbR : b < R := Nat.lt_of_lt_of_le hbL hLR
      clear hby
      by_cases hpm : p < m
      · obtain ⟨v, hv1, hv2, hv⟩ := hcell p hpm
        clear hcell
        go_enter Tryd.func54, Tryd.ntmps54
        go_wp2
        go_ret
        obtain ⟨k, hk1, hk2⟩ := emod_nat v n hv1 (by omega)
        obtain ⟨k', hk1', hk2'⟩ := tmod_nat v n hv1 (by omega)
        first
          | exact ⟨k, ret_int hk1, .inl hk2, grown_pick w R 0 _, rdr_set (nq := 0) HB.out hp hm hmc hc hLR HBY.out⟩
          | exact ⟨k', ret_int hk1', .inl hk2', grown_pick w R 0 _, rdr_set (nq := 0) HB.out hp hm hmc hc hLR HBY.out⟩
      · obtain ⟨v, hv1, hv2, hv⟩ := hcell (p % m) (Nat.mod_lt _ hmp)
        obtain ⟨u, hu1, hu2, hu⟩ := hcell ((p * 7 + 3) % m) (Nat.mod_lt _ hmp)
        clear hcell
        have i1 : 0 ≤ (p : Int) % (m : Int) := Int.emod_nonneg _ (by omega)
        have i2 : (p : Int) % (m : Int) < (m : Int) := Int.emod_lt_of_pos _ (by omega)
        have i3 : 0 ≤ ((p : Int) * 7 + 3) % (m : Int) := Int.emod_nonneg _ (by omega)
        have i4 : ((p : Int) * 7 + 3) % (m : Int) < (m : Int) := Int.emod_lt_of_pos _ (by omega)
        have i5 : 0 ≤ (p : Int) / (m : Int) := Int.ediv_nonneg (by omega) (by omega)
        have i6 : (p : Int) / (m : Int) ≤ (p : Int) := Int.ediv_le_self _ (by omega)
        go_enter Tryd.func54, Tryd.ntmps54
        go_wp2
        go_quiet (fail)
        go_wp2
        go_ret
        obtain ⟨k, hk1, hk2⟩ := tmod_nat (bits BinOp.xor IntKind.i64 (v * 131 + u * 1117 + ↑p * 29 + ↑p / ↑m * 53) ((v * 131 + u * 1117 + ↑p * 29 + ↑p / ↑m * 53) / 64)) n (xor_nn _ _ (by omega) (by omega) (by omega) (by omega)) (by omega)
        exact ⟨k, ret_int hk1, .inl hk2, grown_pick w R nq _, rdr_set HB.out hp hm hmc hc hLR HBY.out⟩

theorem code_byts {w : World} {a : Option Addr} {len cap : Nat} {zs : List Int} (h : IsCode w a len cap zs) (R n : Nat) (hn : n ≤ len) (hR : w.heap.size ≤ R) : Byts w R a n := fun hn0 => by
  rcases h with ⟨rfl, rfl, rfl, rfl⟩ | ⟨x, rfl, hl, hm, hz, hcell, hwz⟩
  · omega
  · obtain ⟨b, off, spot⟩ := x
    have hc := hcell 0 (by omega)
    have hspot : spot = none := by simpa [Addr.add] using World.cell?_spot hc
    subst hspot
    refine ⟨b, off, rfl, ?_, fun j hj => ?_⟩
    · have := World.block_lt_of_cell? w _ hc
      simp [Addr.add] at this
      omega
    · have h1 := hcell j (by omega)
      have h2 := hwz (zs.getD j 0) (by rw [List.getD_eq_getElem?_getD, List.getElem?_eq_getElem (by omega)]; exact List.getElem_mem _)
      simp [Lit.wf, IntKind.min, IntKind.max, IntKind.signed, IntKind.bits] at h2
      by_cases e : j = 0
      · subst e; exact ⟨_, by simpa using h2.1, by simpa using h2.2, by simpa [Addr.add] using h1⟩
      · exact ⟨_, by simpa using h2.1, by simpa using h2.2, by simpa [Addr.add, e] using h1⟩
theorem code_len {w : World} {a : Option Addr} {len cap : Nat} {zs : List Int} (h : IsCode w a len cap zs) : len ≤ cap ∧ cap ≤ maxLen := by
  rcases h with ⟨rfl, rfl, rfl, rfl⟩ | ⟨x, rfl, hl, hm, hz, hcell, hwz⟩
  · simp
  · exact ⟨hl, hm⟩

theorem byts_more {w : World} {R R' : Nat} {A : Option Addr} {n : Nat} (h : Byts w R A n) (hR : R ≤ R') : Byts w R' A n := fun hn => by
  obtain ⟨b, off, hA, hb, hc⟩ := h hn
  exact ⟨b, off, hA, by omega, hc⟩
theorem rdr_new {a : Option Addr} {len cap : Nat} {zs : List Int} {w0 w : World} (h : IsCode w0 a len cap zs) (hB : Below w0.heap.size w0 w) (n : Nat) (hn : n ≤ len) (hn2 : n ≤ 2000) :
    Rdr (w.alloc (.cells #[.slice a n cap, .int .i64 0] 67)) w0.heap.size w.heap.size 0 := by
  obtain ⟨hl, hm⟩ := code_len h
  refine ⟨a, n, cap, 0, heap_alloc_new w _, Nat.le_refl _, hn2, by omega, hm, hB.size, ?_⟩
  have h1 := code_byts h w0.heap.size n hn (Nat.le_refl _)
  refine byts_keep (byts_keep h1 (w' := w) fun b o hb => hB.cell (p := ⟨b, o, none⟩) hb) fun b o hb => ?_
  exact World.cell?_alloc_lt w _ ⟨b, o, none⟩ (Nat.lt_of_lt_of_le hb hB.size)
theorem open_any (a : Option Addr) (len cap : Nat) (zs : List Int) (w0 w : World) (h : IsCode w0 a len cap zs) (hB : Below w0.heap.size w0 w) :
    Calls Tryd.prog 33 #[.slice a len cap] w fun e w' => ∃ R, e = .returned (.pointer (some ⟨R, 0, none⟩)) ∧ Below w.heap.size w w' ∧ w.heap.size ≤ R ∧ R < w'.heap.size ∧ Rdr w' w0.heap.size R 0 := by
  obtain ⟨hl, hm⟩ := code_len h
  unfold maxLen at hm
  go_enter Tryd.func33, Tryd.ntmps33
  go_wp2
  · go_ret
    exact ⟨w.heap.size, rfl, by go_grown, Nat.le_refl _, by simp, rdr_new h hB 2000 (by omega) (Nat.le_refl _)⟩
  · go_ret
    exact ⟨w.heap.size, rfl, by go_grown, Nat.le_refl _, by simp, rdr_new h hB len (Nat.le_refl _) (by omega)⟩

theorem odd_any (w : World) (R q : Nat) (n : Int) (h : Rdr w L R q) (hq : q ≤ 1000000) (hn : n ≤ 1000000) :
    Calls Tryd.prog 55 #[.pointer (some ⟨R, 0, none⟩), .int .i64 n] w fun e w' => ∃ b : Bool, e = .returned (.bool b) ∧ (n ≤ 0 → b = false) ∧ w.grownBy w' (some R) ∧ Rdr w' L R (q + 1) := by
  have hbig : ∀ q', Rdr w L R q' → q' ≤ q + 1 → Rdr w L R (q + 1) := fun q' h hh => by
    obtain ⟨A, m, c, p, hb, hp, r⟩ := h
    exact ⟨A, m, c, p, hb, by omega, r⟩
  have HR := Lib.hid (hbig q h (by omega)); clear hbig
  have H := Lib.hid h; clear h
  by_cases h0 : 0 < n
  · go_enter Tryd.func55, Tryd.ntmps55
    go_wp2_with (go_at_call 54; refine (pick_any _ _ _ _ H.out hq).mono ?_; rintro e w1 ⟨k, rfl, hk, hg, hr⟩; have HG := Lib.hid hg; clear hg; have HR1 := Lib.hid hr; clear hr)
    go_ret
    exact ⟨_, rfl, fun h => absurd h (by omega), HG.out, HR1.out⟩
  · go_enter Tryd.func55, Tryd.ntmps55
    go_wp2
    go_ret
    exact ⟨rfl, World.grownBy.refl _ _, HR.out⟩

theorem rdr_lt {w : World} {R q : Nat} (h : Rdr w L R q) : R < w.heap.size := by
  obtain ⟨A, m, c, p, hb, _⟩ := h
  exact (Array.getElem?_eq_some_iff.1 hb).1
theorem rdr_more {w : World} {R q q' : Nat} (h : Rdr w L R q) (hq : q ≤ q') : Rdr w L R q' := by
  obtain ⟨A, m, c, p, hb, hp, r⟩ := h
  exact ⟨A, m, c, p, hb, by omega, r⟩
theorem rdr_below {B : Nat} {w w' : World} {R q : Nat} (h : Rdr w L R q) (hB : Below B w w') (hR : R < B) : Rdr w' L R q := by
  obtain ⟨A, m, c, p, hb, hp, hm, hmc, hc, hLR, hby⟩ := h
  exact ⟨A, m, c, p, (hB.block R hR).trans hb, hp, hm, hmc, hc, hLR, byts_keep hby fun b o hb => hB.cell (p := ⟨b, o, none⟩) (Nat.lt_of_lt_of_le hb (Nat.le_trans hLR (Nat.le_of_lt hR)))⟩
theorem rdr_alloc {w : World} {R q : Nat} (h : Rdr w L R q) (o : Obj) : Rdr (w.alloc o) L R q :=
  rdr_below h ((Below.refl w.heap.size w).alloc (Nat.le_refl _) o) (rdr_lt h)
theorem rdr_drewN {w : World} {R q : Nat} (h : Rdr w L R q) (n : Nat) : Rdr (w.drewN n) L R q := h
/-- Behind a contract over the reader at block R: other old cells and marks as before. -/
theorem gfacts {W w1 : World} {R : Nat} (hg : W.grownBy w1 (some R)) : (∀ b o, b < W.heap.size → ¬ b = R → w1.cell? ⟨b, o, none⟩ = W.cell? ⟨b, o, none⟩) ∧ (∀ b o, b < W.heap.size → ¬ b = R → w1.frozen? ⟨b, o, none⟩ = W.frozen? ⟨b, o, none⟩) ∧ W.heap.size ≤ w1.heap.size :=
  ⟨fun b o h hn => World.cell?_of_block (hg.block b h (fun e => hn (by injection e))), fun b o h hn => World.frozen?_of_block (hg.block b h (fun e => hn (by injection e))), hg.size⟩
theorem rdr_setCell {w : World} {R q : Nat} (h : Rdr w L R q) {p : Addr} (hp : R < p.block) (u : Value) : Rdr (w.setCell p u) L R q :=
  rdr_below h ((Below.refl p.block w).setCell (Nat.le_refl _) u) hp
theorem rdr_setCell' {w : World} {R q : Nat} (h : Rdr w L R q) {p : Addr} (h1 : L ≤ p.block) (h2 : p.block ≠ R) (u : Value) : Rdr (w.setCell p u) L R q := by
  obtain ⟨A, m, c, p', hb, hp, hm, hmc, hc, hLR, hby⟩ := h
  exact ⟨A, m, c, p', (Below.heap_setCell w p u R (Ne.symm h2)).trans hb, hp, hm, hmc, hc, hLR, byts_keep hby fun b o hb => World.cell?_setCell_other w _ _ _ (fun e => by subst e; simp at h1; omega)⟩
theorem only_setCell {a w : World} {g : Nat} (h : a.grownBy w (some g)) {p : Addr} (hp : a.heap.size ≤ p.block) (u : Value) : a.grownBy (w.setCell p u) (some g) :=
  ⟨h.os, h.tape, h.output, by simpa [World.setCell] using h.size, fun i hi hne => (Below.heap_setCell w p u i (by omega)).trans (h.block i hi hne)⟩
theorem only_alloc {a w : World} {row : Option Nat} (h : a.grownBy w row) (o : Obj) : a.grownBy (w.alloc o) row :=
  ⟨h.os, h.tape, h.output, Nat.le_trans h.size (by simp), fun i hi hne => (Below.heap_alloc w o i (Nat.lt_of_lt_of_le hi h.size)).trans (h.block i hi hne)⟩
theorem grown_after_alloc {w w1 : World} {R : Nat} {o : Obj} (h : (w.alloc o).grownBy w1 (some R)) : w.grownBy w1 (some R) := grown_trans' (World.grownBy_alloc w o _) h
/-- A drawing that began behind the reader's making turned nothing that was there. -/
theorem below_of_grown {w w1 w2 : World} {R : Nat} (hb : Below w.heap.size w w1) (hR : w.heap.size ≤ R) (hg : w1.grownBy w2 (some R)) : Below w.heap.size w w2 :=
  hb.trans ⟨hg.os, hg.tape, hg.output, hg.size, fun k hk => hg.block k (Nat.lt_of_lt_of_le hk hb.size) (fun e => by injection e; omega)⟩
theorem slotB {w w1 : World} {cs : Array Value} {T : TypeId} (hg : Below (w.alloc (.cells cs T)).heap.size (w.alloc (.cells cs T)) w1) (i : Nat) (v : Value) (hv : cs[i]? = some v) : w1.cell? ⟨w.heap.size, i, none⟩ = some v := by
  have hh : w1.heap[w.heap.size]? = some (.cells cs T) := (hg.block w.heap.size (by simp)).trans (heap_alloc_new w _)
  simp [World.cell?, hh, hv]
theorem slotBf {w w1 : World} {cs : Array Value} {T : TypeId} (hg : Below (w.alloc (.cells cs T)).heap.size (w.alloc (.cells cs T)) w1) (i : Nat) : w1.frozen? ⟨w.heap.size, i, none⟩ = false := by
  have hh : w1.heap[w.heap.size]? = some (.cells cs T) := (hg.block w.heap.size (by simp)).trans (heap_alloc_new w _)
  simp [World.frozen?, hh]
theorem slotG {w w1 : World} {R : Nat} {cs : Array Value} {T : TypeId} (hg : (w.alloc (.cells cs T)).grownBy w1 (some R)) (hn : ¬ w.heap.size = R) (i : Nat) (v : Value) (hv : cs[i]? = some v) : w1.cell? ⟨w.heap.size, i, none⟩ = some v := by
  have hh : w1.heap[w.heap.size]? = some (.cells cs T) := (hg.block w.heap.size (by simp) (fun e => hn (by injection e))).trans (heap_alloc_new w _)
  simp [World.cell?, hh, hv]
theorem slotGf {w w1 : World} {R : Nat} {cs : Array Value} {T : TypeId} (hg : (w.alloc (.cells cs T)).grownBy w1 (some R)) (hn : ¬ w.heap.size = R) (i : Nat) : w1.frozen? ⟨w.heap.size, i, none⟩ = false := by
  have hh : w1.heap[w.heap.size]? = some (.cells cs T) := (hg.block w.heap.size (by simp) (fun e => hn (by injection e))).trans (heap_alloc_new w _)
  simp [World.frozen?, hh]
theorem below_slot {w W w1 : World} {o : Obj} (hW : W = w.alloc o) (hg : Below W.heap.size W w1) : Below w.heap.size w w1 := by
  subst hW
  exact bthen ((Below.refl _ _).alloc (Nat.le_refl _) o) hg
theorem rdr_drew {w : World} {R q : Nat} (h : Rdr w L R q) : Rdr w.drew L R q := h
theorem grown_un_drew {w w' : World} {row : Option Nat} (h : w.drew.grownBy w' row) : w.grownBy w' row := ⟨h.os, h.tape, h.output, h.size, h.block⟩
theorem grown_un_alloc {w w' : World} {R : Nat} {o : Obj} (h : (w.alloc o).grownBy w' (some R)) : w.grownBy w' (some R) := grown_trans' (World.grownBy_alloc w o _) h
theorem grown_drew' {a w : World} {row : Option Nat} (h : a.grownBy w row) : a.grownBy w.drew row := ⟨h.os, h.tape, h.output, h.size, h.block⟩
end Go.Proofs.YtpbnbekkmifbpaaDoor
