/-
  The walk of the law of MayTry.
-/
import Derived.Test.YtkdpambhdjinjaaDrawMayTry
import Derived.Test.YtkdpambhdjinjaaTypedG
import Derived.Deep.DeepCutAuto
namespace Go.Proofs.Ytkdpambhdjinjaa
open Go.ChangeShapes Go.WideShapes Go.ChangeAt Go.RowKit Go.Joins
set_option linter.unusedVariables false

def lmtT (w1 : World) (s : ByteArray) (f u : Int) (q : Bool) (t : Tmp) (v : Value) (w : World) : Prop :=
  match t with
  | 2 => v = .bool true
  | 22 => v = .bool false
  | 23 => v = .bool true
  | 24 => v = .bool true
  | 29 => v = .bool true
  | 30 => v = .bool true
  | 31 => v = sv s f u
  | 32 => v = .pointer (some ⟨w1.heap.size, 2, none⟩)
  | 33 => v = .int .i64 u
  | 34 => v = .bool q
  | 35 => v = sv s f u
  | 36 => v = .bool q
  | 37 => v = .bool true
  | 38 => v = .bool true
  | 39 => v = .bool true
  | 40 => v = .bool true
  | 41 => v = .bool true
  | _ => True
theorem lmtT_keep (w1 : World) (s : ByteArray) (f u : Int) (q : Bool) (R S : Nat) (t : Tmp) (v : Value) (w w' : World) (hN : Nx R S w w') (h : lmtT w1 s f u q t v w) : lmtT w1 s f u q t v w' := h

set_option maxHeartbeats 4000000 in
theorem walkMayTry (a : Option Addr) (len cap : Nat) (zs : List Int) (w : World) (h : IsCode w a len cap zs) :
    Calls Try.prog 6 #[.slice a len cap] w fun e w' => e = .returned (.bool true) ∧ Below w.heap.size w w' := by
  obtain ⟨hl, hm⟩ := code_len h
  unfold maxLen at hm
  have H := Lib.hid h; clear h
  by_cases hb : (1048576 : Int) < (len : Int)
  · go_enter Try.func6, Try.ntmps6
    go_wp2
    go_ret
    exact ⟨rfl, by go_grown⟩
  · go_enter Try.func6, Try.ntmps6
    go_wp2_with fail
    refine (dmt_any _ _ _ _ _ _ H.out (Below.refl _ _)).mono ?_
    rintro e w1 ⟨s, f, u, n, rfl, hs, hn, hb1⟩
    have HB1 := Lib.hid hb1
    have HS : Hid (s.size ≤ maxLen) := Lib.hid (by have := hs.1; unfold maxLen; omega)
    clear hb1 hs
    have hwr : IntKind.i64.wrap (n + 1) = n + 1 := IntWalk.i64_in _ (by omega)
    cases hk : mtB s f u n
    · have hq : mtB s f u u = hvB s f u := by simp [mtB]
      generalize hvq : hvB s f u = q at hq
      have HQ := Lib.hid hq; have HV := Lib.hid hvq
      clear hn hq hvq hwr
      go_upto_region 7 with (first | (go_at_call 16; refine (imt_any _ _ _ _ _ HS.out).mono ?_; rintro e w1 ⟨rfl, o1, o2, rfl⟩) | (go_at_call 15; refine (smt_any _ _ _ _ _ HS.out).mono ?_; rintro e w1 ⟨rfl, o1, o2, rfl⟩))
      refine wp_region_typedG (w1.heap.size + 1) (w1.heap.size + 1) (lmtT w1 s f u q) (fun _ _ => True) (by kernel_rfl) (regOkG_of (by kernel_rfl) (by kernel_rfl)) (lmtT_keep w1 s f u q _ _) trivial ?_ ?_
      · intro i o c b wb ho hc hJ hN hsz hfr hdep hgd K hK
        have hi := (Array.getElem?_eq_some_iff.1 ho).1
        simp only [List.size_toArray, List.length_cons, List.length_nil] at hi hc
        have hcases : i = 0 ∨ i = 1 ∨ i = 2 ∨ i = 3 ∨ i = 4 ∨ i = 5 ∨ i = 6 ∨ i = 7 ∨ i = 8 ∨ i = 9 ∨ i = 10 ∨ i = 11 ∨ i = 12 ∨ i = 13 ∨ i = 14 ∨ i = 15 ∨ i = 16 ∨ i = 17 ∨ i = 18 ∨ i = 19 ∨ i = 20 := by omega
        rcases hcases with rfl | rfl | rfl | rfl | rfl | rfl | rfl | rfl | rfl | rfl | rfl | rfl | rfl | rfl | rfl | rfl | rfl | rfl | rfl | rfl | rfl
        · cases (show some _ = some o from ho)
          refine ite_yes (by rfl) ?_
          have h5 : b.tmps.getD 5 undef = .bool false := hfr 5 (noDst_of (by kernel_rfl))
          have f5 := getD_opt h5
          have HK := Lib.hid hK
          have HN := Lib.hid hN
          clear hK hdep hgd hfr hsz ho hN
          go_simp
          exact HK.out _ _ (fun d hd => by cases hd; exact rfl) (Nx.refl _ _ _) trivial
        · cases (show some _ = some o from ho)
          refine ite_yes (by rfl) ?_
          have h22 : b.tmps.getD 22 undef = .bool false := hdep 22 (reads_of (by kernel_rfl)) ⟨0, _, rfl, rfl⟩
          have f22 := getD_opt h22
          have HK := Lib.hid hK
          have HN := Lib.hid hN
          clear hK hdep hgd hfr hsz ho hN
          go_simp
          exact HK.out _ _ (fun d hd => by cases hd; exact rfl) (Nx.refl _ _ _) trivial
        · cases (show some _ = some o from ho)
          refine ite_yes (by rfl) ?_
          have h23 : b.tmps.getD 23 undef = .bool true := hdep 23 (reads_of (by kernel_rfl)) ⟨1, _, rfl, rfl⟩
          have f23 := getD_opt h23
          have HK := Lib.hid hK
          have HN := Lib.hid hN
          clear hK hdep hgd hfr hsz ho hN
          go_simp
          exact HK.out _ _ (fun d hd => by cases hd; exact rfl) (Nx.refl _ _ _) trivial
        · cases (show some _ = some o from ho)
          have hg : b.tmps.getD 24 undef = .bool true := hgd 2 false _ 24 rfl rfl rfl
          refine ite_no ((wanted_of rfl rfl rfl hg).trans rfl) ?_
          exact hK undef _ (fun d hd => by cases hd; trivial) (Nx.refl _ _ _) trivial
        · cases (show some _ = some o from ho)
          have hg : b.tmps.getD 24 undef = .bool true := hgd 2 false _ 24 rfl rfl rfl
          refine ite_no ((wanted_of rfl rfl rfl hg).trans rfl) ?_
          exact hK undef _ (fun d hd => by cases hd; trivial) (Nx.refl _ _ _) trivial
        · cases (show some _ = some o from ho)
          have hg : b.tmps.getD 24 undef = .bool true := hgd 2 false _ 24 rfl rfl rfl
          refine ite_no ((wanted_of rfl rfl rfl hg).trans rfl) ?_
          exact hK undef _ (fun d hd => by cases hd; trivial) (Nx.refl _ _ _) trivial
        · cases (show some _ = some o from ho)
          have hg : b.tmps.getD 24 undef = .bool true := hgd 2 false _ 24 rfl rfl rfl
          refine ite_no ((wanted_of rfl rfl rfl hg).trans rfl) ?_
          exact hK undef _ (fun d hd => by cases hd; trivial) (Nx.refl _ _ _) trivial
        · cases (show some _ = some o from ho)
          refine ite_yes (by rfl) ?_
          have h24 : b.tmps.getD 24 undef = .bool true := hdep 24 (reads_of (by kernel_rfl)) ⟨2, _, rfl, rfl⟩
          have f24 := getD_opt h24
          have HK := Lib.hid hK
          have HN := Lib.hid hN
          clear hK hdep hgd hfr hsz ho hN
          go_simp
          exact HK.out _ _ (fun d hd => by cases hd; exact rfl) (Nx.refl _ _ _) trivial
        · cases (show some _ = some o from ho)
          refine ite_yes (by rfl) ?_
          have h29 : b.tmps.getD 29 undef = .bool true := hdep 29 (reads_of (by kernel_rfl)) ⟨7, _, rfl, rfl⟩
          have f29 := getD_opt h29
          have HK := Lib.hid hK
          have HN := Lib.hid hN
          clear hK hdep hgd hfr hsz ho hN
          go_simp
          exact HK.out _ _ (fun d hd => by cases hd; exact rfl) (Nx.refl _ _ _) trivial
        · cases (show some _ = some o from ho)
          have hg : b.tmps.getD 30 undef = .bool true := hgd 8 true _ 30 rfl rfl rfl
          refine ite_yes ((wanted_of rfl rfl rfl hg).trans rfl) ?_
          have h3 : b.tmps.getD 3 undef = .pointer (some ⟨w1.heap.size, 0, none⟩) := hfr 3 (noDst_of (by kernel_rfl))
          have f3 := getD_opt h3
          have c0 := hN.cell (b := w1.heap.size) (o := 0) (v := .string s) (by simp [go_sem]) (by omega) (by omega)
          have c1 := hN.cell (b := w1.heap.size) (o := 1) (v := .int .i64 f) (by simp [go_sem]) (by omega) (by omega)
          have c2 := hN.cell (b := w1.heap.size) (o := 2) (v := .int .i64 u) (by simp [go_sem]) (by omega) (by omega)
          have HK := Lib.hid hK
          have HN := Lib.hid hN
          clear hK hdep hgd hfr hsz ho hN
          go_simp
          exact HK.out _ _ (fun d hd => by cases hd; exact rfl) (Nx.refl _ _ _) trivial
        · cases (show some _ = some o from ho)
          have hg : b.tmps.getD 30 undef = .bool true := hgd 8 true _ 30 rfl rfl rfl
          refine ite_yes ((wanted_of rfl rfl rfl hg).trans rfl) ?_
          have h3 : b.tmps.getD 3 undef = .pointer (some ⟨w1.heap.size, 0, none⟩) := hfr 3 (noDst_of (by kernel_rfl))
          have f3 := getD_opt h3
          have HK := Lib.hid hK
          have HN := Lib.hid hN
          clear hK hdep hgd hfr hsz ho hN
          go_simp
          exact HK.out _ _ (fun d hd => by cases hd; exact rfl) (Nx.refl _ _ _) trivial
        · cases (show some _ = some o from ho)
          have hg : b.tmps.getD 30 undef = .bool true := hgd 8 true _ 30 rfl rfl rfl
          refine ite_yes ((wanted_of rfl rfl rfl hg).trans rfl) ?_
          have h32 : b.tmps.getD 32 undef = .pointer (some ⟨w1.heap.size, 2, none⟩) := hdep 32 (reads_of (by kernel_rfl)) ⟨10, _, rfl, rfl⟩
          have f32 := getD_opt h32
          have c0 := hN.cell (b := w1.heap.size) (o := 0) (v := .string s) (by simp [go_sem]) (by omega) (by omega)
          have c1 := hN.cell (b := w1.heap.size) (o := 1) (v := .int .i64 f) (by simp [go_sem]) (by omega) (by omega)
          have c2 := hN.cell (b := w1.heap.size) (o := 2) (v := .int .i64 u) (by simp [go_sem]) (by omega) (by omega)
          have HK := Lib.hid hK
          have HN := Lib.hid hN
          clear hK hdep hgd hfr hsz ho hN
          go_simp
          exact HK.out _ _ (fun d hd => by cases hd; exact rfl) (Nx.refl _ _ _) trivial
        · cases (show some _ = some o from ho)
          have hg : b.tmps.getD 30 undef = .bool true := hgd 8 true _ 30 rfl rfl rfl
          refine ite_yes ((wanted_of rfl rfl rfl hg).trans rfl) ?_
          have h31 : b.tmps.getD 31 undef = sv s f u := hdep 31 (reads_of (by kernel_rfl)) ⟨9, _, rfl, rfl⟩
          have f31 := getD_opt h31
          have h33 : b.tmps.getD 33 undef = .int .i64 u := hdep 33 (reads_of (by kernel_rfl)) ⟨11, _, rfl, rfl⟩
          have f33 := getD_opt h33
          have HK := Lib.hid hK
          have HN := Lib.hid hN
          clear hK hdep hgd hfr hsz ho hN
          go_simp
          refine (imt_any _ _ _ _ _ HS.out).mono ?_; rw [HQ.out]; rintro e w' ⟨rfl, o1, o2, rfl⟩
          exact HK.out _ _ (fun d hd => by cases hd; exact rfl) (nx_below (by go_grown)) trivial
        · cases (show some _ = some o from ho)
          have hg : b.tmps.getD 30 undef = .bool true := hgd 8 true _ 30 rfl rfl rfl
          refine ite_yes ((wanted_of rfl rfl rfl hg).trans rfl) ?_
          have h3 : b.tmps.getD 3 undef = .pointer (some ⟨w1.heap.size, 0, none⟩) := hfr 3 (noDst_of (by kernel_rfl))
          have f3 := getD_opt h3
          have c0 := hN.cell (b := w1.heap.size) (o := 0) (v := .string s) (by simp [go_sem]) (by omega) (by omega)
          have c1 := hN.cell (b := w1.heap.size) (o := 1) (v := .int .i64 f) (by simp [go_sem]) (by omega) (by omega)
          have c2 := hN.cell (b := w1.heap.size) (o := 2) (v := .int .i64 u) (by simp [go_sem]) (by omega) (by omega)
          have HK := Lib.hid hK
          have HN := Lib.hid hN
          clear hK hdep hgd hfr hsz ho hN
          go_simp
          exact HK.out _ _ (fun d hd => by cases hd; exact rfl) (Nx.refl _ _ _) trivial
        · cases (show some _ = some o from ho)
          have hg : b.tmps.getD 30 undef = .bool true := hgd 8 true _ 30 rfl rfl rfl
          refine ite_yes ((wanted_of rfl rfl rfl hg).trans rfl) ?_
          have h35 : b.tmps.getD 35 undef = sv s f u := hdep 35 (reads_of (by kernel_rfl)) ⟨13, _, rfl, rfl⟩
          have f35 := getD_opt h35
          have HK := Lib.hid hK
          have HN := Lib.hid hN
          clear hK hdep hgd hfr hsz ho hN
          go_simp
          refine (ihv_any _ _ _ _ HS.out).mono ?_; rw [HV.out]; rintro e w' ⟨rfl, rfl⟩
          exact HK.out _ _ (fun d hd => by cases hd; exact rfl) (nx_below (by go_grown)) trivial
        · cases (show some _ = some o from ho)
          have hg : b.tmps.getD 30 undef = .bool true := hgd 8 true _ 30 rfl rfl rfl
          refine ite_yes ((wanted_of rfl rfl rfl hg).trans rfl) ?_
          have h34 : b.tmps.getD 34 undef = .bool q := hdep 34 (reads_of (by kernel_rfl)) ⟨12, _, rfl, rfl⟩
          have f34 := getD_opt h34
          have h36 : b.tmps.getD 36 undef = .bool q := hdep 36 (reads_of (by kernel_rfl)) ⟨14, _, rfl, rfl⟩
          have f36 := getD_opt h36
          have HK := Lib.hid hK
          have HN := Lib.hid hN
          clear hK hdep hgd hfr hsz ho hN
          go_simp
          exact HK.out _ _ (fun d hd => by cases hd; exact rfl) (Nx.refl _ _ _) trivial
        · cases (show some _ = some o from ho)
          refine ite_yes (by rfl) ?_
          have h30 : b.tmps.getD 30 undef = .bool true := hdep 30 (reads_of (by kernel_rfl)) ⟨8, _, rfl, rfl⟩
          have f30 := getD_opt h30
          have h37 : b.tmps.getD 37 undef = .bool true := hdep 37 (reads_of (by kernel_rfl)) ⟨15, _, rfl, rfl⟩
          have f37 := getD_opt h37
          have HK := Lib.hid hK
          have HN := Lib.hid hN
          clear hK hdep hgd hfr hsz ho hN
          go_simp
          exact HK.out _ _ (fun d hd => by cases hd; exact rfl) (Nx.refl _ _ _) trivial
        · cases (show some _ = some o from ho)
          refine ite_yes (by rfl) ?_
          have h38 : b.tmps.getD 38 undef = .bool true := hdep 38 (reads_of (by kernel_rfl)) ⟨16, _, rfl, rfl⟩
          have f38 := getD_opt h38
          have HK := Lib.hid hK
          have HN := Lib.hid hN
          clear hK hdep hgd hfr hsz ho hN
          go_simp
          exact HK.out _ _ (fun d hd => by cases hd; exact rfl) (Nx.refl _ _ _) trivial
        · cases (show some _ = some o from ho)
          have hg : b.tmps.getD 39 undef = .bool true := hgd 17 true _ 39 rfl rfl rfl
          refine ite_yes ((wanted_of rfl rfl rfl hg).trans rfl) ?_
          have HK := Lib.hid hK
          have HN := Lib.hid hN
          clear hK hdep hgd hfr hsz ho hN
          go_simp
          refine (alive_any _).mono ?_; rintro e w' ⟨rfl, rfl⟩
          exact HK.out _ _ (fun d hd => by cases hd; exact rfl) (nx_below (by go_grown)) trivial
        · cases (show some _ = some o from ho)
          refine ite_yes (by rfl) ?_
          have h39 : b.tmps.getD 39 undef = .bool true := hdep 39 (reads_of (by kernel_rfl)) ⟨17, _, rfl, rfl⟩
          have f39 := getD_opt h39
          have h40 : b.tmps.getD 40 undef = .bool true := hdep 40 (reads_of (by kernel_rfl)) ⟨18, _, rfl, rfl⟩
          have f40 := getD_opt h40
          have HK := Lib.hid hK
          have HN := Lib.hid hN
          clear hK hdep hgd hfr hsz ho hN
          go_simp
          exact HK.out _ _ (fun d hd => by cases hd; exact rfl) (Nx.refl _ _ _) trivial
        · cases (show some _ = some o from ho)
          refine ite_yes (by rfl) ?_
          have h41 : b.tmps.getD 41 undef = .bool true := hdep 41 (reads_of (by kernel_rfl)) ⟨19, _, rfl, rfl⟩
          have f41 := getD_opt h41
          have HK := Lib.hid hK
          have HN := Lib.hid hN
          clear hK hdep hgd hfr hsz ho hN
          go_simp
          exact HK.out _ _ (fun d hd => by cases hd; exact rfl) (Nx.refl _ _ _) trivial
      · intro b wb hsz hdf hfr hty hN hJ
        have e2 : b.tmps.getD 2 undef = .bool true := hty 20 _ 2 rfl rfl
        have HN := Lib.hid hN
        have HD : Hid (b.defers = []) := Lib.hid hdf
        have k2 := getD_opt e2
        clear hsz hdf hfr hty hN hJ
        go_wp2
        refine bodyPost_ret (v := .bool true) (by simp [results, Try.results6, go_sem, k2]) HD.out ?_
        exact ⟨rfl, below_of_nx (bthen HB1.out (by go_grown)) (by have := HB1.out.size; omega) (by have := HB1.out.size; omega) HN.out⟩
    · have hh := hk
      simp only [mtB, Bool.and_eq_true, decide_eq_true_eq] at hh
      obtain ⟨hv, hu⟩ := hh
      have m2 : mtB s f u u = true := by simp [mtB, hv]
      have m3 : mtB s f u (n + 1) = true := by simp [mtB, hv]; omega
      clear hn hu
      go_wp2_with (first | (go_at_call 16; refine (imt_any _ _ _ _ _ HS.out).mono ?_; rintro e w1 ⟨rfl, o1, o2, rfl⟩) | (go_at_call 15; refine (smt_any _ _ _ _ _ HS.out).mono ?_; rintro e w1 ⟨rfl, o1, o2, rfl⟩))
      go_region_held3 (fun w' => w'.cell? ⟨w1.heap.size, 0, none⟩ = some (.string s) ∧ w'.cell? ⟨w1.heap.size, 1, none⟩ = some (.int .i64 f) ∧ w'.cell? ⟨w1.heap.size, 2, none⟩ = some (.int .i64 u)) ((refine ⟨?_, ?_, ?_⟩ <;> simp [go_sem]))
        (first | (go_at_call 16; refine (imt_any _ _ _ _ _ HS.out).mono ?_; rintro e w1 ⟨rfl, o1, o2, rfl⟩) | (go_at_call 14; refine (ihv_any _ _ _ _ HS.out).mono ?_; rintro e w1 ⟨rfl, rfl⟩) | (go_at_call 18; refine (alive_any _).mono ?_; rintro e w1 ⟨rfl, rfl⟩))
      go_wp2
      go_ret
      exact ⟨rfl, bthen HB1.out (by go_grown)⟩
end Go.Proofs.Ytkdpambhdjinjaa
