/-
  Walks: what the laws of layer 4 ask besides: a small array, and three sums.
-/
import Derived.Test.YtdfijdajkdkkfaaP1
import Derived.Test.YtdfijdajkdkkfaaXUKatomic
import Derived.Deep.RegionHeld3
import Derived.Deep.DeepCutAuto
set_option linter.unusedVariables false
set_option linter.unusedSimpArgs false
namespace Go.Proofs.Ytdfijdajkdkkfaa
open Go.RowKit Go.Proofs.YtdfijdajkdkkfaaW.PrintWords Go.Proofs.YtdfijdajkdkkfaaW.PrintLast
open T
set_option maxHeartbeats 8000000 in
set_option maxRecDepth 100000 in
theorem light4_calls (a : Arr) (A0 A1 : Option Addr) (c0 c1 : Nat) (w : World) (hwf : wfA a) (l0 : a.shape.length ≤ c0) (l1 : a.cells.length ≤ c1) (g0 : Cint w A0 a.shape) (g1 : CC w A1 a.cells) :
    Calls Try.prog 47 #[.agg #[.slice A0 a.shape.length c0, .slice A1 a.cells.length c1]] w fun e w' => ∃ b : Bool, e = .returned (.bool b) ∧ (b = true → tot a ≤ 4000) ∧ Below w.heap.size w w' := by
  have G0 := Aside0.mk g0
  have G1 := Aside0.mk g1
  have HW := Aside0.mk hwf
  clear g0 g1 hwf
  go_enter Try.func47, Try.ntmps47
  go_wp2_with fail
  refine (refWeigh_calls a 4000 A0 A1 c0 c1 _ (by omega) (by omega) HW.out l0 l1 (Kd.C_below G0.out ?hb) (Kd.C_below G1.out ?hb)).mono ?_; (case hb => (repeat (first | exact Below.refl _ _ | apply below_alloc | apply below_drew | apply pw_below_drewN)))
  rintro e w1 ⟨⟨r, rfl, hr0, hr1, hr2⟩, hb⟩
  replace hr2 := Aside0.mk hr2
  go_wp2_with fail
  go_ret
  exact ⟨decide (r ≤ 4000), rfl, fun h => by have := hr2.out (by simpa using h); simp at h; omega, (then_below (by (repeat (first | exact Below.refl _ _ | apply below_alloc | apply below_drew | apply pw_below_drewN))) hb)⟩
theorem wf_nums {l : List Int} (h : ∀ x ∈ l, in64 x) (hl : l.length ≤ 16384) : wfA (T.nums l) := by
  rw [wfA_iff]
  refine ⟨by simp [T.nums], fun d hd => ?_, by simp [T.nums]; omega, fun c hc => ?_⟩
  · simp [T.nums] at hd; subst hd; unfold in64; omega
  · simp [T.nums] at hc
    obtain ⟨x, hx, rfl⟩ := hc
    rw [wfC_iff]
    exact ⟨by simp [T.numc, in64], by simpa [T.numc] using h x hx, by simp [T.numc], by simp [T.numc]⟩
theorem wf_atom {x : Int} (h : in64 x) : wfA (T.atom x) := by
  rw [wfA_iff]
  refine ⟨by simp [T.atom], by simp [T.atom], by simp [T.atom], fun c hc => ?_⟩
  simp [T.atom] at hc
  subst hc
  rw [wfC_iff]
  exact ⟨by simp [T.numc, in64], by simpa [T.numc] using h, by simp [T.numc], by simp [T.numc]⟩
theorem dy_sum : T.dyS 21 (T.nums [1, 2, 3]) (T.atom 5) = (⟨[3], [T.numc 6, T.numc 7, T.numc 8]⟩, 0) := by rfl
theorem dy_not : T.dyS 21 (T.nums [1, 2, 3]) (T.nums [1, 2]) = (za, 7) := by rfl
/-- The sum of three numbers and one, at whatever world. -/
theorem dy_sum_calls (A0 A1 B0 B1 : Option Addr) (c0 c1 d0 d1 : Nat) (w : World) (l0 : 1 ≤ c0) (l1 : 3 ≤ c1) (m0 : 0 ≤ d0) (m1 : 1 ≤ d1) (g0 : Cint w A0 [3]) (g1 : CC w A1 [T.numc 1, T.numc 2, T.numc 3]) (z0 : Cint w B0 []) (z1 : CC w B1 [T.numc 5]) :
    Calls Try.prog 53 #[.int .i64 21, .agg #[.slice A0 1 c0, .slice A1 3 c1], .agg #[.slice B0 0 d0, .slice B1 1 d1]] w fun e w' => ∃ S0 e0 S1 e1, e = .returned (.tuple #[.agg #[.slice S0 1 e0, .slice S1 3 e1], .int .i64 0]) ∧ Kd.F kC w' (fun k => w.heap.size ≤ k) S1 3 [T.numc 6, T.numc 7, T.numc 8] ∧ Below w.heap.size w w' := by
  refine (atDy_calls 21 (T.nums [1, 2, 3]) (T.atom 5) A0 A1 B0 B1 c0 c1 d0 d1 w (wf_nums (by simp [in64]) (by simp)) (wf_atom (by simp [in64])) l0 l1 m0 m1 g0 g1 z0 z1).mono ?_
  rw [dy_sum]
  rintro e w' ⟨S0, e0, S1, e1, rfl, h1, h2, h3, h4, h5⟩
  exact ⟨S0, e0, S1, e1, rfl, h4, h5⟩
theorem dy_not_calls (A0 A1 B0 B1 : Option Addr) (c0 c1 d0 d1 : Nat) (w : World) (l0 : 1 ≤ c0) (l1 : 3 ≤ c1) (m0 : 1 ≤ d0) (m1 : 2 ≤ d1) (g0 : Cint w A0 [3]) (g1 : CC w A1 [T.numc 1, T.numc 2, T.numc 3]) (z0 : Cint w B0 [2]) (z1 : CC w B1 [T.numc 1, T.numc 2]) :
    Calls Try.prog 53 #[.int .i64 21, .agg #[.slice A0 1 c0, .slice A1 3 c1], .agg #[.slice B0 1 d0, .slice B1 2 d1]] w fun e w' => ∃ S0 e0 S1 e1, e = .returned (.tuple #[.agg #[.slice S0 0 e0, .slice S1 0 e1], .int .i64 7]) ∧ Below w.heap.size w w' := by
  refine (atDy_calls 21 (T.nums [1, 2, 3]) (T.nums [1, 2]) A0 A1 B0 B1 c0 c1 d0 d1 w (wf_nums (by simp [in64]) (by simp)) (wf_nums (by simp [in64]) (by simp)) l0 l1 m0 m1 g0 g1 z0 z1).mono ?_
  rw [dy_not]
  rintro e w' ⟨S0, e0, S1, e1, rfl, h1, h2, h3, h4, h5⟩
  exact ⟨S0, e0, S1, e1, rfl, h5⟩
theorem mo_neg_calls (A0 A1 : Option Addr) (c0 c1 : Nat) (w : World) (l0 : 1 ≤ c0) (l1 : 3 ≤ c1) (g0 : Cint w A0 [3]) (g1 : CC w A1 [T.numc 1, T.numc 2, T.numc 3]) :
    Calls Try.prog 95 #[.int .i64 1, .agg #[.slice A0 1 c0, .slice A1 3 c1]] w fun e w' => ∃ S0 e0 S1 e1, e = .returned (.tuple #[.agg #[.slice S0 1 e0, .slice S1 3 e1], .int .i64 0]) ∧ CC w' S1 [T.numc (-1), T.numc (-2), T.numc (-3)] ∧ Below w.heap.size w w' := by
  have hk : XU.atomic_Mo.f 9 1 [3] (T.toL [T.numc 1, T.numc 2, T.numc 3]) = some ([3], T.toL [T.numc (-1), T.numc (-2), T.numc (-3)], 0) := by kernel_rfl
  refine (XU.atomic_Mo.calls 9 1 A0 c0 [3] A1 c1 (T.toL [T.numc 1, T.numc 2, T.numc 3]) _ _ _ w g0 l0 (C_toL g1) l1 hk).mono ?_
  rintro e w' ⟨v0, v1, rfl, hR0, hR1, hb⟩
  obtain ⟨V0, e0, rfl⟩ := Kd.R_slice hR0
  obtain ⟨V1, e1, rfl⟩ := Kd.R_slice hR1
  have p1 := Kd.R_reads' hR1
  exact ⟨V0, e0, V1, e1, rfl, C_ofL p1.2.2, hb⟩
theorem nums2_calls (W : World) (A : Option Addr) (g : Cint W A [1, 2]) : Calls Try.prog 76 #[.slice A 2 2] W fun e w' => ∃ B0 d0 B1 d1, e = .returned (.agg #[.slice B0 1 d0, .slice B1 2 d1]) ∧ 1 ≤ d0 ∧ 2 ≤ d1 ∧ Cint w' B0 [2] ∧ CC w' B1 [T.numc 1, T.numc 2] ∧ Below W.heap.size W w' := by
  refine (refNums_calls [1, 2] _ 2 _ (by decide) (by decide) g).mono ?_
  intro e w' hm
  exact hm.open_
theorem lit12 {W w' : World} {g : Nat} (hg : g = W.heap.size) (hb : Below (W.alloc (.cells #[.int .i64 1, .int .i64 2] 2)).heap.size (W.alloc (.cells #[.int .i64 1, .int .i64 2] 2)) w') : Cint w' (some ⟨g, 0, none⟩) [1, 2] := Kd.C_below (lit_ints' W [1, 2] 2 g hg (by decide)) hb
end Go.Proofs.Ytdfijdajkdkkfaa
