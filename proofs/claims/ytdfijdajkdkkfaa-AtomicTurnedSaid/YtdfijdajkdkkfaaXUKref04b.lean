-- Laid by wip/bin/xprint.sh.
import Derived.Test.YtdfijdajkdkkfaaXU0
import Derived.Test.YtdfijdajkdkkfaaXUKref04
import Derived.Test.YtdfijdajkdkkfaaXStub
import Derived.Test.YtdfijdajkdkkfaaWApart
import Derived.Test.YtdfijdajkdkkfaaWFoot
import Derived.Test.YtdfijdajkdkkfaaWKept
import Derived.Test.YtdfijdajkdkkfaaWShare
import Derived.Test.YtdfijdajkdkkfaaWN
import Derived.Test.YtdfijdajkdkkfaaWRepsOne
namespace Go.Proofs.Ytdfijdajkdkkfaa.XU
open Go.RowKit Go.Proofs.YtdfijdajkdkkfaaW.PrintWords Go.Proofs.YtdfijdajkdkkfaaW.PrintLast Go.Proofs.YtdfijdajkdkkfaaW.PrintMore
attribute [local go_sem] max2_int min2_int max_two min_two max_three min_three max_four min_four   -- for this text's walks alone
set_option linter.unusedVariables false
set_option linter.unusedSimpArgs false

/-! ### triglyphref04_Dy: function 54 -/
mutual
def triglyphref04_Dy.j0 : Nat → Int → Bool → List Int → List (S33) → List Int → List (S33) → Option (List Int × (List (S33)) × Int)
 | 0, _, _, _, _, _, _ => none
 | k + 1, x0, x40, x199000, x199001, x200000, x200001 => if x40 = true then (some (([] : List Int), ([] : List (S33)), 1)) else ((triglyphref04_Agree.f x199000 x200000).bind fun bt203 => (if bt203.2 = 0 then ((triglyphref03_Size.f bt203.1).bind fun bt207 => (if ([] : List Int).length + bt203.1.length < 17592186044416 then (triglyphref04_Dy.l0 k x0 bt207.1 0 x199000 x199001 x200000 x200001 (([] : List Int) ++ bt203.1) ([] : List (S33))) else (none))) else (some (([] : List Int), ([] : List (S33)), bt203.2))))
def triglyphref04_Dy.l0 : Nat → Int → Int → Int → List Int → List (S33) → List Int → List (S33) → List Int → List (S33) → Option (List Int × (List (S33)) × Int)
 | 0, _, _, _, _, _, _, _, _, _ => none
 | k + 1, x0, x12, x15, x199000, x199001, x200000, x200001, x210000, x210001 => if x15 < x12 then (if (x199001.length : Int) = 0 then (none) else (if 0 ≤ (Int.tmod x15 (x199001.length : Int)) then (if (Int.tmod x15 (x199001.length : Int)) < (x199001.length : Int) then (if (x200001.length : Int) = 0 then (none) else (if 0 ≤ (Int.tmod x15 (x200001.length : Int)) then (if (Int.tmod x15 (x200001.length : Int)) < (x200001.length : Int) then ((triglyphref04_Cell.f x0 ((rd_T33 x199001 (Int.tmod x15 (x199001.length : Int))).f0) ((rd_T33 x199001 (Int.tmod x15 (x199001.length : Int))).f1) ((rd_T33 x199001 (Int.tmod x15 (x199001.length : Int))).f2) ((rd_T33 x200001 (Int.tmod x15 (x200001.length : Int))).f0) ((rd_T33 x200001 (Int.tmod x15 (x200001.length : Int))).f1) ((rd_T33 x200001 (Int.tmod x15 (x200001.length : Int))).f2)).bind fun bt217 => (if bt217.2.2.2 = 0 then (if x210001.length < 3518437208883 then (triglyphref04_Dy.l0 k x0 x12 (wrap64 (x15 + 1)) x199000 x199001 x200000 x200001 x210000 (x210001 ++ [(⟨bt217.1, bt217.2.1, bt217.2.2.1⟩ : S33)])) else (none)) else (some (([] : List Int), ([] : List (S33)), bt217.2.2.2)))) else (none)) else (none))) else (none)) else (none))) else (some (x210000, x210001, 0))
end
def triglyphref04_Dy.f (k : Nat) (a0 : Int) (l1_0 : List Int) (l1_1 : List (S33)) (l2_0 : List Int) (l2_1 : List (S33)) : Option (List Int × (List (S33)) × Int) := (triglyphref03_Check.f l1_0 l1_1).bind fun t201 => (if t201 = 0 then ((triglyphref03_Check.f l2_0 l2_1).bind fun t202 => (if t202 = 0 then (if a0 = 54 then (some (([] : List Int), ([] : List (S33)), 10)) else (if a0 < 21 then (triglyphref04_Dy.j0 k a0 true l1_0 l1_1 l2_0 l2_1) else (triglyphref04_Dy.j0 k a0 (decide (a0 > 32)) l1_0 l1_1 l2_0 l2_1))) else (some (([] : List Int), ([] : List (S33)), t202)))) else (some (([] : List Int), ([] : List (S33)), t201)))
theorem triglyphref04_Dy.mono_l : ∀ k, (∀ y0 y1 y2 y3 y4 y5, LeO (triglyphref04_Dy.j0 k y0 y1 y2 y3 y4 y5) (triglyphref04_Dy.j0 (k + 1) y0 y1 y2 y3 y4 y5)) ∧ (∀ y0 y1 y2 y3 y4 y5 y6 y7 y8, LeO (triglyphref04_Dy.l0 k y0 y1 y2 y3 y4 y5 y6 y7 y8) (triglyphref04_Dy.l0 (k + 1) y0 y1 y2 y3 y4 y5 y6 y7 y8))
 | 0 => ⟨fun _ _ _ _ _ _ r h => by simp [triglyphref04_Dy.j0] at h, fun _ _ _ _ _ _ _ _ _ r h => by simp [triglyphref04_Dy.l0] at h⟩
 | k + 1 => by
  obtain ⟨ih0, ih1⟩ := triglyphref04_Dy.mono_l k
  refine ⟨?_, ?_⟩
  ·intro y0 y1 y2 y3 y4 y5
   unfold triglyphref04_Dy.j0
   repeat' first
   | (with_reducible exact ih0 _ _ _ _ _ _)
   | (with_reducible exact ih1 _ _ _ _ _ _ _ _ _)
   | (with_reducible exact LeO.refl _)
   | (with_reducible exact LeO.none _)
   | (with_reducible refine LeO.ite ?_ ?_)
   | (with_reducible refine LeO.bind ?_ (fun _ => ?_))
   | exact ih0 _ _ _ _ _ _
   | exact ih1 _ _ _ _ _ _ _ _ _
   | exact LeO.none _
   | refine LeO.ite ?_ ?_
   | refine LeO.bind ?_ (fun _ => ?_)
  ·intro y0 y1 y2 y3 y4 y5 y6 y7 y8
   unfold triglyphref04_Dy.l0
   repeat' first
   | (with_reducible exact ih0 _ _ _ _ _ _)
   | (with_reducible exact ih1 _ _ _ _ _ _ _ _ _)
   | (with_reducible exact LeO.refl _)
   | (with_reducible exact LeO.none _)
   | (with_reducible refine LeO.ite ?_ ?_)
   | (with_reducible refine LeO.bind ?_ (fun _ => ?_))
   | exact ih0 _ _ _ _ _ _
   | exact ih1 _ _ _ _ _ _ _ _ _
   | exact LeO.none _
   | refine LeO.ite ?_ ?_
   | refine LeO.bind ?_ (fun _ => ?_)
theorem triglyphref04_Dy.mono : ∀ a0 a1 a2 a3 a4 k, LeO (triglyphref04_Dy.f k a0 a1 a2 a3 a4) (triglyphref04_Dy.f (k + 1) a0 a1 a2 a3 a4) := by
 intro a0 a1 a2 a3 a4 k
 obtain ⟨ih0, ih1⟩ := triglyphref04_Dy.mono_l k
 unfold triglyphref04_Dy.f
 repeat' first
   | (with_reducible exact ih0 _ _ _ _ _ _)
   | (with_reducible exact ih1 _ _ _ _ _ _ _ _ _)
   | (with_reducible exact LeO.refl _)
   | (with_reducible exact LeO.none _)
   | (with_reducible refine LeO.ite ?_ ?_)
   | (with_reducible refine LeO.bind ?_ (fun _ => ?_))
   | exact ih0 _ _ _ _ _ _
   | exact ih1 _ _ _ _ _ _ _ _ _
   | exact LeO.none _
   | refine LeO.ite ?_ ?_
   | refine LeO.bind ?_ (fun _ => ?_)
def triglyphref04_Dy.T20 : Bool × List (List Nat × List Nat) := (true, [([], []), ([0], [0]), ([], []), ([], []), ([3], [3]), ([4], [4]), ([2, 5], [2, 5]), ([1, 6], [1, 6]), ([7], [7]), ([], []), ([9, 8, 0, 1, 2, 3, 4, 5, 6, 7, 8, 9], [8, 9])])
def triglyphref04_Dy.B20 : List Nat := [0, 1, 0, 0, 8, 24, 60, 127, 255, 0, 1023]
theorem triglyphref04_Dy.tab20 : rtab .any (opsOf Try.f54 20) = triglyphref04_Dy.T20 := by kernel_rfl
theorem triglyphref04_Dy.bits20 : waitsOk triglyphref04_Dy.T20.2 triglyphref04_Dy.B20 = true := by kernel_rfl
def triglyphref04_Dy.T21 : Bool × List (List Nat × List Nat) := (true, [([], []), ([0], [0]), ([], []), ([], []), ([3], [3]), ([4], [4]), ([2, 5], [2, 5]), ([1, 6], [1, 6]), ([7], [7]), ([], []), ([9, 8, 0, 1, 2, 3, 4, 5, 6, 7, 8, 9], [8, 9])])
def triglyphref04_Dy.B21 : List Nat := [0, 1, 0, 0, 8, 24, 60, 127, 255, 0, 1023]
theorem triglyphref04_Dy.tab21 : rtab .any (opsOf Try.f54 21) = triglyphref04_Dy.T21 := by kernel_rfl
theorem triglyphref04_Dy.bits21 : waitsOk triglyphref04_Dy.T21.2 triglyphref04_Dy.B21 = true := by kernel_rfl
set_option maxHeartbeats 8000000 in
set_option maxRecDepth 100000 in
theorem triglyphref04_Dy.calls (k : Nat) (a0 : Int) (A1_0 : Option Addr) (c1_0 : Nat) (l1_0 : List Int) (A1_1 : Option Addr) (c1_1 : Nat) (l1_1 : List (S33)) (A2_0 : Option Addr) (c2_0 : Nat) (l2_0 : List Int) (A2_1 : Option Addr) (c2_1 : Nat) (l2_1 : List (S33)) (r1 : List Int) (r2 : List (S33)) (r3 : Int) (w : World) (hr1_0 : Kd.C (Kd.int .i64) w A1_0 l1_0.length l1_0) (hc1_0 : l1_0.length ≤ c1_0) (hr1_1 : Kd.C k33 w A1_1 l1_1.length l1_1) (hc1_1 : l1_1.length ≤ c1_1) (hr2_0 : Kd.C (Kd.int .i64) w A2_0 l2_0.length l2_0) (hc2_0 : l2_0.length ≤ c2_0) (hr2_1 : Kd.C k33 w A2_1 l2_1.length l2_1) (hc2_1 : l2_1.length ≤ c2_1) (h : triglyphref04_Dy.f k a0 l1_0 l1_1 l2_0 l2_1 = some (r1, r2, r3)) :
  Calls Try.prog 54 #[.int .i64 a0, .agg #[.slice A1_0 l1_0.length c1_0, .slice A1_1 l1_1.length c1_1], .agg #[.slice A2_0 l2_0.length c2_0, .slice A2_1 l2_1.length c2_1]] w fun e w' => ∃ v0_ v1_ : Value, e = .returned (.tuple #[.agg #[v0_, v1_], .int .i64 r3]) ∧ Kd.R (Kd.int .i64) 3 w' w.heap.size (fun _ => True) v0_ r1 ∧ Kd.R k33 33 w' w.heap.size (fun k_ => some k_ ≠ (v0_ : Value).ownBlock) v1_ r2 ∧ Below w.heap.size w w' := by
 have hu25 := Try.underlying25
 have hu33 := Try.underlying33
 have HR1_0 := Aside0.mk hr1_0
 have HC1_0 := Aside0.mk hc1_0
 clear hr1_0 hc1_0
 have HR1_1 := Aside0.mk hr1_1
 have HC1_1 := Aside0.mk hc1_1
 clear hr1_1 hc1_1
 have HR2_0 := Aside0.mk hr2_0
 have HC2_0 := Aside0.mk hc2_0
 clear hr2_0 hc2_0
 have HR2_1 := Aside0.mk hr2_1
 have HC2_1 := Aside0.mk hc2_1
 clear hr2_1 hc2_1
 have HB := Aside0.mk (Below.refl w.heap.size w)
 have H : ((triglyphref03_Check.f l1_0 l1_1).bind fun t201 => (if t201 = 0 then ((triglyphref03_Check.f l2_0 l2_1).bind fun t202 => (if t202 = 0 then (if a0 = 54 then (some (([] : List Int), ([] : List (S33)), 10)) else (if a0 < 21 then (triglyphref04_Dy.j0 k a0 true l1_0 l1_1 l2_0 l2_1) else (triglyphref04_Dy.j0 k a0 (decide (a0 > 32)) l1_0 l1_1 l2_0 l2_1))) else (some (([] : List Int), ([] : List (S33)), t202)))) else (some (([] : List Int), ([] : List (S33)), t201)))) = some (r1, r2, r3) := h
 clear h
 replace H := Option.bind_eq_some_iff.mp H
 obtain ⟨t201, A40, H⟩ := H
 replace H : (if t201 = 0 then ((triglyphref03_Check.f l2_0 l2_1).bind fun t202 => (if t202 = 0 then (if a0 = 54 then (some (([] : List Int), ([] : List (S33)), 10)) else (if a0 < 21 then (triglyphref04_Dy.j0 k a0 true l1_0 l1_1 l2_0 l2_1) else (triglyphref04_Dy.j0 k a0 (decide (a0 > 32)) l1_0 l1_1 l2_0 l2_1))) else (some (([] : List Int), ([] : List (S33)), t202)))) else (some (([] : List Int), ([] : List (S33)), t201))) = some (r1, r2, r3) := H
 have A4 := Aside0.mk A40
 clear A40
 by_cases c5 : t201 = 0
 ·rw [if_pos c5] at H
  have c5b0 : (t201 == 0) = true := beq_iff_eq.mpr c5
  have c5b1 : (t201 != 0) = false := bne_eq_false_iff_eq.mpr c5
  clear c5
  replace H := Option.bind_eq_some_iff.mp H
  obtain ⟨t202, A60, H⟩ := H
  replace H : (if t202 = 0 then (if a0 = 54 then (some (([] : List Int), ([] : List (S33)), 10)) else (if a0 < 21 then (triglyphref04_Dy.j0 k a0 true l1_0 l1_1 l2_0 l2_1) else (triglyphref04_Dy.j0 k a0 (decide (a0 > 32)) l1_0 l1_1 l2_0 l2_1))) else (some (([] : List Int), ([] : List (S33)), t202))) = some (r1, r2, r3) := H
  have A6 := Aside0.mk A60
  clear A60
  by_cases c7 : t202 = 0
  ·rw [if_pos c7] at H
   have c7b0 : (t202 == 0) = true := beq_iff_eq.mpr c7
   have c7b1 : (t202 != 0) = false := bne_eq_false_iff_eq.mpr c7
   clear c7
   by_cases c8 : a0 = 54
   ·rw [if_pos c8] at H
    have c8b0 : (a0 == 54) = true := beq_iff_eq.mpr c8
    have c8b1 : (a0 != 54) = false := bne_eq_false_iff_eq.mpr c8
    clear c8
    simp only [Option.some.injEq, Prod.mk.injEq] at H
    obtain ⟨rfl, rfl, rfl⟩ := H
    go_enter Try.func54, Try.ntmps54
    go_wp2_with (first|((with_reducible refine gate_dst (N := 4) rfl ?_);refine box_event ?hg (N := 4) ?hd (cs := #[.slice A1_0 l1_0.length c1_0, .slice A1_1 l1_1.length c1_1]) (t := 25) ?hr ?_;(case hd => rfl);(case hg => rfl);(case hr => first|(go_simp;done)|(go_simp;rfl));intro gb198 hg w9 hbox hb;have n0_ := Aside0.mk (below_step (by repeat (first|(with_reducible first|exact HB.out|apply below_alloc|apply pw_below_drewN|apply below_drew1)|exact HB.out)) hb);have n1_ := Aside0.mk (hbox);have n2_ := Aside0.mk ((by rw [hg];exact (below_size (by repeat (first|(with_reducible first|exact HB.out|apply below_alloc|apply pw_below_drewN|apply below_drew1)|exact HB.out))) : w.heap.size ≤ gb198));have n3_ := Aside0.mk ((by rw [hg];exact (below_size (by repeat (first|(with_reducible first|exact HB.out|apply below_alloc|apply pw_below_drewN|apply below_drew1)|exact HB.out))) : w.heap.size ≤ gb198));clear HB;have HB := n0_;have BK198 := n1_;have GW198 := n2_;have GE198 := n3_;clear n0_ n1_ n2_ n3_;clear hb hbox hg)|((with_reducible refine gate_dst (N := 5) rfl ?_);refine box_event ?hg (N := 5) ?hd (cs := #[.slice A2_0 l2_0.length c2_0, .slice A2_1 l2_1.length c2_1]) (t := 25) ?hr ?_;(case hd => rfl);(case hg => rfl);(case hr => first|(go_simp;done)|(go_simp;rfl));intro gb199 hg w10 hbox hb;have n0_ := Aside0.mk (blk_below (g := gb198) (o := .cells #[.slice A1_0 l1_0.length c1_0, .slice A1_1 l1_1.length c1_1] 25 (0, 0)) (by (with_reducible repeat (first|refine blk_drewN ?_ _|refine blk_drew ?_|refine blk_alloc ?_ _));exact BK198.out) hb);have n1_ := Aside0.mk (below_step (by repeat (first|(with_reducible first|exact HB.out|apply below_alloc|apply pw_below_drewN|apply below_drew1|refine below_set ?_ GE198.out)|exact HB.out)) hb);have n2_ := Aside0.mk (hbox);have n3_ := Aside0.mk ((by rw [hg];exact (below_size (by repeat (first|(with_reducible first|exact HB.out|apply below_alloc|apply pw_below_drewN|apply below_drew1|refine below_set ?_ GE198.out)|exact HB.out))) : w.heap.size ≤ gb199));have n4_ := Aside0.mk ((by rw [hg];exact (below_size (by repeat (first|(with_reducible first|exact HB.out|apply below_alloc|apply pw_below_drewN|apply below_drew1|refine below_set ?_ GE198.out)|exact HB.out))) : w.heap.size ≤ gb199));have n5_ := Aside0.mk ((by rw [hg];exact Nat.ne_of_lt (blk_lt (g := gb198) (o := .cells #[.slice A1_0 l1_0.length c1_0, .slice A1_1 l1_1.length c1_1] 25 (0, 0)) (by (with_reducible repeat (first|refine blk_drewN ?_ _|refine blk_drew ?_|refine blk_alloc ?_ _));exact BK198.out)) : gb198 ≠ gb199));have n6_ := Aside0.mk ((by rw [hg];exact Nat.ne_of_gt (blk_lt (g := gb198) (o := .cells #[.slice A1_0 l1_0.length c1_0, .slice A1_1 l1_1.length c1_1] 25 (0, 0)) (by (with_reducible repeat (first|refine blk_drewN ?_ _|refine blk_drew ?_|refine blk_alloc ?_ _));exact BK198.out)) : gb199 ≠ gb198));clear BK198;clear HB;have BK198 := n0_;have HB := n1_;have BK199 := n2_;have GW199 := n3_;have GE199 := n4_;have NB198_199 := n5_;have NB199_198 := n6_;clear n0_ n1_ n2_ n3_ n4_ n5_ n6_;clear hb hbox hg)|((with_reducible refine gate_dst (N := 6) rfl ?_);refine box_event ?hg (N := 6) ?hd (cs := #[.slice none 0 0, .slice none 0 0]) (t := 25) ?hr ?_;(case hd => rfl);(case hg => rfl);(case hr => first|(go_simp;done)|(go_simp;rfl));intro gb200 hg w11 hbox hb;have n0_ := Aside0.mk (blk_below (g := gb198) (o := .cells #[.slice A1_0 l1_0.length c1_0, .slice A1_1 l1_1.length c1_1] 25 (0, 0)) (by (with_reducible repeat (first|refine blk_drewN ?_ _|refine blk_drew ?_|refine blk_alloc ?_ _));exact BK198.out) hb);have n1_ := Aside0.mk (blk_below (g := gb199) (o := .cells #[.slice A2_0 l2_0.length c2_0, .slice A2_1 l2_1.length c2_1] 25 (0, 0)) (by (with_reducible repeat (first|refine blk_drewN ?_ _|refine blk_drew ?_|refine blk_alloc ?_ _));exact BK199.out) hb);have n2_ := Aside0.mk (below_step (by repeat (first|(with_reducible first|exact HB.out|apply below_alloc|apply pw_below_drewN|apply below_drew1|refine below_set ?_ GE198.out|refine below_set ?_ GE199.out)|exact HB.out)) hb);have n3_ := Aside0.mk (hbox);have n4_ := Aside0.mk ((by rw [hg];exact (below_size (by repeat (first|(with_reducible first|exact HB.out|apply below_alloc|apply pw_below_drewN|apply below_drew1|refine below_set ?_ GE198.out|refine below_set ?_ GE199.out)|exact HB.out))) : w.heap.size ≤ gb200));have n5_ := Aside0.mk ((by rw [hg];exact (below_size (by repeat (first|(with_reducible first|exact HB.out|apply below_alloc|apply pw_below_drewN|apply below_drew1|refine below_set ?_ GE198.out|refine below_set ?_ GE199.out)|exact HB.out))) : w.heap.size ≤ gb200));have n6_ := Aside0.mk ((by rw [hg];exact Nat.ne_of_lt (blk_lt (g := gb198) (o := .cells #[.slice A1_0 l1_0.length c1_0, .slice A1_1 l1_1.length c1_1] 25 (0, 0)) (by (with_reducible repeat (first|refine blk_drewN ?_ _|refine blk_drew ?_|refine blk_alloc ?_ _));exact BK198.out)) : gb198 ≠ gb200));have n7_ := Aside0.mk ((by rw [hg];exact Nat.ne_of_gt (blk_lt (g := gb198) (o := .cells #[.slice A1_0 l1_0.length c1_0, .slice A1_1 l1_1.length c1_1] 25 (0, 0)) (by (with_reducible repeat (first|refine blk_drewN ?_ _|refine blk_drew ?_|refine blk_alloc ?_ _));exact BK198.out)) : gb200 ≠ gb198));have n8_ := Aside0.mk ((by rw [hg];exact Nat.ne_of_lt (blk_lt (g := gb199) (o := .cells #[.slice A2_0 l2_0.length c2_0, .slice A2_1 l2_1.length c2_1] 25 (0, 0)) (by (with_reducible repeat (first|refine blk_drewN ?_ _|refine blk_drew ?_|refine blk_alloc ?_ _));exact BK199.out)) : gb199 ≠ gb200));have n9_ := Aside0.mk ((by rw [hg];exact Nat.ne_of_gt (blk_lt (g := gb199) (o := .cells #[.slice A2_0 l2_0.length c2_0, .slice A2_1 l2_1.length c2_1] 25 (0, 0)) (by (with_reducible repeat (first|refine blk_drewN ?_ _|refine blk_drew ?_|refine blk_alloc ?_ _));exact BK199.out)) : gb200 ≠ gb199));clear BK198;clear BK199;clear HB;have BK198 := n0_;have BK199 := n1_;have HB := n2_;have BK200 := n3_;have GW200 := n4_;have GE200 := n5_;have NB198_200 := n6_;have NB200_198 := n7_;have NB199_200 := n8_;have NB200_199 := n9_;clear n0_ n1_ n2_ n3_ n4_ n5_ n6_ n7_ n8_ n9_;clear hb hbox hg;have hnb12 := NB198_199.out;have hnc12 := NB199_198.out;have hnb13 := NB198_200.out;have hnc13 := NB200_198.out;have hcz14_0 : w11.cell? ⟨gb198, 0, none⟩ = some (.slice A1_0 l1_0.length c1_0) := (blk_cell BK198.out 0).trans rfl;have hcz14_1 : w11.cell? ⟨gb198, 1, none⟩ = some (.slice A1_1 l1_1.length c1_1) := (blk_cell BK198.out 1).trans rfl;have hfz14_0 := blk_frozen BK198.out 0;have hfz14_1 := blk_frozen BK198.out 1)|((with_reducible refine gate_callee (f := 19) rfl ?_);refine goesL_ (some 21) rfl rfl Try.func19 (by kernel_rfl) rfl #[.agg #[.slice A1_0 l1_0.length c1_0, .slice A1_1 l1_1.length c1_1]] rfl (by (try simp only [List.map_toArray, List.map_cons, List.map_nil]);first|done|rfl|(simp only [List.length_drop, List.length_take];rfl)) ?_;(with_reducible refine (triglyphref03_Check.calls _ _ l1_0 _ _ l1_1 t201 _ ?side1 ?side2 ?side3 ?side4 A4.out).mono ?_);(case side1 => repeat (first|exact (Kd.C_below HR1_0.out HB.out)|(with_reducible refine Kd.C_alloc ?_ _)|(with_reducible refine Kd.C_drewN ?_ _)|(with_reducible refine Kd.C_drew ?_)));(case side2 => exact HC1_0.out);(case side3 => repeat (first|exact (Kd.C_below HR1_1.out HB.out)|(with_reducible refine Kd.C_alloc ?_ _)|(with_reducible refine Kd.C_drewN ?_ _)|(with_reducible refine Kd.C_drew ?_)));(case side4 => exact HC1_1.out);rintro e w15 ⟨rfl, hb⟩;refine ⟨_, rfl, ?_⟩;have n0_ := Aside0.mk (blk_below (g := gb198) (o := .cells #[.slice A1_0 l1_0.length c1_0, .slice A1_1 l1_1.length c1_1] 25 (0, 0)) (by (with_reducible repeat (first|refine blk_drewN ?_ _|refine blk_drew ?_|refine blk_alloc ?_ _));exact BK198.out) hb);have n1_ := Aside0.mk (blk_below (g := gb199) (o := .cells #[.slice A2_0 l2_0.length c2_0, .slice A2_1 l2_1.length c2_1] 25 (0, 0)) (by (with_reducible repeat (first|refine blk_drewN ?_ _|refine blk_drew ?_|refine blk_alloc ?_ _));exact BK199.out) hb);have n2_ := Aside0.mk (blk_below (g := gb200) (o := .cells #[.slice none 0 0, .slice none 0 0] 25 (0, 0)) (by (with_reducible repeat (first|refine blk_drewN ?_ _|refine blk_drew ?_|refine blk_alloc ?_ _));exact BK200.out) hb);have n3_ := Aside0.mk (below_step (by repeat (first|(with_reducible first|exact HB.out|apply below_alloc|apply pw_below_drewN|apply below_drew1|refine below_set ?_ GE198.out|refine below_set ?_ GE199.out|refine below_set ?_ GE200.out)|exact HB.out)) hb);clear BK198;clear BK199;clear BK200;clear HB;have BK198 := n0_;have BK199 := n1_;have BK200 := n2_;have HB := n3_;clear n0_ n1_ n2_ n3_;(try clear hb);(try clear hb2);(try clear hk);(try clear hi);have hnb16 := NB199_200.out;have hnc16 := NB200_199.out;have hcz17_0 : w15.cell? ⟨gb199, 0, none⟩ = some (.slice A2_0 l2_0.length c2_0) := (blk_cell BK199.out 0).trans rfl;have hcz17_1 : w15.cell? ⟨gb199, 1, none⟩ = some (.slice A2_1 l2_1.length c2_1) := (blk_cell BK199.out 1).trans rfl;have hfz17_0 := blk_frozen BK199.out 0;have hfz17_1 := blk_frozen BK199.out 1)|((with_reducible refine gate_callee (f := 19) rfl ?_);refine goesL_ (some 27) rfl rfl Try.func19 (by kernel_rfl) rfl #[.agg #[.slice A2_0 l2_0.length c2_0, .slice A2_1 l2_1.length c2_1]] rfl (by (try simp only [List.map_toArray, List.map_cons, List.map_nil]);first|done|rfl|(simp only [List.length_drop, List.length_take];rfl)) ?_;(with_reducible refine (triglyphref03_Check.calls _ _ l2_0 _ _ l2_1 t202 _ ?side1 ?side2 ?side3 ?side4 A6.out).mono ?_);(case side1 => repeat (first|exact (Kd.C_below HR2_0.out HB.out)|(with_reducible refine Kd.C_alloc ?_ _)|(with_reducible refine Kd.C_drewN ?_ _)|(with_reducible refine Kd.C_drew ?_)));(case side2 => exact HC2_0.out);(case side3 => repeat (first|exact (Kd.C_below HR2_1.out HB.out)|(with_reducible refine Kd.C_alloc ?_ _)|(with_reducible refine Kd.C_drewN ?_ _)|(with_reducible refine Kd.C_drew ?_)));(case side4 => exact HC2_1.out);rintro e w18 ⟨rfl, hb⟩;refine ⟨_, rfl, ?_⟩;have n0_ := Aside0.mk (blk_below (g := gb198) (o := .cells #[.slice A1_0 l1_0.length c1_0, .slice A1_1 l1_1.length c1_1] 25 (0, 0)) (by (with_reducible repeat (first|refine blk_drewN ?_ _|refine blk_drew ?_|refine blk_alloc ?_ _));exact BK198.out) hb);have n1_ := Aside0.mk (blk_below (g := gb199) (o := .cells #[.slice A2_0 l2_0.length c2_0, .slice A2_1 l2_1.length c2_1] 25 (0, 0)) (by (with_reducible repeat (first|refine blk_drewN ?_ _|refine blk_drew ?_|refine blk_alloc ?_ _));exact BK199.out) hb);have n2_ := Aside0.mk (blk_below (g := gb200) (o := .cells #[.slice none 0 0, .slice none 0 0] 25 (0, 0)) (by (with_reducible repeat (first|refine blk_drewN ?_ _|refine blk_drew ?_|refine blk_alloc ?_ _));exact BK200.out) hb);have n3_ := Aside0.mk (below_step (by repeat (first|(with_reducible first|exact HB.out|apply below_alloc|apply pw_below_drewN|apply below_drew1|refine below_set ?_ GE198.out|refine below_set ?_ GE199.out|refine below_set ?_ GE200.out)|exact HB.out)) hb);clear BK198;clear BK199;clear BK200;clear HB;have BK198 := n0_;have BK199 := n1_;have BK200 := n2_;have HB := n3_;clear n0_ n1_ n2_ n3_;(try clear hb);(try clear hb2);(try clear hk);(try clear hi);have hcz19_0 : w18.cell? ⟨gb200, 0, none⟩ = some (.slice none 0 0) := (blk_cell BK200.out 0).trans rfl;have hcz19_1 : w18.cell? ⟨gb200, 1, none⟩ = some (.slice none 0 0) := (blk_cell BK200.out 1).trans rfl;have hfz19_0 := blk_frozen BK200.out 0;have hfz19_1 := blk_frozen BK200.out 1))
    refine bodyPost_ret (results_ct rfl _ _ gb200 25 #[.slice none 0 0, .slice none 0 0] (0, 0) _ rfl (by (with_reducible repeat (first|refine blk_drewN ?_ _|refine blk_drew ?_|refine blk_alloc ?_ _));refine blk_put (cs := #[.slice none 0 0, .slice none 0 0]) ?_ 1 _ rfl;(with_reducible repeat (first|refine blk_drewN ?_ _|refine blk_drew ?_|refine blk_alloc ?_ _));refine blk_put (cs := #[.slice none 0 0, .slice none 0 0]) ?_ 0 _ rfl;(with_reducible repeat (first|refine blk_drewN ?_ _|refine blk_drew ?_|refine blk_alloc ?_ _));exact BK200.out) Try.underlying25 rfl (by kernel_rfl)) rfl ?_
    exact ⟨_, _, by first|rfl|(simp [errW_none, errW_some] <;> rfl)|(simp [*, errW_none, errW_some] <;> rfl), by first|exact Kd.R_nil _ _ _ _ _|exact Kd.N_nil _ _ _ _ _|exact Kd.V_nil _ _ _ _ _|exact Kd.Q_nil _ _ _ _ _|exact Kd.S_nil _ _ _ _ _, by first|exact Kd.R_nil _ _ _ _ _|exact Kd.N_nil _ _ _ _ _|exact Kd.V_nil _ _ _ _ _|exact Kd.Q_nil _ _ _ _ _|exact Kd.S_nil _ _ _ _ _, by repeat (first|(with_reducible first|exact HB.out|apply below_alloc|apply pw_below_drewN|apply below_drew1|refine below_set ?_ GE198.out|refine below_set ?_ GE199.out|refine below_set ?_ GE200.out)|exact HB.out)⟩
   ·rw [if_neg c8] at H
    have c8b0 : (a0 == 54) = false := beq_eq_false_iff_ne.mpr c8
    have c8b1 : (a0 != 54) = true := bne_iff_ne.mpr c8
    have HC20 := Aside0.mk H
    clear H
    go_enter Try.func54, Try.ntmps54
    go_upto_region 9 with (first|((with_reducible refine gate_dst (N := 4) rfl ?_);refine box_event ?hg (N := 4) ?hd (cs := #[.slice A1_0 l1_0.length c1_0, .slice A1_1 l1_1.length c1_1]) (t := 25) ?hr ?_;(case hd => rfl);(case hg => rfl);(case hr => first|(go_simp;done)|(go_simp;rfl));intro gb198 hg w21 hbox hb;have n0_ := Aside0.mk (below_step (by repeat (first|(with_reducible first|exact HB.out|apply below_alloc|apply pw_below_drewN|apply below_drew1)|exact HB.out)) hb);have n1_ := Aside0.mk (hbox);have n2_ := Aside0.mk ((by rw [hg];exact (below_size (by repeat (first|(with_reducible first|exact HB.out|apply below_alloc|apply pw_below_drewN|apply below_drew1)|exact HB.out))) : w.heap.size ≤ gb198));have n3_ := Aside0.mk ((by rw [hg];exact (below_size (by repeat (first|(with_reducible first|exact HB.out|apply below_alloc|apply pw_below_drewN|apply below_drew1)|exact HB.out))) : w.heap.size ≤ gb198));clear HB;have HB := n0_;have BK198 := n1_;have GW198 := n2_;have GE198 := n3_;clear n0_ n1_ n2_ n3_;clear hb hbox hg)|((with_reducible refine gate_dst (N := 5) rfl ?_);refine box_event ?hg (N := 5) ?hd (cs := #[.slice A2_0 l2_0.length c2_0, .slice A2_1 l2_1.length c2_1]) (t := 25) ?hr ?_;(case hd => rfl);(case hg => rfl);(case hr => first|(go_simp;done)|(go_simp;rfl));intro gb199 hg w22 hbox hb;have n0_ := Aside0.mk (blk_below (g := gb198) (o := .cells #[.slice A1_0 l1_0.length c1_0, .slice A1_1 l1_1.length c1_1] 25 (0, 0)) (by (with_reducible repeat (first|refine blk_drewN ?_ _|refine blk_drew ?_|refine blk_alloc ?_ _));exact BK198.out) hb);have n1_ := Aside0.mk (below_step (by repeat (first|(with_reducible first|exact HB.out|apply below_alloc|apply pw_below_drewN|apply below_drew1|refine below_set ?_ GE198.out)|exact HB.out)) hb);have n2_ := Aside0.mk (hbox);have n3_ := Aside0.mk ((by rw [hg];exact (below_size (by repeat (first|(with_reducible first|exact HB.out|apply below_alloc|apply pw_below_drewN|apply below_drew1|refine below_set ?_ GE198.out)|exact HB.out))) : w.heap.size ≤ gb199));have n4_ := Aside0.mk ((by rw [hg];exact (below_size (by repeat (first|(with_reducible first|exact HB.out|apply below_alloc|apply pw_below_drewN|apply below_drew1|refine below_set ?_ GE198.out)|exact HB.out))) : w.heap.size ≤ gb199));have n5_ := Aside0.mk ((by rw [hg];exact Nat.ne_of_lt (blk_lt (g := gb198) (o := .cells #[.slice A1_0 l1_0.length c1_0, .slice A1_1 l1_1.length c1_1] 25 (0, 0)) (by (with_reducible repeat (first|refine blk_drewN ?_ _|refine blk_drew ?_|refine blk_alloc ?_ _));exact BK198.out)) : gb198 ≠ gb199));have n6_ := Aside0.mk ((by rw [hg];exact Nat.ne_of_gt (blk_lt (g := gb198) (o := .cells #[.slice A1_0 l1_0.length c1_0, .slice A1_1 l1_1.length c1_1] 25 (0, 0)) (by (with_reducible repeat (first|refine blk_drewN ?_ _|refine blk_drew ?_|refine blk_alloc ?_ _));exact BK198.out)) : gb199 ≠ gb198));clear BK198;clear HB;have BK198 := n0_;have HB := n1_;have BK199 := n2_;have GW199 := n3_;have GE199 := n4_;have NB198_199 := n5_;have NB199_198 := n6_;clear n0_ n1_ n2_ n3_ n4_ n5_ n6_;clear hb hbox hg)|((with_reducible refine gate_dst (N := 6) rfl ?_);refine box_event ?hg (N := 6) ?hd (cs := #[.slice none 0 0, .slice none 0 0]) (t := 25) ?hr ?_;(case hd => rfl);(case hg => rfl);(case hr => first|(go_simp;done)|(go_simp;rfl));intro gb200 hg w23 hbox hb;have n0_ := Aside0.mk (blk_below (g := gb198) (o := .cells #[.slice A1_0 l1_0.length c1_0, .slice A1_1 l1_1.length c1_1] 25 (0, 0)) (by (with_reducible repeat (first|refine blk_drewN ?_ _|refine blk_drew ?_|refine blk_alloc ?_ _));exact BK198.out) hb);have n1_ := Aside0.mk (blk_below (g := gb199) (o := .cells #[.slice A2_0 l2_0.length c2_0, .slice A2_1 l2_1.length c2_1] 25 (0, 0)) (by (with_reducible repeat (first|refine blk_drewN ?_ _|refine blk_drew ?_|refine blk_alloc ?_ _));exact BK199.out) hb);have n2_ := Aside0.mk (below_step (by repeat (first|(with_reducible first|exact HB.out|apply below_alloc|apply pw_below_drewN|apply below_drew1|refine below_set ?_ GE198.out|refine below_set ?_ GE199.out)|exact HB.out)) hb);have n3_ := Aside0.mk (hbox);have n4_ := Aside0.mk ((by rw [hg];exact (below_size (by repeat (first|(with_reducible first|exact HB.out|apply below_alloc|apply pw_below_drewN|apply below_drew1|refine below_set ?_ GE198.out|refine below_set ?_ GE199.out)|exact HB.out))) : w.heap.size ≤ gb200));have n5_ := Aside0.mk ((by rw [hg];exact (below_size (by repeat (first|(with_reducible first|exact HB.out|apply below_alloc|apply pw_below_drewN|apply below_drew1|refine below_set ?_ GE198.out|refine below_set ?_ GE199.out)|exact HB.out))) : w.heap.size ≤ gb200));have n6_ := Aside0.mk ((by rw [hg];exact Nat.ne_of_lt (blk_lt (g := gb198) (o := .cells #[.slice A1_0 l1_0.length c1_0, .slice A1_1 l1_1.length c1_1] 25 (0, 0)) (by (with_reducible repeat (first|refine blk_drewN ?_ _|refine blk_drew ?_|refine blk_alloc ?_ _));exact BK198.out)) : gb198 ≠ gb200));have n7_ := Aside0.mk ((by rw [hg];exact Nat.ne_of_gt (blk_lt (g := gb198) (o := .cells #[.slice A1_0 l1_0.length c1_0, .slice A1_1 l1_1.length c1_1] 25 (0, 0)) (by (with_reducible repeat (first|refine blk_drewN ?_ _|refine blk_drew ?_|refine blk_alloc ?_ _));exact BK198.out)) : gb200 ≠ gb198));have n8_ := Aside0.mk ((by rw [hg];exact Nat.ne_of_lt (blk_lt (g := gb199) (o := .cells #[.slice A2_0 l2_0.length c2_0, .slice A2_1 l2_1.length c2_1] 25 (0, 0)) (by (with_reducible repeat (first|refine blk_drewN ?_ _|refine blk_drew ?_|refine blk_alloc ?_ _));exact BK199.out)) : gb199 ≠ gb200));have n9_ := Aside0.mk ((by rw [hg];exact Nat.ne_of_gt (blk_lt (g := gb199) (o := .cells #[.slice A2_0 l2_0.length c2_0, .slice A2_1 l2_1.length c2_1] 25 (0, 0)) (by (with_reducible repeat (first|refine blk_drewN ?_ _|refine blk_drew ?_|refine blk_alloc ?_ _));exact BK199.out)) : gb200 ≠ gb199));clear BK198;clear BK199;clear HB;have BK198 := n0_;have BK199 := n1_;have HB := n2_;have BK200 := n3_;have GW200 := n4_;have GE200 := n5_;have NB198_200 := n6_;have NB200_198 := n7_;have NB199_200 := n8_;have NB200_199 := n9_;clear n0_ n1_ n2_ n3_ n4_ n5_ n6_ n7_ n8_ n9_;clear hb hbox hg;have hnb24 := NB198_199.out;have hnc24 := NB199_198.out;have hnb25 := NB198_200.out;have hnc25 := NB200_198.out;have hcz26_0 : w23.cell? ⟨gb198, 0, none⟩ = some (.slice A1_0 l1_0.length c1_0) := (blk_cell BK198.out 0).trans rfl;have hcz26_1 : w23.cell? ⟨gb198, 1, none⟩ = some (.slice A1_1 l1_1.length c1_1) := (blk_cell BK198.out 1).trans rfl;have hfz26_0 := blk_frozen BK198.out 0;have hfz26_1 := blk_frozen BK198.out 1)|((with_reducible refine gate_callee (f := 19) rfl ?_);refine goesL_ (some 21) rfl rfl Try.func19 (by kernel_rfl) rfl #[.agg #[.slice A1_0 l1_0.length c1_0, .slice A1_1 l1_1.length c1_1]] rfl (by (try simp only [List.map_toArray, List.map_cons, List.map_nil]);first|done|rfl|(simp only [List.length_drop, List.length_take];rfl)) ?_;(with_reducible refine (triglyphref03_Check.calls _ _ l1_0 _ _ l1_1 t201 _ ?side1 ?side2 ?side3 ?side4 A4.out).mono ?_);(case side1 => repeat (first|exact (Kd.C_below HR1_0.out HB.out)|(with_reducible refine Kd.C_alloc ?_ _)|(with_reducible refine Kd.C_drewN ?_ _)|(with_reducible refine Kd.C_drew ?_)));(case side2 => exact HC1_0.out);(case side3 => repeat (first|exact (Kd.C_below HR1_1.out HB.out)|(with_reducible refine Kd.C_alloc ?_ _)|(with_reducible refine Kd.C_drewN ?_ _)|(with_reducible refine Kd.C_drew ?_)));(case side4 => exact HC1_1.out);rintro e w27 ⟨rfl, hb⟩;refine ⟨_, rfl, ?_⟩;have n0_ := Aside0.mk (blk_below (g := gb198) (o := .cells #[.slice A1_0 l1_0.length c1_0, .slice A1_1 l1_1.length c1_1] 25 (0, 0)) (by (with_reducible repeat (first|refine blk_drewN ?_ _|refine blk_drew ?_|refine blk_alloc ?_ _));exact BK198.out) hb);have n1_ := Aside0.mk (blk_below (g := gb199) (o := .cells #[.slice A2_0 l2_0.length c2_0, .slice A2_1 l2_1.length c2_1] 25 (0, 0)) (by (with_reducible repeat (first|refine blk_drewN ?_ _|refine blk_drew ?_|refine blk_alloc ?_ _));exact BK199.out) hb);have n2_ := Aside0.mk (blk_below (g := gb200) (o := .cells #[.slice none 0 0, .slice none 0 0] 25 (0, 0)) (by (with_reducible repeat (first|refine blk_drewN ?_ _|refine blk_drew ?_|refine blk_alloc ?_ _));exact BK200.out) hb);have n3_ := Aside0.mk (below_step (by repeat (first|(with_reducible first|exact HB.out|apply below_alloc|apply pw_below_drewN|apply below_drew1|refine below_set ?_ GE198.out|refine below_set ?_ GE199.out|refine below_set ?_ GE200.out)|exact HB.out)) hb);clear BK198;clear BK199;clear BK200;clear HB;have BK198 := n0_;have BK199 := n1_;have BK200 := n2_;have HB := n3_;clear n0_ n1_ n2_ n3_;(try clear hb);(try clear hb2);(try clear hk);(try clear hi);have hnb28 := NB199_200.out;have hnc28 := NB200_199.out;have hcz29_0 : w27.cell? ⟨gb199, 0, none⟩ = some (.slice A2_0 l2_0.length c2_0) := (blk_cell BK199.out 0).trans rfl;have hcz29_1 : w27.cell? ⟨gb199, 1, none⟩ = some (.slice A2_1 l2_1.length c2_1) := (blk_cell BK199.out 1).trans rfl;have hfz29_0 := blk_frozen BK199.out 0;have hfz29_1 := blk_frozen BK199.out 1)|((with_reducible refine gate_callee (f := 19) rfl ?_);refine goesL_ (some 27) rfl rfl Try.func19 (by kernel_rfl) rfl #[.agg #[.slice A2_0 l2_0.length c2_0, .slice A2_1 l2_1.length c2_1]] rfl (by (try simp only [List.map_toArray, List.map_cons, List.map_nil]);first|done|rfl|(simp only [List.length_drop, List.length_take];rfl)) ?_;(with_reducible refine (triglyphref03_Check.calls _ _ l2_0 _ _ l2_1 t202 _ ?side1 ?side2 ?side3 ?side4 A6.out).mono ?_);(case side1 => repeat (first|exact (Kd.C_below HR2_0.out HB.out)|(with_reducible refine Kd.C_alloc ?_ _)|(with_reducible refine Kd.C_drewN ?_ _)|(with_reducible refine Kd.C_drew ?_)));(case side2 => exact HC2_0.out);(case side3 => repeat (first|exact (Kd.C_below HR2_1.out HB.out)|(with_reducible refine Kd.C_alloc ?_ _)|(with_reducible refine Kd.C_drewN ?_ _)|(with_reducible refine Kd.C_drew ?_)));(case side4 => exact HC2_1.out);rintro e w30 ⟨rfl, hb⟩;refine ⟨_, rfl, ?_⟩;have n0_ := Aside0.mk (blk_below (g := gb198) (o := .cells #[.slice A1_0 l1_0.length c1_0, .slice A1_1 l1_1.length c1_1] 25 (0, 0)) (by (with_reducible repeat (first|refine blk_drewN ?_ _|refine blk_drew ?_|refine blk_alloc ?_ _));exact BK198.out) hb);have n1_ := Aside0.mk (blk_below (g := gb199) (o := .cells #[.slice A2_0 l2_0.length c2_0, .slice A2_1 l2_1.length c2_1] 25 (0, 0)) (by (with_reducible repeat (first|refine blk_drewN ?_ _|refine blk_drew ?_|refine blk_alloc ?_ _));exact BK199.out) hb);have n2_ := Aside0.mk (blk_below (g := gb200) (o := .cells #[.slice none 0 0, .slice none 0 0] 25 (0, 0)) (by (with_reducible repeat (first|refine blk_drewN ?_ _|refine blk_drew ?_|refine blk_alloc ?_ _));exact BK200.out) hb);have n3_ := Aside0.mk (below_step (by repeat (first|(with_reducible first|exact HB.out|apply below_alloc|apply pw_below_drewN|apply below_drew1|refine below_set ?_ GE198.out|refine below_set ?_ GE199.out|refine below_set ?_ GE200.out)|exact HB.out)) hb);clear BK198;clear BK199;clear BK200;clear HB;have BK198 := n0_;have BK199 := n1_;have BK200 := n2_;have HB := n3_;clear n0_ n1_ n2_ n3_;(try clear hb);(try clear hb2);(try clear hk);(try clear hi)))
    (try simp only [Act.put, List.setIfInBounds_toArray, List.set_cons_zero, List.set_cons_succ])
    go_cut [40] (fun v40 wc => ∃ (kq : Nat) (x40_19 : Bool), v40 = .bool x40_19 ∧ Aside0 (triglyphref04_Dy.j0 kq a0 x40_19 l1_0 l1_1 l2_0 l2_1 = some (r1, r2, r3)) ∧ Aside0 (kq ≤ k) ∧ Aside0 (wc.heap[gb198]? = some (.cells #[(.slice A1_0 l1_0.length c1_0), (.slice A1_1 l1_1.length c1_1)] 25 (0, 0))) ∧ Aside0 (wc.heap[gb199]? = some (.cells #[(.slice A2_0 l2_0.length c2_0), (.slice A2_1 l2_1.length c2_1)] 25 (0, 0))) ∧ Aside0 (wc.heap[gb200]? = some (.cells #[(.slice none 0 0), (.slice none 0 0)] 25 (0, 0))) ∧ Aside0 (Below w.heap.size w wc))
    case first =>
     have H := HC20.out
     clear HC20
     by_cases c31 : a0 < 21
     ·rw [if_pos c31] at H
      have c31b0 : decide (a0 < 21) = true := decide_eq_true c31
      clear c31
      (first|rw [c31b0]|(simp only [i64_w, i32_w];rw [c31b0])|skip)
      have H' := Aside0.mk H
      clear H
      go_wp2
      go_meet
      case rel => exact ⟨_, (true), (by first|rfl|(simp;done)|(simp [*];done)), H', ⟨by first|omega|exact Nat.le_refl _⟩, ⟨by (with_reducible repeat (first|refine blk_drewN ?_ _|refine blk_drew ?_|refine blk_alloc ?_ _));exact BK198.out⟩, ⟨by (with_reducible repeat (first|refine blk_drewN ?_ _|refine blk_drew ?_|refine blk_alloc ?_ _));exact BK199.out⟩, ⟨by (with_reducible repeat (first|refine blk_drewN ?_ _|refine blk_drew ?_|refine blk_alloc ?_ _));exact BK200.out⟩, ⟨by repeat (first|(with_reducible first|exact HB.out|apply below_alloc|apply pw_below_drewN|apply below_drew1|refine below_set ?_ GE198.out|refine below_set ?_ GE199.out|refine below_set ?_ GE200.out)|exact HB.out)⟩⟩
     ·rw [if_neg c31] at H
      have c31b0 : decide (a0 < 21) = false := decide_eq_false c31
      clear c31
      (first|rw [c31b0]|(simp only [i64_w, i32_w];rw [c31b0])|skip)
      have H' := Aside0.mk H
      clear H
      go_wp2
      go_meet
      case rel => exact ⟨_, (decide (a0 > 32)), (by first|rfl|(simp;done)|(simp [*];done)), H', ⟨by first|omega|exact Nat.le_refl _⟩, ⟨by (with_reducible repeat (first|refine blk_drewN ?_ _|refine blk_drew ?_|refine blk_alloc ?_ _));exact BK198.out⟩, ⟨by (with_reducible repeat (first|refine blk_drewN ?_ _|refine blk_drew ?_|refine blk_alloc ?_ _));exact BK199.out⟩, ⟨by (with_reducible repeat (first|refine blk_drewN ?_ _|refine blk_drew ?_|refine blk_alloc ?_ _));exact BK200.out⟩, ⟨by repeat (first|(with_reducible first|exact HB.out|apply below_alloc|apply pw_below_drewN|apply below_drew1|refine below_set ?_ GE198.out|refine below_set ?_ GE199.out|refine below_set ?_ GE200.out)|exact HB.out)⟩⟩
    case rest =>
     clear HC20
     try clear c1
     try clear c2
     try clear p2
     try clear c3
     try clear c5
     try clear c5b0
     try clear c5b1
     try clear c7
     try clear c7b0
     try clear c7b1
     try clear c8
     try clear c8b0
     try clear c8b1
     try clear c12
     try clear c13
     try clear c16
     try clear c19
     try clear c24
     try clear c25
     try clear c28
     try clear c31
     try clear c31b0
     try clear hcz14_0
     try clear hcz14_1
     try clear hcz17_0
     try clear hcz17_1
     try clear hcz19_0
     try clear hcz19_1
     try clear hcz26_0
     try clear hcz26_1
     try clear hcz29_0
     try clear hcz29_1
     try clear hfz14_0
     try clear hfz14_1
     try clear hfz17_0
     try clear hfz17_1
     try clear hfz19_0
     try clear hfz19_1
     try clear hfz26_0
     try clear hfz26_1
     try clear hfz29_0
     try clear hfz29_1
     obtain ⟨kq, x40_19, rfl, HA, HJ19, BK198, BK199, BK200, HB⟩ := hcut
     cases kq with
     | zero => exact absurd HA.out (by simp [triglyphref04_Dy.j0])
     | succ kj19 =>
      have H := HA.out
      clear HA
      simp only [triglyphref04_Dy.j0] at H
      by_cases c32 : x40_19 = true
      ·subst c32
       have H1 : (some (([] : List Int), ([] : List (S33)), 1)) = some (r1, r2, r3) := by rw [if_pos rfl] at H;exact H
       clear H
       have H := H1
       clear H1
       simp only [Option.some.injEq, Prod.mk.injEq] at H
       obtain ⟨rfl, rfl, rfl⟩ := H
       have hnb33 := NB200_198.out
       have hnc33 := NB198_200.out
       have hnb34 := NB200_199.out
       have hnc34 := NB199_200.out
       have hcz35_0 : wc.cell? ⟨gb200, 0, none⟩ = some (.slice none 0 0) := (blk_cell BK200.out 0).trans rfl
       have hcz35_1 : wc.cell? ⟨gb200, 1, none⟩ = some (.slice none 0 0) := (blk_cell BK200.out 1).trans rfl
       have hfz35_0 := blk_frozen BK200.out 0
       have hfz35_1 := blk_frozen BK200.out 1
       go_wp2
       refine bodyPost_ret (results_ct rfl _ _ gb200 25 #[.slice none 0 0, .slice none 0 0] (0, 0) _ rfl (by (with_reducible repeat (first|refine blk_drewN ?_ _|refine blk_drew ?_|refine blk_alloc ?_ _));refine blk_put (cs := #[.slice none 0 0, .slice none 0 0]) ?_ 1 _ rfl;(with_reducible repeat (first|refine blk_drewN ?_ _|refine blk_drew ?_|refine blk_alloc ?_ _));refine blk_put (cs := #[.slice none 0 0, .slice none 0 0]) ?_ 0 _ rfl;(with_reducible repeat (first|refine blk_drewN ?_ _|refine blk_drew ?_|refine blk_alloc ?_ _));exact BK200.out) Try.underlying25 rfl (by kernel_rfl)) rfl ?_
       exact ⟨_, _, by first|rfl|(simp [errW_none, errW_some] <;> rfl)|(simp [*, errW_none, errW_some] <;> rfl), by first|exact Kd.R_nil _ _ _ _ _|exact Kd.N_nil _ _ _ _ _|exact Kd.V_nil _ _ _ _ _|exact Kd.Q_nil _ _ _ _ _|exact Kd.S_nil _ _ _ _ _, by first|exact Kd.R_nil _ _ _ _ _|exact Kd.N_nil _ _ _ _ _|exact Kd.V_nil _ _ _ _ _|exact Kd.Q_nil _ _ _ _ _|exact Kd.S_nil _ _ _ _ _, by repeat (first|(with_reducible first|exact HB.out|apply below_alloc|apply pw_below_drewN|apply below_drew1|refine below_set ?_ GE198.out|refine below_set ?_ GE199.out|refine below_set ?_ GE200.out)|exact HB.out)⟩
      ·replace c32 := Bool.eq_false_iff.mpr c32
       subst c32
       have H1 : ((triglyphref04_Agree.f l1_0 l2_0).bind fun bt203 => (if bt203.2 = 0 then ((triglyphref03_Size.f bt203.1).bind fun bt207 => (if ([] : List Int).length + bt203.1.length < 17592186044416 then (triglyphref04_Dy.l0 kj19 a0 bt207.1 0 l1_0 l1_1 l2_0 l2_1 (([] : List Int) ++ bt203.1) ([] : List (S33))) else (none))) else (some (([] : List Int), ([] : List (S33)), bt203.2)))) = some (r1, r2, r3) := by rw [if_neg (show ¬ (false = true) by decide)] at H;exact H
       clear H
       have H := H1
       clear H1
       replace H := Option.bind_eq_some_iff.mp H
       obtain ⟨⟨t203, t206⟩, A360, H⟩ := H
       replace H : (if t206 = 0 then ((triglyphref03_Size.f t203).bind fun bt207 => (if ([] : List Int).length + t203.length < 17592186044416 then (triglyphref04_Dy.l0 kj19 a0 bt207.1 0 l1_0 l1_1 l2_0 l2_1 (([] : List Int) ++ t203) ([] : List (S33))) else (none))) else (some (([] : List Int), ([] : List (S33)), t206))) = some (r1, r2, r3) := H
       have A36 := Aside0.mk A360
       clear A360
       by_cases c37 : t206 = 0
       ·rw [if_pos c37] at H
        have c37b0 : (t206 == 0) = true := beq_iff_eq.mpr c37
        have c37b1 : (t206 != 0) = false := bne_eq_false_iff_eq.mpr c37
        clear c37
        replace H := Option.bind_eq_some_iff.mp H
        obtain ⟨⟨t207, t208⟩, A380, H⟩ := H
        replace H : (if ([] : List Int).length + t203.length < 17592186044416 then (triglyphref04_Dy.l0 kj19 a0 t207 0 l1_0 l1_1 l2_0 l2_1 (([] : List Int) ++ t203) ([] : List (S33))) else (none)) = some (r1, r2, r3) := H
        have A38 := Aside0.mk A380
        clear A380
        by_cases c39 : ([] : List Int).length + t203.length < 17592186044416
        ·rw [if_pos c39] at H
         have LMc39 := Aside0.mk c39
         clear c39
         obtain ⟨y210, hy210⟩ : ∃ y_ : List Int, y_ = (([] : List Int) ++ t203) := ⟨_, rfl⟩
         replace H : (triglyphref04_Dy.l0 kj19 a0 t207 0 l1_0 l1_1 l2_0 l2_1 y210 ([] : List (S33))) = some (r1, r2, r3) := by first | (rw [hy210]; with_reducible exact H) | (have H2_ := (Option.bind_some _ _).symm.trans H; rw [hy210]; with_reducible exact H2_) | (have H2_ := (Option.bind_some _ _).symm.trans H; with_reducible exact H2_) | with_reducible exact H | (rw [hy210]; exact H) | exact H
         have Ny210 := Aside0.mk hy210
         clear hy210
         have H' := Aside0.mk H
         clear H
         have hnb40 := NB198_199.out
         have hnc40 := NB199_198.out
         have hnb41 := NB198_200.out
         have hnc41 := NB200_198.out
         have hcz42_0 : wc.cell? ⟨gb198, 0, none⟩ = some (.slice A1_0 l1_0.length c1_0) := (blk_cell BK198.out 0).trans rfl
         have hcz42_1 : wc.cell? ⟨gb198, 1, none⟩ = some (.slice A1_1 l1_1.length c1_1) := (blk_cell BK198.out 1).trans rfl
         have hfz42_0 := blk_frozen BK198.out 0
         have hfz42_1 := blk_frozen BK198.out 1
         have hnb43 := NB199_200.out
         have hnc43 := NB200_199.out
         have hcz44_0 : wc.cell? ⟨gb199, 0, none⟩ = some (.slice A2_0 l2_0.length c2_0) := (blk_cell BK199.out 0).trans rfl
         have hcz44_1 : wc.cell? ⟨gb199, 1, none⟩ = some (.slice A2_1 l2_1.length c2_1) := (blk_cell BK199.out 1).trans rfl
         have hfz44_0 := blk_frozen BK199.out 0
         have hfz44_1 := blk_frozen BK199.out 1
         go_wp2_with (first|((with_reducible refine gate_callee (f := 56) rfl ?_);refine goesL_ (some 47) rfl rfl Try.func56 (by kernel_rfl) rfl #[.slice A1_0 l1_0.length c1_0, .slice A2_0 l2_0.length c2_0] rfl (by (try simp only [List.map_toArray, List.map_cons, List.map_nil]);first|done|rfl|(simp only [List.length_drop, List.length_take];rfl)) ?_;(with_reducible refine (triglyphref04_Agree.calls (fun k_ => k_ < w.heap.size) _ _ l1_0 (fun k_ => k_ < w.heap.size) _ _ l2_0 t203 t206 _ ?side1 ?side2 A36.out).mono ?_);(case side1 => exact Kd.V_mk HC1_0.out (Kd.F_below (Kd.C_F (Kd.heap_int .i64) HR1_0.out) (by repeat (first|(with_reducible first|exact HB.out|apply below_alloc|apply pw_below_drewN|apply below_drew1|refine below_set ?_ GE198.out|refine below_set ?_ GE199.out|refine below_set ?_ GE200.out)|exact HB.out))));(case side2 => exact Kd.V_mk HC2_0.out (Kd.F_below (Kd.C_F (Kd.heap_int .i64) HR2_0.out) (by repeat (first|(with_reducible first|exact HB.out|apply below_alloc|apply pw_below_drewN|apply below_drew1|refine below_set ?_ GE198.out|refine below_set ?_ GE199.out|refine below_set ?_ GE200.out)|exact HB.out))));rintro e w45 ⟨v204, rfl, ho0, hb⟩;refine ⟨_, rfl, ?_⟩;have n0_ := Aside0.mk (Kd.V_lower (Kd.V_mono (ok' := fun k_ => k_ ≠ gb198 ∧ k_ ≠ gb199 ∧ k_ ≠ gb200) ho0 (fun k_ hk_ => ⟨Or.elim hk_ (fun hs_ => Or.elim hs_ (fun hs_ => fun e_ => Nat.not_le.2 hs_ (by rw [e_];exact GW198.out)) (fun hs_ => fun e_ => Nat.not_le.2 hs_ (by rw [e_];exact GW198.out))) (fun hn_ => (Kd.freshB (g := gb198) (o := .cells #[.slice A1_0 l1_0.length c1_0, .slice A1_1 l1_1.length c1_1] 25 (0, 0)) (by (with_reducible repeat (first|refine blk_drewN ?_ _|refine blk_drew ?_|refine blk_alloc ?_ _));exact BK198.out) k_ hn_)), Or.elim hk_ (fun hs_ => Or.elim hs_ (fun hs_ => fun e_ => Nat.not_le.2 hs_ (by rw [e_];exact GW199.out)) (fun hs_ => fun e_ => Nat.not_le.2 hs_ (by rw [e_];exact GW199.out))) (fun hn_ => (Kd.freshB (g := gb199) (o := .cells #[.slice A2_0 l2_0.length c2_0, .slice A2_1 l2_1.length c2_1] 25 (0, 0)) (by (with_reducible repeat (first|refine blk_drewN ?_ _|refine blk_drew ?_|refine blk_alloc ?_ _));exact BK199.out) k_ hn_)), Or.elim hk_ (fun hs_ => Or.elim hs_ (fun hs_ => fun e_ => Nat.not_le.2 hs_ (by rw [e_];exact GW200.out)) (fun hs_ => fun e_ => Nat.not_le.2 hs_ (by rw [e_];exact GW200.out))) (fun hn_ => (Kd.freshB (g := gb200) (o := .cells #[.slice none 0 0, .slice none 0 0] 25 (0, 0)) (by (with_reducible repeat (first|refine blk_drewN ?_ _|refine blk_drew ?_|refine blk_alloc ?_ _));exact BK200.out) k_ hn_))⟩)) (below_size (by repeat (first|(with_reducible first|exact HB.out|apply below_alloc|apply pw_below_drewN|apply below_drew1|refine below_set ?_ GE198.out|refine below_set ?_ GE199.out|refine below_set ?_ GE200.out)|exact HB.out))));have n1_ := Aside0.mk (blk_below (g := gb198) (o := .cells #[.slice A1_0 l1_0.length c1_0, .slice A1_1 l1_1.length c1_1] 25 (0, 0)) (by (with_reducible repeat (first|refine blk_drewN ?_ _|refine blk_drew ?_|refine blk_alloc ?_ _));exact BK198.out) hb);have n2_ := Aside0.mk (blk_below (g := gb199) (o := .cells #[.slice A2_0 l2_0.length c2_0, .slice A2_1 l2_1.length c2_1] 25 (0, 0)) (by (with_reducible repeat (first|refine blk_drewN ?_ _|refine blk_drew ?_|refine blk_alloc ?_ _));exact BK199.out) hb);have n3_ := Aside0.mk (blk_below (g := gb200) (o := .cells #[.slice none 0 0, .slice none 0 0] 25 (0, 0)) (by (with_reducible repeat (first|refine blk_drewN ?_ _|refine blk_drew ?_|refine blk_alloc ?_ _));exact BK200.out) hb);have n4_ := Aside0.mk (below_step (by repeat (first|(with_reducible first|exact HB.out|apply below_alloc|apply pw_below_drewN|apply below_drew1|refine below_set ?_ GE198.out|refine below_set ?_ GE199.out|refine below_set ?_ GE200.out)|exact HB.out)) hb);clear BK198;clear BK199;clear BK200;clear HB;have HO205 := n0_;have BK198 := n1_;have BK199 := n2_;have BK200 := n3_;have HB := n4_;clear n0_ n1_ n2_ n3_ n4_;(try clear hb);(try clear hb2);(try clear hk);(try clear hi);(try clear ho0);obtain ⟨Ao46, co46, eo46⟩ := Kd.V_slice HO205.out;subst eo46)|((with_reducible refine gate_callee (f := 91) rfl ?_);refine goesL_ (some 56) rfl rfl Try.func91 (by kernel_rfl) rfl #[.slice Ao46 t203.length co46] rfl (by (try simp only [List.map_toArray, List.map_cons, List.map_nil]);first|done|rfl|(simp only [List.length_drop, List.length_take];rfl)) ?_;(with_reducible refine (triglyphref03_Size.calls _ _ t203 t207 t208 _ ?side1 ?side2 A38.out).mono ?_);(case side1 => repeat (first|exact (Kd.V_reads' HO205.out).2.2|(with_reducible refine Kd.C_alloc ?_ _)|(with_reducible refine Kd.C_drewN ?_ _)|(with_reducible refine Kd.C_drew ?_)));(case side2 => exact (Kd.V_reads' HO205.out).2.1);rintro e w' ⟨rfl, ⟨nd, rfl⟩⟩;refine ⟨_, rfl, ?_⟩;(try (rw [drewN_self w45];generalize hq_ : World.drewN w45 _ = w45;have n0_ : Aside0 (Kd.V (Kd.int .i64) 3 w45 w.heap.size (fun k_ => k_ ≠ gb198 ∧ k_ ≠ gb199 ∧ k_ ≠ gb200) (.slice Ao46 t203.length co46) t203) := ⟨by rw [← hq_];exact (by (with_reducible repeat (first|apply Kd.V_alloc|apply Kd.V_drewN|apply Kd.V_drew));exact HO205.out)⟩;have n1_ : Aside0 (w45.heap[gb198]? = some (.cells #[.slice A1_0 l1_0.length c1_0, .slice A1_1 l1_1.length c1_1] 25 (0, 0))) := ⟨by rw [← hq_];exact (by (with_reducible repeat (first|refine blk_drewN ?_ _|refine blk_drew ?_|refine blk_alloc ?_ _));exact BK198.out)⟩;have n2_ : Aside0 (w45.heap[gb199]? = some (.cells #[.slice A2_0 l2_0.length c2_0, .slice A2_1 l2_1.length c2_1] 25 (0, 0))) := ⟨by rw [← hq_];exact (by (with_reducible repeat (first|refine blk_drewN ?_ _|refine blk_drew ?_|refine blk_alloc ?_ _));exact BK199.out)⟩;have n3_ : Aside0 (w45.heap[gb200]? = some (.cells #[.slice none 0 0, .slice none 0 0] 25 (0, 0))) := ⟨by rw [← hq_];exact (by (with_reducible repeat (first|refine blk_drewN ?_ _|refine blk_drew ?_|refine blk_alloc ?_ _));exact BK200.out)⟩;have n4_ : Aside0 (Below w.heap.size w w45) := ⟨by rw [← hq_];exact (by repeat (first|(with_reducible first|exact HB.out|apply below_alloc|apply pw_below_drewN|apply below_drew1|refine below_set ?_ GE198.out|refine below_set ?_ GE199.out|refine below_set ?_ GE200.out)|exact HB.out))⟩;clear HO205 BK198 BK199 BK200 HB hq_;have HO205 := n0_;have BK198 := n1_;have BK199 := n2_;have BK200 := n3_;have HB := n4_;clear n0_ n1_ n2_ n3_ n4_)))|((with_reducible refine gate_dst (N := 14) rfl ?_);refine box_event ?hg (N := 14) ?hd (cs := #[.slice none 0 0, .slice none 0 0]) (t := 25) ?hr ?_;(case hd => rfl);(case hg => rfl);(case hr => first|(go_simp;done)|(go_simp;rfl));intro gb209 hg w47 hbox hb;have n0_ := Aside0.mk (Kd.V_below (Kd.V_elderB (by (with_reducible repeat (first|apply Kd.V_alloc|apply Kd.V_drewN|apply Kd.V_drew));exact HO205.out) gb209 (Nat.le_of_eq hg.symm)) hb);have n1_ := Aside0.mk (blk_below (g := gb198) (o := .cells #[.slice A1_0 l1_0.length c1_0, .slice A1_1 l1_1.length c1_1] 25 (0, 0)) (by (with_reducible repeat (first|refine blk_drewN ?_ _|refine blk_drew ?_|refine blk_alloc ?_ _));exact BK198.out) hb);have n2_ := Aside0.mk (blk_below (g := gb199) (o := .cells #[.slice A2_0 l2_0.length c2_0, .slice A2_1 l2_1.length c2_1] 25 (0, 0)) (by (with_reducible repeat (first|refine blk_drewN ?_ _|refine blk_drew ?_|refine blk_alloc ?_ _));exact BK199.out) hb);have n3_ := Aside0.mk (blk_below (g := gb200) (o := .cells #[.slice none 0 0, .slice none 0 0] 25 (0, 0)) (by (with_reducible repeat (first|refine blk_drewN ?_ _|refine blk_drew ?_|refine blk_alloc ?_ _));exact BK200.out) hb);have n4_ := Aside0.mk (below_step (by repeat (first|(with_reducible first|exact HB.out|apply below_alloc|apply pw_below_drewN|apply below_drew1|refine below_set ?_ GE198.out|refine below_set ?_ GE199.out|refine below_set ?_ GE200.out)|exact HB.out)) hb);have n5_ := Aside0.mk (hbox);have n6_ := Aside0.mk ((by rw [hg];exact (below_size (by repeat (first|(with_reducible first|exact HB.out|apply below_alloc|apply pw_below_drewN|apply below_drew1|refine below_set ?_ GE198.out|refine below_set ?_ GE199.out|refine below_set ?_ GE200.out)|exact HB.out))) : w.heap.size ≤ gb209));have n7_ := Aside0.mk ((by rw [hg];exact (below_size (by repeat (first|(with_reducible first|exact HB.out|apply below_alloc|apply pw_below_drewN|apply below_drew1|refine below_set ?_ GE198.out|refine below_set ?_ GE199.out|refine below_set ?_ GE200.out)|exact HB.out))) : w.heap.size ≤ gb209));have n8_ := Aside0.mk ((by rw [hg];exact Nat.ne_of_lt (blk_lt (g := gb198) (o := .cells #[.slice A1_0 l1_0.length c1_0, .slice A1_1 l1_1.length c1_1] 25 (0, 0)) (by (with_reducible repeat (first|refine blk_drewN ?_ _|refine blk_drew ?_|refine blk_alloc ?_ _));exact BK198.out)) : gb198 ≠ gb209));have n9_ := Aside0.mk ((by rw [hg];exact Nat.ne_of_gt (blk_lt (g := gb198) (o := .cells #[.slice A1_0 l1_0.length c1_0, .slice A1_1 l1_1.length c1_1] 25 (0, 0)) (by (with_reducible repeat (first|refine blk_drewN ?_ _|refine blk_drew ?_|refine blk_alloc ?_ _));exact BK198.out)) : gb209 ≠ gb198));have n10_ := Aside0.mk ((by rw [hg];exact Nat.ne_of_lt (blk_lt (g := gb199) (o := .cells #[.slice A2_0 l2_0.length c2_0, .slice A2_1 l2_1.length c2_1] 25 (0, 0)) (by (with_reducible repeat (first|refine blk_drewN ?_ _|refine blk_drew ?_|refine blk_alloc ?_ _));exact BK199.out)) : gb199 ≠ gb209));have n11_ := Aside0.mk ((by rw [hg];exact Nat.ne_of_gt (blk_lt (g := gb199) (o := .cells #[.slice A2_0 l2_0.length c2_0, .slice A2_1 l2_1.length c2_1] 25 (0, 0)) (by (with_reducible repeat (first|refine blk_drewN ?_ _|refine blk_drew ?_|refine blk_alloc ?_ _));exact BK199.out)) : gb209 ≠ gb199));have n12_ := Aside0.mk ((by rw [hg];exact Nat.ne_of_lt (blk_lt (g := gb200) (o := .cells #[.slice none 0 0, .slice none 0 0] 25 (0, 0)) (by (with_reducible repeat (first|refine blk_drewN ?_ _|refine blk_drew ?_|refine blk_alloc ?_ _));exact BK200.out)) : gb200 ≠ gb209));have n13_ := Aside0.mk ((by rw [hg];exact Nat.ne_of_gt (blk_lt (g := gb200) (o := .cells #[.slice none 0 0, .slice none 0 0] 25 (0, 0)) (by (with_reducible repeat (first|refine blk_drewN ?_ _|refine blk_drew ?_|refine blk_alloc ?_ _));exact BK200.out)) : gb209 ≠ gb200));clear HO205;clear BK198;clear BK199;clear BK200;clear HB;have HO205 := n0_;have BK198 := n1_;have BK199 := n2_;have BK200 := n3_;have HB := n4_;have BK209 := n5_;have GW209 := n6_;have GE209 := n7_;have NB198_209 := n8_;have NB209_198 := n9_;have NB199_209 := n10_;have NB209_199 := n11_;have NB200_209 := n12_;have NB209_200 := n13_;clear n0_ n1_ n2_ n3_ n4_ n5_ n6_ n7_ n8_ n9_ n10_ n11_ n12_ n13_;clear hb hbox hg;have hnb48 := NB209_198.out;have hnc48 := NB198_209.out;have hnb49 := NB209_199.out;have hnc49 := NB199_209.out;have hnb50 := NB209_200.out;have hnc50 := NB200_209.out;have hcz51_0 : w47.cell? ⟨gb209, 0, none⟩ = some (.slice none 0 0) := (blk_cell BK209.out 0).trans rfl;have hcz51_1 : w47.cell? ⟨gb209, 1, none⟩ = some (.slice none 0 0) := (blk_cell BK209.out 1).trans rfl;have hfz51_0 := blk_frozen BK209.out 0;have hfz51_1 := blk_frozen BK209.out 1)|((with_reducible refine gate_builtin (b := .append) (xs := #[.tmp 61, .tmp 62]) rfl ?_);at_builtin;refine Kd.R_append_rows (Kd.int .i64) (w0 := w) w.heap.size rfl (.tmp 61) (.tmp 62) 22 3 (.int .i64 0) 8 rfl Try.underlying22 info3 rfl (by decide) (by omega) (.slice none 0 0) ([] : List Int) t203 _ _ _ (fun _ => True) (fun _ => False) rfl rfl ?aO ?aR (fun _ _ h => h) (fun _ h => h.elim) ?aF ?aB ?aS ?aL ?_;(case aR => refine (Kd.V_reads' (e := 3) (base := w.heap.size) (ok := fun k_ => ((k_ ≠ gb198 ∧ (k_ ≠ gb199 ∧ k_ ≠ gb200)) ∧ k_ ≠ gb209)) (n := t203.length) (c := co46) ?_).2.2;exact (by (with_reducible repeat (first|apply Kd.V_alloc|apply Kd.V_drewN|apply Kd.V_drew));exact (Kd.V_mono (Kd.V_far (p := ⟨gb209, 1, none⟩) (Kd.V_far (p := ⟨gb209, 0, none⟩) (Kd.V_mono HO205.out (fun k_ hk => (⟨hk, hk.2⟩ : _ ∧ k_ ≠ gb209))) (fun _ hk => hk.2) (.slice none 0 0)) (fun _ hk => hk.2) (.slice none 0 0)) (fun _ h_ => h_.1))));(case aB => exact (by repeat (first|(with_reducible first|exact HB.out|apply below_alloc|apply pw_below_drewN|apply below_drew1|refine below_set ?_ GE198.out|refine below_set ?_ GE199.out|refine below_set ?_ GE200.out|refine below_set ?_ GE209.out)|exact HB.out)));(case aF => exact (fun _ _ => trivial));(case aO => exact ((Kd.R_nil _ _ _ _ (fun _ => True))));(case aS => exact (below_size (by repeat (first|(with_reducible first|exact HB.out|apply below_alloc|apply pw_below_drewN|apply below_drew1|refine below_set ?_ GE198.out|refine below_set ?_ GE199.out|refine below_set ?_ GE200.out|refine below_set ?_ GE209.out)|exact HB.out))));(case aL => have := LMc39.out;omega);intro v211 w52 ho hb hg hat;rw [← Ny210.out] at ho;have n0_ := Aside0.mk (blk_grown (g := gb198) (o := .cells #[.slice A1_0 l1_0.length c1_0, .slice A1_1 l1_1.length c1_1] 25 (0, 0)) (by (with_reducible repeat (first|refine blk_drewN ?_ _|refine blk_drew ?_|refine blk_alloc ?_ _));refine blk_far ?_ NB198_209.out _;(with_reducible repeat (first|refine blk_drewN ?_ _|refine blk_drew ?_|refine blk_alloc ?_ _));refine blk_far ?_ NB198_209.out _;(with_reducible repeat (first|refine blk_drewN ?_ _|refine blk_drew ?_|refine blk_alloc ?_ _));exact BK198.out) hg (by simp [Value.ownBlock]));have n1_ := Aside0.mk (blk_grown (g := gb199) (o := .cells #[.slice A2_0 l2_0.length c2_0, .slice A2_1 l2_1.length c2_1] 25 (0, 0)) (by (with_reducible repeat (first|refine blk_drewN ?_ _|refine blk_drew ?_|refine blk_alloc ?_ _));refine blk_far ?_ NB199_209.out _;(with_reducible repeat (first|refine blk_drewN ?_ _|refine blk_drew ?_|refine blk_alloc ?_ _));refine blk_far ?_ NB199_209.out _;(with_reducible repeat (first|refine blk_drewN ?_ _|refine blk_drew ?_|refine blk_alloc ?_ _));exact BK199.out) hg (by simp [Value.ownBlock]));have n2_ := Aside0.mk (blk_grown (g := gb200) (o := .cells #[.slice none 0 0, .slice none 0 0] 25 (0, 0)) (by (with_reducible repeat (first|refine blk_drewN ?_ _|refine blk_drew ?_|refine blk_alloc ?_ _));refine blk_far ?_ NB200_209.out _;(with_reducible repeat (first|refine blk_drewN ?_ _|refine blk_drew ?_|refine blk_alloc ?_ _));refine blk_far ?_ NB200_209.out _;(with_reducible repeat (first|refine blk_drewN ?_ _|refine blk_drew ?_|refine blk_alloc ?_ _));exact BK200.out) hg (by simp [Value.ownBlock]));have n3_ := Aside0.mk (Kd.V_afterv (Kd.V_apart_nil (by (with_reducible repeat (first|apply Kd.V_alloc|apply Kd.V_drewN|apply Kd.V_drew));exact (Kd.V_mono (Kd.V_far (p := ⟨gb209, 1, none⟩) (Kd.V_far (p := ⟨gb209, 0, none⟩) (Kd.V_mono HO205.out (fun k_ hk => (⟨hk, hk.2⟩ : _ ∧ k_ ≠ gb209))) (fun _ hk => hk.2) (.slice none 0 0)) (fun _ hk => hk.2) (.slice none 0 0)) (fun _ h_ => h_.1)))) hg hat);have n4_ := Aside0.mk (blk_grown (g := gb209) (o := .cells #[.slice none 0 0, .slice none 0 0] 25 (0, 0)) (by (with_reducible repeat (first|refine blk_drewN ?_ _|refine blk_drew ?_|refine blk_alloc ?_ _));refine blk_put (cs := #[.slice none 0 0, .slice none 0 0]) ?_ 1 _ rfl;(with_reducible repeat (first|refine blk_drewN ?_ _|refine blk_drew ?_|refine blk_alloc ?_ _));refine blk_put (cs := #[.slice none 0 0, .slice none 0 0]) ?_ 0 _ rfl;(with_reducible repeat (first|refine blk_drewN ?_ _|refine blk_drew ?_|refine blk_alloc ?_ _));exact BK209.out) hg (by simp [Value.ownBlock]));have n5_ := Aside0.mk (hb);have n6_ := Aside0.mk (ho);clear BK198;clear BK199;clear BK200;clear HO205;clear BK209;clear HB;have BK198 := n0_;have BK199 := n1_;have BK200 := n2_;have HO205 := n3_;have BK209 := n4_;have HB := n5_;have HO212 := n6_;clear n0_ n1_ n2_ n3_ n4_ n5_ n6_;clear ho hb hg hat;obtain ⟨Ao53, co53, eo53⟩ := Kd.R_slice HO212.out;subst eo53;have hcz54_0 : w52.cell? ⟨gb209, 0, none⟩ = some (.slice none 0 0) := (blk_cell BK209.out 0).trans rfl;have hcz54_1 : w52.cell? ⟨gb209, 1, none⟩ = some (.slice none 0 0) := (blk_cell BK209.out 1).trans rfl;have hfz54_0 := blk_frozen BK209.out 0;have hfz54_1 := blk_frozen BK209.out 1))
         go_loopg [15] kj19 (fun kq v15 w' => ∃ (x15_2 : Int) (x210001_2 : List (S33)) (u210001 : Value), v15 = .int .i64 x15_2 ∧ Aside0 (triglyphref04_Dy.l0 kq a0 t207 x15_2 l1_0 l1_1 l2_0 l2_1 y210 x210001_2 = some (r1, r2, r3)) ∧ Aside0 (kq ≤ kj19) ∧ Aside0 (Kd.R (Kd.int .i64) 3 w' w.heap.size (fun _ => True) (.slice Ao53 y210.length co53) y210) ∧ Aside0 (Kd.R k33 33 w' w.heap.size (fun k_ => some k_ ≠ ((.slice Ao53 y210.length co53) : Value).ownBlock ∧ k_ ≠ gb198 ∧ k_ ≠ gb199 ∧ k_ ≠ gb200 ∧ k_ ≠ gb209) u210001 x210001_2) ∧ Aside0 (w'.heap[gb198]? = some (.cells #[(.slice A1_0 l1_0.length c1_0), (.slice A1_1 l1_1.length c1_1)] 25 (0, 0))) ∧ Aside0 (w'.heap[gb199]? = some (.cells #[(.slice A2_0 l2_0.length c2_0), (.slice A2_1 l2_1.length c2_1)] 25 (0, 0))) ∧ Aside0 (w'.heap[gb200]? = some (.cells #[(.slice none 0 0), (.slice none 0 0)] 25 (0, 0))) ∧ Aside0 (w'.heap[gb209]? = some (.cells #[(.slice Ao53 y210.length co53), u210001] 25 (0, 0))) ∧ Aside0 (Below w.heap.size w w'))
         case atStart => exact ⟨(0), (([] : List (S33))), (.slice none 0 0), (by first|rfl|(simp;done)|(simp [*];done)), H', ⟨Nat.le_refl _⟩, ⟨by (with_reducible repeat (first|apply Kd.R_alloc|apply Kd.R_drewN|apply Kd.R_drew));exact Kd.R_mono (Kd.R_far (p := ⟨gb209, 0, none⟩) (Kd.R_types HO212.out BK209.out (by decide)) (fun _ hk => hk.2) (.slice Ao53 y210.length co53)) (fun _ hk => trivial)⟩, ⟨by first|exact Kd.R_nil _ _ _ _ _|exact Kd.N_nil _ _ _ _ _|exact Kd.V_nil _ _ _ _ _|exact Kd.Q_nil _ _ _ _ _|exact Kd.S_nil _ _ _ _ _⟩, ⟨by (with_reducible repeat (first|refine blk_drewN ?_ _|refine blk_drew ?_|refine blk_alloc ?_ _));refine blk_far ?_ NB198_209.out _;(with_reducible repeat (first|refine blk_drewN ?_ _|refine blk_drew ?_|refine blk_alloc ?_ _));exact BK198.out⟩, ⟨by (with_reducible repeat (first|refine blk_drewN ?_ _|refine blk_drew ?_|refine blk_alloc ?_ _));refine blk_far ?_ NB199_209.out _;(with_reducible repeat (first|refine blk_drewN ?_ _|refine blk_drew ?_|refine blk_alloc ?_ _));exact BK199.out⟩, ⟨by (with_reducible repeat (first|refine blk_drewN ?_ _|refine blk_drew ?_|refine blk_alloc ?_ _));refine blk_far ?_ NB200_209.out _;(with_reducible repeat (first|refine blk_drewN ?_ _|refine blk_drew ?_|refine blk_alloc ?_ _));exact BK200.out⟩, ⟨by (with_reducible repeat (first|refine blk_drewN ?_ _|refine blk_drew ?_|refine blk_alloc ?_ _));refine blk_put (cs := #[.slice none 0 0, .slice none 0 0]) ?_ 0 _ rfl;(with_reducible repeat (first|refine blk_drewN ?_ _|refine blk_drew ?_|refine blk_alloc ?_ _));exact BK209.out⟩, ⟨by repeat (first|(with_reducible first|exact HB.out|apply below_alloc|apply pw_below_drewN|apply below_drew1|refine below_set ?_ GE198.out|refine below_set ?_ GE199.out|refine below_set ?_ GE200.out|refine below_set ?_ GE209.out)|exact HB.out)⟩⟩
         case round =>
          clear H'
          try clear c1
          try clear c2
          try clear p2
          try clear c3
          try clear c4
          try clear c5
          try clear c5b0
          try clear c5b1
          try clear c7
          try clear c7b0
          try clear c7b1
          try clear c8
          try clear c8b0
          try clear c8b1
          try clear c9
          try clear c12
          try clear c13
          try clear c16
          try clear c19
          try clear c24
          try clear c25
          try clear c28
          try clear c31
          try clear c31b0
          try clear c32
          try clear c33
          try clear c34
          try clear c37
          try clear c37b0
          try clear c37b1
          try clear c39
          try clear c40
          try clear c41
          try clear c43
          try clear c48
          try clear c49
          try clear c50
          try clear c54
          try clear hcz14_0
          try clear hcz14_1
          try clear hcz17_0
          try clear hcz17_1
          try clear hcz19_0
          try clear hcz19_1
          try clear hcz26_0
          try clear hcz26_1
          try clear hcz29_0
          try clear hcz29_1
          try clear hcz35_0
          try clear hcz35_1
          try clear hcz42_0
          try clear hcz42_1
          try clear hcz44_0
          try clear hcz44_1
          try clear hcz51_0
          try clear hcz51_1
          try clear hcz54_0
          try clear hcz54_1
          try clear hfz14_0
          try clear hfz14_1
          try clear hfz17_0
          try clear hfz17_1
          try clear hfz19_0
          try clear hfz19_1
          try clear hfz26_0
          try clear hfz26_1
          try clear hfz29_0
          try clear hfz29_1
          try clear hfz35_0
          try clear hfz35_1
          try clear hfz42_0
          try clear hfz42_1
          try clear hfz44_0
          try clear hfz44_1
          try clear hfz51_0
          try clear hfz51_1
          try clear hfz54_0
          try clear hfz54_1
          try clear p2
          obtain ⟨x15_2, x210001_2, u210001, rfl, HA, HK2, HO_210000, HO_210001, BK198, BK199, BK200, BK209, HB⟩ := hrel
          cases gk with
          | zero => exact absurd HA.out (by simp [triglyphref04_Dy.l0])
          | succ k2 =>
           have H := HA.out
           clear HA
           simp only [triglyphref04_Dy.l0] at H
           by_cases c55 : x15_2 < t207
           ·rw [if_pos c55] at H
            have c55b0 : decide (x15_2 < t207) = true := decide_eq_true c55
            clear c55
            by_cases c56 : (l1_1.length : Int) = 0
            ·rw [if_pos c56] at H
             exact absurd H (by simp)
            ·rw [if_neg c56] at H
             have c56b0 : ((l1_1.length : Int) == 0) = false := beq_eq_false_iff_ne.mpr c56
             have c56b1 : ((l1_1.length : Int) != 0) = true := bne_iff_ne.mpr c56
             have c56b2 : ¬ (l1_1 = []) := fun h_ => c56 (by rw [h_];rfl)
             obtain ⟨ji57, hji57⟩ : ∃ j_ : Int, (Int.tmod x15_2 (l1_1.length : Int)) = j_ := ⟨_, rfl⟩
             replace H : (if 0 ≤ (ji57) then (if (ji57) < (l1_1.length : Int) then (if (l2_1.length : Int) = 0 then (none) else (if 0 ≤ (Int.tmod x15_2 (l2_1.length : Int)) then (if (Int.tmod x15_2 (l2_1.length : Int)) < (l2_1.length : Int) then ((triglyphref04_Cell.f a0 ((rd_T33 l1_1 (ji57)).f0) ((rd_T33 l1_1 (ji57)).f1) ((rd_T33 l1_1 (ji57)).f2) ((rd_T33 l2_1 (Int.tmod x15_2 (l2_1.length : Int))).f0) ((rd_T33 l2_1 (Int.tmod x15_2 (l2_1.length : Int))).f1) ((rd_T33 l2_1 (Int.tmod x15_2 (l2_1.length : Int))).f2)).bind fun bt217 => (if bt217.2.2.2 = 0 then (if x210001_2.length < 3518437208883 then (triglyphref04_Dy.l0 k2 a0 t207 (wrap64 (x15_2 + 1)) l1_0 l1_1 l2_0 l2_1 y210 (x210001_2 ++ [(⟨bt217.1, bt217.2.1, bt217.2.2.1⟩ : S33)])) else (none)) else (some (([] : List Int), ([] : List (S33)), bt217.2.2.2)))) else (none)) else (none))) else (none)) else (none)) = some (r1, r2, r3) := by first | (rw [hji57] at H; exact H) | (simp only [hji57] at H ⊢; exact H)
             by_cases c58 : 0 ≤ (ji57)
             ·rw [if_pos c58] at H
              have c58b0 : decide (0 ≤ (ji57)) = true := decide_eq_true c58
              clear c58
              by_cases c59 : (ji57) < (l1_1.length : Int)
              ·rw [if_pos c59] at H
               have c59b0 : decide ((ji57) < (l1_1.length : Int)) = true := decide_eq_true c59
               clear c59
               by_cases c60 : (l2_1.length : Int) = 0
               ·rw [if_pos c60] at H
                exact absurd H (by simp)
               ·rw [if_neg c60] at H
                have c60b0 : ((l2_1.length : Int) == 0) = false := beq_eq_false_iff_ne.mpr c60
                have c60b1 : ((l2_1.length : Int) != 0) = true := bne_iff_ne.mpr c60
                have c60b2 : ¬ (l2_1 = []) := fun h_ => c60 (by rw [h_];rfl)
                obtain ⟨ji61, hji61⟩ : ∃ j_ : Int, (Int.tmod x15_2 (l2_1.length : Int)) = j_ := ⟨_, rfl⟩
                replace H : (if 0 ≤ (ji61) then (if (ji61) < (l2_1.length : Int) then ((triglyphref04_Cell.f a0 ((rd_T33 l1_1 (ji57)).f0) ((rd_T33 l1_1 (ji57)).f1) ((rd_T33 l1_1 (ji57)).f2) ((rd_T33 l2_1 (ji61)).f0) ((rd_T33 l2_1 (ji61)).f1) ((rd_T33 l2_1 (ji61)).f2)).bind fun bt217 => (if bt217.2.2.2 = 0 then (if x210001_2.length < 3518437208883 then (triglyphref04_Dy.l0 k2 a0 t207 (wrap64 (x15_2 + 1)) l1_0 l1_1 l2_0 l2_1 y210 (x210001_2 ++ [(⟨bt217.1, bt217.2.1, bt217.2.2.1⟩ : S33)])) else (none)) else (some (([] : List Int), ([] : List (S33)), bt217.2.2.2)))) else (none)) else (none)) = some (r1, r2, r3) := by first | (rw [hji61] at H; exact H) | (simp only [hji61] at H ⊢; exact H)
                by_cases c62 : 0 ≤ (ji61)
                ·rw [if_pos c62] at H
                 have c62b0 : decide (0 ≤ (ji61)) = true := decide_eq_true c62
                 clear c62
                 by_cases c63 : (ji61) < (l2_1.length : Int)
                 ·rw [if_pos c63] at H
                  have c63b0 : decide ((ji61) < (l2_1.length : Int)) = true := decide_eq_true c63
                  clear c63
                  replace H := Option.bind_eq_some_iff.mp H
                  obtain ⟨⟨t217, t218, t219, t222⟩, A640, H⟩ := H
                  replace H : (if t222 = 0 then (if x210001_2.length < 3518437208883 then (triglyphref04_Dy.l0 k2 a0 t207 (wrap64 (x15_2 + 1)) l1_0 l1_1 l2_0 l2_1 y210 (x210001_2 ++ [(⟨t217, t218, t219⟩ : S33)])) else (none)) else (some (([] : List Int), ([] : List (S33)), t222))) = some (r1, r2, r3) := H
                  have A64 := Aside0.mk A640
                  clear A640
                  by_cases c65 : t222 = 0
                  ·rw [if_pos c65] at H
                   have c65b0 : (t222 == 0) = true := beq_iff_eq.mpr c65
                   have c65b1 : (t222 != 0) = false := bne_eq_false_iff_eq.mpr c65
                   clear c65
                   by_cases c66 : x210001_2.length < 3518437208883
                   ·rw [if_pos c66] at H
                    have LMc66 := Aside0.mk c66
                    clear c66
                    obtain ⟨y224, hy224⟩ : ∃ y_ : List (S33), y_ = (x210001_2 ++ [(⟨t217, t218, t219⟩ : S33)]) := ⟨_, rfl⟩
                    replace H : (triglyphref04_Dy.l0 k2 a0 t207 (wrap64 (x15_2 + 1)) l1_0 l1_1 l2_0 l2_1 y210 y224) = some (r1, r2, r3) := by first | (rw [hy224]; with_reducible exact H) | (have H2_ := (Option.bind_some _ _).symm.trans H; rw [hy224]; with_reducible exact H2_) | (have H2_ := (Option.bind_some _ _).symm.trans H; with_reducible exact H2_) | with_reducible exact H | (rw [hy224]; exact H) | exact H
                    have Ny224 := Aside0.mk hy224
                    clear hy224
                    have H' := Aside0.mk H
                    clear H
                    try go_wp2
                    have n0_ := Aside0.mk (Kd.R_drew HO_210000.out)
                    have n1_ := Aside0.mk (Kd.R_drew HO_210001.out)
                    have n2_ := Aside0.mk (blk_drew BK198.out)
                    have n3_ := Aside0.mk (blk_drew BK199.out)
                    have n4_ := Aside0.mk (blk_drew BK200.out)
                    have n5_ := Aside0.mk (blk_drew BK209.out)
                    have n6_ := Aside0.mk (below_drew1 HB.out)
                    clear HO_210000
                    clear HO_210001
                    clear BK198
                    clear BK199
                    clear BK200
                    clear BK209
                    clear HB
                    have HO_210000 := n0_
                    have HO_210001 := n1_
                    have BK198 := n2_
                    have BK199 := n3_
                    have BK200 := n4_
                    have BK209 := n5_
                    have HB := n6_
                    clear n0_ n1_ n2_ n3_ n4_ n5_ n6_
                    have p213 : 0 ≤ ((ji57) : Int) := of_decide_eq_true (by first|(with_reducible assumption)|assumption)
                    have q213 : (ji57) < (l1_1.length : Int) := of_decide_eq_true (by first|(with_reducible assumption)|assumption)
                    obtain ⟨ad213, A213_2, c213_2, e213, hx213_0, hx213_1, hx213_2, hl213_2, hi213_2⟩ := at_T33 HR1_1.out (ji57) p213 q213
                    have hw213_2 := hx213_2
                    have hw213_1 := hx213_1
                    have hw213_0 := hx213_0
                    cases e213
                    replace hx213_0 := (HB.out.cell (World.block_lt_of_cell? w _ hx213_0)).trans hx213_0
                    replace hx213_1 := (HB.out.cell (World.block_lt_of_cell? w _ hx213_1)).trans hx213_1
                    replace hx213_2 := (HB.out.cell (World.block_lt_of_cell? w _ hx213_2)).trans hx213_2
                    have HR213_2 := Aside0.mk hi213_2
                    have HC213_2 := Aside0.mk hl213_2
                    clear hi213_2 hl213_2
                    replace p213 := eq_true p213
                    replace q213 := eq_true q213
                    refine start_ (n := 11) (S := fun w' => w'.cell? ⟨gb198, 0, none⟩ = some (.slice A1_0 l1_0.length c1_0) ∧ w'.cell? ⟨gb198, 1, none⟩ = some (.slice (some ad213) l1_1.length c1_1) ∧ w'.cell? (ad213.add (((ji57)).toNat * 3)) = some (.int .i64 ((rd_T33 l1_1 (ji57)).f0)) ∧ w'.cell? ⟨(ad213.add (((ji57)).toNat * 3)).block, (ad213.add (((ji57)).toNat * 3)).off + 1, none⟩ = some (.int .i64 ((rd_T33 l1_1 (ji57)).f1)) ∧ w'.cell? ⟨(ad213.add (((ji57)).toNat * 3)).block, (ad213.add (((ji57)).toNat * 3)).off + 2, none⟩ = some (.slice A213_2 ((rd_T33 l1_1 (ji57)).f2).length c213_2)) (ds := []) #[false, false, false, false, false, false, false, false, false, false, false] (by kernel_rfl) rfl rfl ⟨(blk_cell BK198.out 0).trans rfl, (blk_cell BK198.out 1).trans rfl, ((HB.out.cell (World.block_lt_of_cell? w _ hw213_0)).trans hw213_0), ((HB.out.cell (World.block_lt_of_cell? w _ hw213_1)).trans hw213_1), ((HB.out.cell (World.block_lt_of_cell? w _ hw213_2)).trans hw213_2)⟩ (fun hHeld => ?_);refine with_tabW triglyphref04_Dy.tab20 triglyphref04_Dy.bits20 (fun HT_ HW_ => ?_)
                    generalize wr.drew = w67 at HO_210000 HO_210001 BK198 BK199 BK200 BK209 HB HR213_2 hx213_0 hx213_1 hx213_2 hHeld ⊢
                    refine pure_ (i := 0) (N := some 70) (v := ?_) (a' := ?_) #[true, false, false, false, false, false, false, false, false, false, false] rfl rfl (any_of HT_.out (by kernel_rfl)) (fun _ _ _ h => h) (Or.inl ⟨by rfl, ?_⟩) ?_ ?_
                    rotate_left
                    ·intro w'
                     go_simp
                     with_reducible rfl
                    rotate_left
                    ·simp only [Act.put, List.setIfInBounds_toArray, List.set_cons_zero, List.set_cons_succ, i64_w, i32_w]
                     rfl
                    refine pure_ (i := 2) (N := some 72) (v := ?_) (a' := ?_) #[true, false, true, false, false, false, false, false, false, false, false] rfl rfl (any_of HT_.out (by kernel_rfl)) (fun _ _ _ h => h) (Or.inl ⟨by rfl, ?_⟩) ?_ ?_
                    rotate_left
                    ·intro w'
                     go_simp
                     with_reducible rfl
                    rotate_left
                    ·simp only [Act.put, List.setIfInBounds_toArray, List.set_cons_zero, List.set_cons_succ, i64_w, i32_w]
                     rfl
                    refine pure_ (i := 3) (N := some 73) (v := ?_) (a' := ?_) #[true, false, true, true, false, false, false, false, false, false, false] rfl rfl (any_of HT_.out (by kernel_rfl)) (fun _ _ _ h => h) (Or.inl ⟨by rfl, ?_⟩) ?_ ?_
                    rotate_left
                    ·intro w'
                     go_simp
                     with_reducible rfl
                    rotate_left
                    ·simp only [Act.put, List.setIfInBounds_toArray, List.set_cons_zero, List.set_cons_succ, i64_w, i32_w]
                     rfl
                    refine take_ (i := 1) (N := some 71) (v := ?_) (a' := ?_) #[true, true, true, true, false, false, false, false, false, false, false] rfl rfl (take_ofW HT_.out HW_.out (by kernel_rfl)) (fun _ _ _ h => h) (Or.inl ⟨by rfl, ?_⟩) hHeld ?_ ?_
                    rotate_left
                    ·rintro w' ⟨s0, s1, s2, s3, s4⟩
                     go_simp
                     with_reducible rfl
                    rotate_left
                    ·simp only [Act.put, List.setIfInBounds_toArray, List.set_cons_zero, List.set_cons_succ, i64_w, i32_w]
                     rfl
                    refine take_ (i := 4) (N := some 74) (v := ?_) (a' := ?_) #[true, true, true, true, true, false, false, false, false, false, false] rfl rfl (take_ofW HT_.out HW_.out (by kernel_rfl)) (fun _ _ _ h => h) (Or.inl ⟨by rfl, ?_⟩) hHeld ?_ ?_
                    rotate_left
                    ·rintro w' ⟨s0, s1, s2, s3, s4⟩
                     go_simp
                     with_reducible rfl
                    rotate_left
                    ·simp only [Act.put, List.setIfInBounds_toArray, List.set_cons_zero, List.set_cons_succ, i64_w, i32_w]
                     rfl
                    refine pure_ (i := 5) (N := some 75) (v := ?_) (a' := ?_) #[true, true, true, true, true, true, false, false, false, false, false] rfl rfl (any_of HT_.out (by kernel_rfl)) (fun _ _ _ h => h) (Or.inl ⟨by rfl, ?_⟩) ?_ ?_
                    rotate_left
                    ·intro w'
                     go_simp
                     with_reducible rfl
                    rotate_left
                    ·simp only [Act.put, List.setIfInBounds_toArray, List.set_cons_zero, List.set_cons_succ, i64_w, i32_w]
                     rfl
                    refine pure_ (i := 6) (N := some 76) (v := ?_) (a' := ?_) #[true, true, true, true, true, true, true, false, false, false, false] rfl rfl (any_of HT_.out (by kernel_rfl)) (fun _ _ _ h => h) (Or.inl ⟨by rfl, ?_⟩) ?_ ?_
                    rotate_left
                    ·intro w'
                     go_simp
                     with_reducible rfl
                    rotate_left
                    ·simp only [Act.put, List.setIfInBounds_toArray, List.set_cons_zero, List.set_cons_succ, i64_w, i32_w]
                     rfl
                    refine pure_ (i := 7) (N := some 77) (v := ?_) (a' := ?_) #[true, true, true, true, true, true, true, true, false, false, false] rfl rfl (any_of HT_.out (by kernel_rfl)) (fun _ _ _ h => h) (Or.inl ⟨by rfl, ?_⟩) ?_ ?_
                    rotate_left
                    ·intro w'
                     go_simp
                     with_reducible rfl
                    rotate_left
                    ·simp only [Act.put, List.setIfInBounds_toArray, List.set_cons_zero, List.set_cons_succ, i64_w, i32_w]
                     rfl
                    refine take_ (i := 8) (N := some 78) (v := ?_) (a' := ?_) #[true, true, true, true, true, true, true, true, true, false, false] rfl rfl (take_ofW HT_.out HW_.out (by kernel_rfl)) (fun _ _ _ h => h) (Or.inl ⟨by rfl, ?_⟩) hHeld ?_ ?_
                    rotate_left
                    ·rintro w' ⟨s0, s1, s2, s3, s4⟩
                     go_simp
                     with_reducible rfl
                    rotate_left
                    ·simp only [Act.put, List.setIfInBounds_toArray, List.set_cons_zero, List.set_cons_succ, i64_w, i32_w]
                     rfl
                    refine one_ (i := 9) (N := some 16) #[true, true, true, true, true, true, true, true, true, true, false] rfl rfl (one_of HT_.out (by kernel_rfl)) (by decide) (fun K hK => ?_)
                    refine box_step ?hg (N := 16) ?hd (cs := #[.int .i64 0, .int .i64 0, .slice none 0 0]) (t := 33) ?hr ?_;(case hd => rfl);(case hg => rfl);(case hr => first|(go_simp;done)|(go_simp;rfl))
                    intro gb214 hg w68 hbox hb
                    have n0_ := Aside0.mk (Kd.R_below (by (with_reducible repeat (first|apply Kd.R_alloc|apply Kd.R_drewN|apply Kd.R_drew));exact HO_210000.out) hb)
                    have n1_ := Aside0.mk (Kd.R_below (Kd.R_elderB (by (with_reducible repeat (first|apply Kd.R_alloc|apply Kd.R_drewN|apply Kd.R_drew));exact HO_210001.out) gb214 (Nat.le_of_eq hg.symm)) hb)
                    have n2_ := Aside0.mk (blk_below (g := gb198) (o := .cells #[.slice A1_0 l1_0.length c1_0, .slice (some ad213) l1_1.length c1_1] 25 (0, 0)) (by (with_reducible repeat (first|refine blk_drewN ?_ _|refine blk_drew ?_|refine blk_alloc ?_ _));exact BK198.out) hb)
                    have n3_ := Aside0.mk (blk_below (g := gb199) (o := .cells #[.slice A2_0 l2_0.length c2_0, .slice A2_1 l2_1.length c2_1] 25 (0, 0)) (by (with_reducible repeat (first|refine blk_drewN ?_ _|refine blk_drew ?_|refine blk_alloc ?_ _));exact BK199.out) hb)
                    have n4_ := Aside0.mk (blk_below (g := gb200) (o := .cells #[.slice none 0 0, .slice none 0 0] 25 (0, 0)) (by (with_reducible repeat (first|refine blk_drewN ?_ _|refine blk_drew ?_|refine blk_alloc ?_ _));exact BK200.out) hb)
                    have n5_ := Aside0.mk (blk_below (g := gb209) (o := .cells #[.slice Ao53 y210.length co53, u210001] 25 (0, 0)) (by (with_reducible repeat (first|refine blk_drewN ?_ _|refine blk_drew ?_|refine blk_alloc ?_ _));exact BK209.out) hb)
                    have n6_ := Aside0.mk (below_step (by repeat (first|(with_reducible first|exact HB.out|apply below_alloc|apply pw_below_drewN|apply below_drew1|refine below_set ?_ GE198.out|refine below_set ?_ GE199.out|refine below_set ?_ GE200.out|refine below_set ?_ GE209.out)|exact HB.out)) hb)
                    have n7_ := Aside0.mk (hbox)
                    have n8_ := Aside0.mk ((by rw [hg];exact (below_size (by repeat (first|(with_reducible first|exact HB.out|apply below_alloc|apply pw_below_drewN|apply below_drew1|refine below_set ?_ GE198.out|refine below_set ?_ GE199.out|refine below_set ?_ GE200.out|refine below_set ?_ GE209.out)|exact HB.out))) : w.heap.size ≤ gb214))
                    have n9_ := Aside0.mk ((by rw [hg];exact (below_size (by repeat (first|(with_reducible first|exact HB.out|apply below_alloc|apply pw_below_drewN|apply below_drew1|refine below_set ?_ GE198.out|refine below_set ?_ GE199.out|refine below_set ?_ GE200.out|refine below_set ?_ GE209.out)|exact HB.out))) : w.heap.size ≤ gb214))
                    have n10_ := Aside0.mk ((by rw [hg];exact Nat.ne_of_lt (blk_lt (g := gb198) (o := .cells #[.slice A1_0 l1_0.length c1_0, .slice (some ad213) l1_1.length c1_1] 25 (0, 0)) (by (with_reducible repeat (first|refine blk_drewN ?_ _|refine blk_drew ?_|refine blk_alloc ?_ _));exact BK198.out)) : gb198 ≠ gb214))
                    have n11_ := Aside0.mk ((by rw [hg];exact Nat.ne_of_gt (blk_lt (g := gb198) (o := .cells #[.slice A1_0 l1_0.length c1_0, .slice (some ad213) l1_1.length c1_1] 25 (0, 0)) (by (with_reducible repeat (first|refine blk_drewN ?_ _|refine blk_drew ?_|refine blk_alloc ?_ _));exact BK198.out)) : gb214 ≠ gb198))
                    have n12_ := Aside0.mk ((by rw [hg];exact Nat.ne_of_lt (blk_lt (g := gb199) (o := .cells #[.slice A2_0 l2_0.length c2_0, .slice A2_1 l2_1.length c2_1] 25 (0, 0)) (by (with_reducible repeat (first|refine blk_drewN ?_ _|refine blk_drew ?_|refine blk_alloc ?_ _));exact BK199.out)) : gb199 ≠ gb214))
                    have n13_ := Aside0.mk ((by rw [hg];exact Nat.ne_of_gt (blk_lt (g := gb199) (o := .cells #[.slice A2_0 l2_0.length c2_0, .slice A2_1 l2_1.length c2_1] 25 (0, 0)) (by (with_reducible repeat (first|refine blk_drewN ?_ _|refine blk_drew ?_|refine blk_alloc ?_ _));exact BK199.out)) : gb214 ≠ gb199))
                    have n14_ := Aside0.mk ((by rw [hg];exact Nat.ne_of_lt (blk_lt (g := gb200) (o := .cells #[.slice none 0 0, .slice none 0 0] 25 (0, 0)) (by (with_reducible repeat (first|refine blk_drewN ?_ _|refine blk_drew ?_|refine blk_alloc ?_ _));exact BK200.out)) : gb200 ≠ gb214))
                    have n15_ := Aside0.mk ((by rw [hg];exact Nat.ne_of_gt (blk_lt (g := gb200) (o := .cells #[.slice none 0 0, .slice none 0 0] 25 (0, 0)) (by (with_reducible repeat (first|refine blk_drewN ?_ _|refine blk_drew ?_|refine blk_alloc ?_ _));exact BK200.out)) : gb214 ≠ gb200))
                    have n16_ := Aside0.mk ((by rw [hg];exact Nat.ne_of_lt (blk_lt (g := gb209) (o := .cells #[.slice Ao53 y210.length co53, u210001] 25 (0, 0)) (by (with_reducible repeat (first|refine blk_drewN ?_ _|refine blk_drew ?_|refine blk_alloc ?_ _));exact BK209.out)) : gb209 ≠ gb214))
                    have n17_ := Aside0.mk ((by rw [hg];exact Nat.ne_of_gt (blk_lt (g := gb209) (o := .cells #[.slice Ao53 y210.length co53, u210001] 25 (0, 0)) (by (with_reducible repeat (first|refine blk_drewN ?_ _|refine blk_drew ?_|refine blk_alloc ?_ _));exact BK209.out)) : gb214 ≠ gb209))
                    clear HO_210000
                    clear HO_210001
                    clear BK198
                    clear BK199
                    clear BK200
                    clear BK209
                    clear HB
                    have HO_210000 := n0_
                    have HO_210001 := n1_
                    have BK198 := n2_
                    have BK199 := n3_
                    have BK200 := n4_
                    have BK209 := n5_
                    have HB := n6_
                    have BK214 := n7_
                    have GW214 := n8_
                    have GE214 := n9_
                    have NB198_214 := n10_
                    have NB214_198 := n11_
                    have NB199_214 := n12_
                    have NB214_199 := n13_
                    have NB200_214 := n14_
                    have NB214_200 := n15_
                    have NB209_214 := n16_
                    have NB214_209 := n17_
                    clear n0_ n1_ n2_ n3_ n4_ n5_ n6_ n7_ n8_ n9_ n10_ n11_ n12_ n13_ n14_ n15_ n16_ n17_
                    clear hb hbox hg
                    refine hK.out _ _ ⟨(blk_cell BK198.out 0).trans rfl, (blk_cell BK198.out 1).trans rfl, ((HB.out.cell (World.block_lt_of_cell? w _ hw213_0)).trans hw213_0), ((HB.out.cell (World.block_lt_of_cell? w _ hw213_1)).trans hw213_1), ((HB.out.cell (World.block_lt_of_cell? w _ hw213_2)).trans hw213_2)⟩ (fun hHeld => ?_)
                    clear hK K
                    refine norm_ (a' := ?_) ?_ ?_
                    rotate_left
                    ·show Act.put _ (some 16) _ = _
                     simp only [Act.put, List.setIfInBounds_toArray, List.set_cons_zero, List.set_cons_succ, i64_w, i32_w]
                     rfl
                    refine one_ (i := 10) (N := none) #[true, true, true, true, true, true, true, true, true, true, true] rfl rfl (one_of HT_.out (by kernel_rfl)) (by decide) (fun K hK => ?_)
                    have hs69 : w68.cell? ⟨gb214, 0, none⟩ = some (.int .i64 0) := (blk_cell BK214.out 0).trans rfl
                    have hfs69 := blk_frozen BK214.out 0
                    have hns69_0 := NB198_214.out
                    have hns69_1 := NB199_214.out
                    have hns69_2 := NB200_214.out
                    have hns69_3 := NB209_214.out
                    have hms69_0 := NB214_198.out
                    have hms69_1 := NB214_199.out
                    have hms69_2 := NB214_200.out
                    have hms69_3 := NB214_209.out
                    have hs70 : w68.cell? ⟨gb214, 1, none⟩ = some (.int .i64 0) := (blk_cell BK214.out 1).trans rfl
                    have hfs70 := blk_frozen BK214.out 1
                    have hns70_0 := NB198_214.out
                    have hns70_1 := NB199_214.out
                    have hns70_2 := NB200_214.out
                    have hns70_3 := NB209_214.out
                    have hms70_0 := NB214_198.out
                    have hms70_1 := NB214_199.out
                    have hms70_2 := NB214_200.out
                    have hms70_3 := NB214_209.out
                    have hs71 : w68.cell? ⟨gb214, 2, none⟩ = some (.slice none 0 0) := (blk_cell BK214.out 2).trans rfl
                    have hfs71 := blk_frozen BK214.out 2
                    have hns71_0 := NB198_214.out
                    have hns71_1 := NB199_214.out
                    have hns71_2 := NB200_214.out
                    have hns71_3 := NB209_214.out
                    have hms71_0 := NB214_198.out
                    have hms71_1 := NB214_199.out
                    have hms71_2 := NB214_200.out
                    have hms71_3 := NB214_209.out
                    refine skip_ (w1 := ?_) (by rfl) rfl ?_ ?_
                    rotate_left
                    ·go_simp
                     rfl
                    refine hK.out _ _ ⟨((cell_far (p := ⟨gb214, _, none⟩) NB198_214.out _).trans (((cell_far (p := ⟨gb214, _, none⟩) NB198_214.out _).trans (((cell_far (p := ⟨gb214, _, none⟩) NB198_214.out _).trans (hHeld.1)))))), ((cell_far (p := ⟨gb214, _, none⟩) NB198_214.out _).trans (((cell_far (p := ⟨gb214, _, none⟩) NB198_214.out _).trans (((cell_far (p := ⟨gb214, _, none⟩) NB198_214.out _).trans (hHeld.2.1)))))), ((cell_far (p := ⟨gb214, _, none⟩) (by first|exact Nat.ne_of_lt (Nat.lt_of_lt_of_le (by have := World.block_lt_of_cell? _ _ hw213_0;first|rwa [add_block] at this|exact this) GW214.out)|(rw [add_block];exact Nat.ne_of_lt (Nat.lt_of_lt_of_le (by have := World.block_lt_of_cell? _ _ hw213_0;first|rwa [add_block] at this|exact this) GW214.out))|(show (Addr.add _ _).block ≠ _;rw [add_block];exact Nat.ne_of_lt (Nat.lt_of_lt_of_le (by have := World.block_lt_of_cell? _ _ hw213_0;first|rwa [add_block] at this|exact this) GW214.out))|(dsimp only;exact Nat.ne_of_lt (Nat.lt_of_lt_of_le (by have := World.block_lt_of_cell? _ _ hw213_0;first|rwa [add_block] at this|exact this) GW214.out))) _).trans (((cell_far (p := ⟨gb214, _, none⟩) (by first|exact Nat.ne_of_lt (Nat.lt_of_lt_of_le (by have := World.block_lt_of_cell? _ _ hw213_0;first|rwa [add_block] at this|exact this) GW214.out)|(rw [add_block];exact Nat.ne_of_lt (Nat.lt_of_lt_of_le (by have := World.block_lt_of_cell? _ _ hw213_0;first|rwa [add_block] at this|exact this) GW214.out))|(show (Addr.add _ _).block ≠ _;rw [add_block];exact Nat.ne_of_lt (Nat.lt_of_lt_of_le (by have := World.block_lt_of_cell? _ _ hw213_0;first|rwa [add_block] at this|exact this) GW214.out))|(dsimp only;exact Nat.ne_of_lt (Nat.lt_of_lt_of_le (by have := World.block_lt_of_cell? _ _ hw213_0;first|rwa [add_block] at this|exact this) GW214.out))) _).trans (((cell_far (p := ⟨gb214, _, none⟩) (by first|exact Nat.ne_of_lt (Nat.lt_of_lt_of_le (by have := World.block_lt_of_cell? _ _ hw213_0;first|rwa [add_block] at this|exact this) GW214.out)|(rw [add_block];exact Nat.ne_of_lt (Nat.lt_of_lt_of_le (by have := World.block_lt_of_cell? _ _ hw213_0;first|rwa [add_block] at this|exact this) GW214.out))|(show (Addr.add _ _).block ≠ _;rw [add_block];exact Nat.ne_of_lt (Nat.lt_of_lt_of_le (by have := World.block_lt_of_cell? _ _ hw213_0;first|rwa [add_block] at this|exact this) GW214.out))|(dsimp only;exact Nat.ne_of_lt (Nat.lt_of_lt_of_le (by have := World.block_lt_of_cell? _ _ hw213_0;first|rwa [add_block] at this|exact this) GW214.out))) _).trans (hHeld.2.2.1)))))), ((cell_far (p := ⟨gb214, _, none⟩) (by first|exact Nat.ne_of_lt (Nat.lt_of_lt_of_le (by have := World.block_lt_of_cell? _ _ hw213_1;first|rwa [add_block] at this|exact this) GW214.out)|(rw [add_block];exact Nat.ne_of_lt (Nat.lt_of_lt_of_le (by have := World.block_lt_of_cell? _ _ hw213_1;first|rwa [add_block] at this|exact this) GW214.out))|(show (Addr.add _ _).block ≠ _;rw [add_block];exact Nat.ne_of_lt (Nat.lt_of_lt_of_le (by have := World.block_lt_of_cell? _ _ hw213_1;first|rwa [add_block] at this|exact this) GW214.out))|(dsimp only;exact Nat.ne_of_lt (Nat.lt_of_lt_of_le (by have := World.block_lt_of_cell? _ _ hw213_1;first|rwa [add_block] at this|exact this) GW214.out))) _).trans (((cell_far (p := ⟨gb214, _, none⟩) (by first|exact Nat.ne_of_lt (Nat.lt_of_lt_of_le (by have := World.block_lt_of_cell? _ _ hw213_1;first|rwa [add_block] at this|exact this) GW214.out)|(rw [add_block];exact Nat.ne_of_lt (Nat.lt_of_lt_of_le (by have := World.block_lt_of_cell? _ _ hw213_1;first|rwa [add_block] at this|exact this) GW214.out))|(show (Addr.add _ _).block ≠ _;rw [add_block];exact Nat.ne_of_lt (Nat.lt_of_lt_of_le (by have := World.block_lt_of_cell? _ _ hw213_1;first|rwa [add_block] at this|exact this) GW214.out))|(dsimp only;exact Nat.ne_of_lt (Nat.lt_of_lt_of_le (by have := World.block_lt_of_cell? _ _ hw213_1;first|rwa [add_block] at this|exact this) GW214.out))) _).trans (((cell_far (p := ⟨gb214, _, none⟩) (by first|exact Nat.ne_of_lt (Nat.lt_of_lt_of_le (by have := World.block_lt_of_cell? _ _ hw213_1;first|rwa [add_block] at this|exact this) GW214.out)|(rw [add_block];exact Nat.ne_of_lt (Nat.lt_of_lt_of_le (by have := World.block_lt_of_cell? _ _ hw213_1;first|rwa [add_block] at this|exact this) GW214.out))|(show (Addr.add _ _).block ≠ _;rw [add_block];exact Nat.ne_of_lt (Nat.lt_of_lt_of_le (by have := World.block_lt_of_cell? _ _ hw213_1;first|rwa [add_block] at this|exact this) GW214.out))|(dsimp only;exact Nat.ne_of_lt (Nat.lt_of_lt_of_le (by have := World.block_lt_of_cell? _ _ hw213_1;first|rwa [add_block] at this|exact this) GW214.out))) _).trans (hHeld.2.2.2.1)))))), ((cell_far (p := ⟨gb214, _, none⟩) (by first|exact Nat.ne_of_lt (Nat.lt_of_lt_of_le (by have := World.block_lt_of_cell? _ _ hw213_2;first|rwa [add_block] at this|exact this) GW214.out)|(rw [add_block];exact Nat.ne_of_lt (Nat.lt_of_lt_of_le (by have := World.block_lt_of_cell? _ _ hw213_2;first|rwa [add_block] at this|exact this) GW214.out))|(show (Addr.add _ _).block ≠ _;rw [add_block];exact Nat.ne_of_lt (Nat.lt_of_lt_of_le (by have := World.block_lt_of_cell? _ _ hw213_2;first|rwa [add_block] at this|exact this) GW214.out))|(dsimp only;exact Nat.ne_of_lt (Nat.lt_of_lt_of_le (by have := World.block_lt_of_cell? _ _ hw213_2;first|rwa [add_block] at this|exact this) GW214.out))) _).trans (((cell_far (p := ⟨gb214, _, none⟩) (by first|exact Nat.ne_of_lt (Nat.lt_of_lt_of_le (by have := World.block_lt_of_cell? _ _ hw213_2;first|rwa [add_block] at this|exact this) GW214.out)|(rw [add_block];exact Nat.ne_of_lt (Nat.lt_of_lt_of_le (by have := World.block_lt_of_cell? _ _ hw213_2;first|rwa [add_block] at this|exact this) GW214.out))|(show (Addr.add _ _).block ≠ _;rw [add_block];exact Nat.ne_of_lt (Nat.lt_of_lt_of_le (by have := World.block_lt_of_cell? _ _ hw213_2;first|rwa [add_block] at this|exact this) GW214.out))|(dsimp only;exact Nat.ne_of_lt (Nat.lt_of_lt_of_le (by have := World.block_lt_of_cell? _ _ hw213_2;first|rwa [add_block] at this|exact this) GW214.out))) _).trans (((cell_far (p := ⟨gb214, _, none⟩) (by first|exact Nat.ne_of_lt (Nat.lt_of_lt_of_le (by have := World.block_lt_of_cell? _ _ hw213_2;first|rwa [add_block] at this|exact this) GW214.out)|(rw [add_block];exact Nat.ne_of_lt (Nat.lt_of_lt_of_le (by have := World.block_lt_of_cell? _ _ hw213_2;first|rwa [add_block] at this|exact this) GW214.out))|(show (Addr.add _ _).block ≠ _;rw [add_block];exact Nat.ne_of_lt (Nat.lt_of_lt_of_le (by have := World.block_lt_of_cell? _ _ hw213_2;first|rwa [add_block] at this|exact this) GW214.out))|(dsimp only;exact Nat.ne_of_lt (Nat.lt_of_lt_of_le (by have := World.block_lt_of_cell? _ _ hw213_2;first|rwa [add_block] at this|exact this) GW214.out))) _).trans (hHeld.2.2.2.2))))))⟩ (fun hHeld => ?_)
                    clear hK K
                    refine done_ (done_of HT_.out (by kernel_rfl)) ?_
                    try go_wp2
                    have n0_ : Aside0 (Kd.R (Kd.int .i64) 3 (((w68.setCell ⟨gb214, 0, none⟩ (.int .i64 ((rd_T33 l1_1 (ji57)).f0))).setCell ⟨gb214, 1, none⟩ (.int .i64 ((rd_T33 l1_1 (ji57)).f1))).setCell ⟨gb214, 2, none⟩ (.slice A213_2 ((rd_T33 l1_1 (ji57)).f2).length c213_2)) w.heap.size (fun _ => True) (.slice Ao53 y210.length co53) y210) := ⟨by (with_reducible repeat (first|apply Kd.R_alloc|apply Kd.R_drewN|apply Kd.R_drew));exact Kd.R_mono (Kd.R_far (p := ⟨gb214, 2, none⟩) (Kd.R_far (p := ⟨gb214, 1, none⟩) (Kd.R_far (p := ⟨gb214, 0, none⟩) (Kd.R_types HO_210000.out BK214.out (by decide)) (fun _ hk => hk.2) (.int .i64 ((rd_T33 l1_1 (ji57)).f0))) (fun _ hk => hk.2) (.int .i64 ((rd_T33 l1_1 (ji57)).f1))) (fun _ hk => hk.2) (.slice A213_2 ((rd_T33 l1_1 (ji57)).f2).length c213_2)) (fun _ hk => trivial)⟩
                    have n1_ : Aside0 (Kd.R k33 33 (((w68.setCell ⟨gb214, 0, none⟩ (.int .i64 ((rd_T33 l1_1 (ji57)).f0))).setCell ⟨gb214, 1, none⟩ (.int .i64 ((rd_T33 l1_1 (ji57)).f1))).setCell ⟨gb214, 2, none⟩ (.slice A213_2 ((rd_T33 l1_1 (ji57)).f2).length c213_2)) w.heap.size (fun k_ => some k_ ≠ (.slice Ao53 y210.length co53 : Value).ownBlock ∧ k_ ≠ gb198 ∧ k_ ≠ gb199 ∧ k_ ≠ gb200 ∧ k_ ≠ gb209 ∧ k_ ≠ gb214) u210001 x210001_2) := ⟨by (with_reducible repeat (first|apply Kd.R_alloc|apply Kd.R_drewN|apply Kd.R_drew));exact Kd.R_mono (Kd.R_far (p := ⟨gb214, 2, none⟩) (Kd.R_far (p := ⟨gb214, 1, none⟩) (Kd.R_far (p := ⟨gb214, 0, none⟩) (Kd.R_mono HO_210001.out (fun k_ hk => (⟨hk, hk.2⟩ : _ ∧ k_ ≠ gb214))) (fun _ hk => hk.2) (.int .i64 ((rd_T33 l1_1 (ji57)).f0))) (fun _ hk => hk.2) (.int .i64 ((rd_T33 l1_1 (ji57)).f1))) (fun _ hk => hk.2) (.slice A213_2 ((rd_T33 l1_1 (ji57)).f2).length c213_2)) (fun _ hk => ⟨hk.1.1.1, ⟨hk.1.1.2.1, ⟨hk.1.1.2.2.1, ⟨hk.1.1.2.2.2.1, ⟨hk.1.1.2.2.2.2, hk.1.2⟩⟩⟩⟩⟩)⟩
                    have n2_ : Aside0 ((((w68.setCell ⟨gb214, 0, none⟩ (.int .i64 ((rd_T33 l1_1 (ji57)).f0))).setCell ⟨gb214, 1, none⟩ (.int .i64 ((rd_T33 l1_1 (ji57)).f1))).setCell ⟨gb214, 2, none⟩ (.slice A213_2 ((rd_T33 l1_1 (ji57)).f2).length c213_2)).heap[gb198]? = some (.cells #[.slice A1_0 l1_0.length c1_0, .slice (some ad213) l1_1.length c1_1] 25 (0, 0))) := ⟨by (with_reducible repeat (first|refine blk_drewN ?_ _|refine blk_drew ?_|refine blk_alloc ?_ _));refine blk_far ?_ NB198_214.out _;(with_reducible repeat (first|refine blk_drewN ?_ _|refine blk_drew ?_|refine blk_alloc ?_ _));refine blk_far ?_ NB198_214.out _;(with_reducible repeat (first|refine blk_drewN ?_ _|refine blk_drew ?_|refine blk_alloc ?_ _));refine blk_far ?_ NB198_214.out _;(with_reducible repeat (first|refine blk_drewN ?_ _|refine blk_drew ?_|refine blk_alloc ?_ _));exact BK198.out⟩
                    have n3_ : Aside0 ((((w68.setCell ⟨gb214, 0, none⟩ (.int .i64 ((rd_T33 l1_1 (ji57)).f0))).setCell ⟨gb214, 1, none⟩ (.int .i64 ((rd_T33 l1_1 (ji57)).f1))).setCell ⟨gb214, 2, none⟩ (.slice A213_2 ((rd_T33 l1_1 (ji57)).f2).length c213_2)).heap[gb199]? = some (.cells #[.slice A2_0 l2_0.length c2_0, .slice A2_1 l2_1.length c2_1] 25 (0, 0))) := ⟨by (with_reducible repeat (first|refine blk_drewN ?_ _|refine blk_drew ?_|refine blk_alloc ?_ _));refine blk_far ?_ NB199_214.out _;(with_reducible repeat (first|refine blk_drewN ?_ _|refine blk_drew ?_|refine blk_alloc ?_ _));refine blk_far ?_ NB199_214.out _;(with_reducible repeat (first|refine blk_drewN ?_ _|refine blk_drew ?_|refine blk_alloc ?_ _));refine blk_far ?_ NB199_214.out _;(with_reducible repeat (first|refine blk_drewN ?_ _|refine blk_drew ?_|refine blk_alloc ?_ _));exact BK199.out⟩
                    have n4_ : Aside0 ((((w68.setCell ⟨gb214, 0, none⟩ (.int .i64 ((rd_T33 l1_1 (ji57)).f0))).setCell ⟨gb214, 1, none⟩ (.int .i64 ((rd_T33 l1_1 (ji57)).f1))).setCell ⟨gb214, 2, none⟩ (.slice A213_2 ((rd_T33 l1_1 (ji57)).f2).length c213_2)).heap[gb200]? = some (.cells #[.slice none 0 0, .slice none 0 0] 25 (0, 0))) := ⟨by (with_reducible repeat (first|refine blk_drewN ?_ _|refine blk_drew ?_|refine blk_alloc ?_ _));refine blk_far ?_ NB200_214.out _;(with_reducible repeat (first|refine blk_drewN ?_ _|refine blk_drew ?_|refine blk_alloc ?_ _));refine blk_far ?_ NB200_214.out _;(with_reducible repeat (first|refine blk_drewN ?_ _|refine blk_drew ?_|refine blk_alloc ?_ _));refine blk_far ?_ NB200_214.out _;(with_reducible repeat (first|refine blk_drewN ?_ _|refine blk_drew ?_|refine blk_alloc ?_ _));exact BK200.out⟩
                    have n5_ : Aside0 ((((w68.setCell ⟨gb214, 0, none⟩ (.int .i64 ((rd_T33 l1_1 (ji57)).f0))).setCell ⟨gb214, 1, none⟩ (.int .i64 ((rd_T33 l1_1 (ji57)).f1))).setCell ⟨gb214, 2, none⟩ (.slice A213_2 ((rd_T33 l1_1 (ji57)).f2).length c213_2)).heap[gb209]? = some (.cells #[.slice Ao53 y210.length co53, u210001] 25 (0, 0))) := ⟨by (with_reducible repeat (first|refine blk_drewN ?_ _|refine blk_drew ?_|refine blk_alloc ?_ _));refine blk_far ?_ NB209_214.out _;(with_reducible repeat (first|refine blk_drewN ?_ _|refine blk_drew ?_|refine blk_alloc ?_ _));refine blk_far ?_ NB209_214.out _;(with_reducible repeat (first|refine blk_drewN ?_ _|refine blk_drew ?_|refine blk_alloc ?_ _));refine blk_far ?_ NB209_214.out _;(with_reducible repeat (first|refine blk_drewN ?_ _|refine blk_drew ?_|refine blk_alloc ?_ _));exact BK209.out⟩
                    have n6_ : Aside0 ((((w68.setCell ⟨gb214, 0, none⟩ (.int .i64 ((rd_T33 l1_1 (ji57)).f0))).setCell ⟨gb214, 1, none⟩ (.int .i64 ((rd_T33 l1_1 (ji57)).f1))).setCell ⟨gb214, 2, none⟩ (.slice A213_2 ((rd_T33 l1_1 (ji57)).f2).length c213_2)).heap[gb214]? = some (.cells #[.int .i64 ((rd_T33 l1_1 (ji57)).f0), .int .i64 ((rd_T33 l1_1 (ji57)).f1), .slice A213_2 ((rd_T33 l1_1 (ji57)).f2).length c213_2] 33 (0, 0))) := ⟨by (with_reducible repeat (first|refine blk_drewN ?_ _|refine blk_drew ?_|refine blk_alloc ?_ _));refine blk_put (cs := #[.int .i64 ((rd_T33 l1_1 (ji57)).f0), .int .i64 ((rd_T33 l1_1 (ji57)).f1), .slice none 0 0]) ?_ 2 _ rfl;(with_reducible repeat (first|refine blk_drewN ?_ _|refine blk_drew ?_|refine blk_alloc ?_ _));refine blk_put (cs := #[.int .i64 ((rd_T33 l1_1 (ji57)).f0), .int .i64 0, .slice none 0 0]) ?_ 1 _ rfl;(with_reducible repeat (first|refine blk_drewN ?_ _|refine blk_drew ?_|refine blk_alloc ?_ _));refine blk_put (cs := #[.int .i64 0, .int .i64 0, .slice none 0 0]) ?_ 0 _ rfl;(with_reducible repeat (first|refine blk_drewN ?_ _|refine blk_drew ?_|refine blk_alloc ?_ _));exact BK214.out⟩
                    have n7_ : Aside0 (Below w.heap.size w (((w68.setCell ⟨gb214, 0, none⟩ (.int .i64 ((rd_T33 l1_1 (ji57)).f0))).setCell ⟨gb214, 1, none⟩ (.int .i64 ((rd_T33 l1_1 (ji57)).f1))).setCell ⟨gb214, 2, none⟩ (.slice A213_2 ((rd_T33 l1_1 (ji57)).f2).length c213_2))) := ⟨by repeat (first|(with_reducible first|exact HB.out|apply below_alloc|apply pw_below_drewN|apply below_drew1|refine below_set ?_ GE198.out|refine below_set ?_ GE199.out|refine below_set ?_ GE200.out|refine below_set ?_ GE209.out|refine below_set ?_ GE214.out)|exact HB.out)⟩
                    (try clear HO_210000)
                    (try clear HO_210001)
                    (try clear BK198)
                    (try clear BK199)
                    (try clear BK200)
                    (try clear BK209)
                    (try clear BK214)
                    (try clear HB)
                    generalize (((w68.setCell ⟨gb214, 0, none⟩ (.int .i64 ((rd_T33 l1_1 (ji57)).f0))).setCell ⟨gb214, 1, none⟩ (.int .i64 ((rd_T33 l1_1 (ji57)).f1))).setCell ⟨gb214, 2, none⟩ (.slice A213_2 ((rd_T33 l1_1 (ji57)).f2).length c213_2)) = w72 at n0_ n1_ n2_ n3_ n4_ n5_ n6_ n7_ ⊢
                    have HO_210000 := n0_
                    have HO_210001 := n1_
                    have BK198 := n2_
                    have BK199 := n3_
                    have BK200 := n4_
                    have BK209 := n5_
                    have BK214 := n6_
                    have HB := n7_
                    clear n0_ n1_ n2_ n3_ n4_ n5_ n6_ n7_
                    have n0_ := Aside0.mk (Kd.R_drew HO_210000.out)
                    have n1_ := Aside0.mk (Kd.R_drew HO_210001.out)
                    have n2_ := Aside0.mk (blk_drew BK198.out)
                    have n3_ := Aside0.mk (blk_drew BK199.out)
                    have n4_ := Aside0.mk (blk_drew BK200.out)
                    have n5_ := Aside0.mk (blk_drew BK209.out)
                    have n6_ := Aside0.mk (blk_drew BK214.out)
                    have n7_ := Aside0.mk (below_drew1 HB.out)
                    clear HO_210000
                    clear HO_210001
                    clear BK198
                    clear BK199
                    clear BK200
                    clear BK209
                    clear BK214
                    clear HB
                    have HO_210000 := n0_
                    have HO_210001 := n1_
                    have BK198 := n2_
                    have BK199 := n3_
                    have BK200 := n4_
                    have BK209 := n5_
                    have BK214 := n6_
                    have HB := n7_
                    clear n0_ n1_ n2_ n3_ n4_ n5_ n6_ n7_
                    have p215 : 0 ≤ ((ji61) : Int) := of_decide_eq_true (by first|(with_reducible assumption)|assumption)
                    have q215 : (ji61) < (l2_1.length : Int) := of_decide_eq_true (by first|(with_reducible assumption)|assumption)
                    obtain ⟨ad215, A215_2, c215_2, e215, hx215_0, hx215_1, hx215_2, hl215_2, hi215_2⟩ := at_T33 HR2_1.out (ji61) p215 q215
                    have hw215_2 := hx215_2
                    have hw215_1 := hx215_1
                    have hw215_0 := hx215_0
                    cases e215
                    replace hx215_0 := (HB.out.cell (World.block_lt_of_cell? w _ hx215_0)).trans hx215_0
                    replace hx215_1 := (HB.out.cell (World.block_lt_of_cell? w _ hx215_1)).trans hx215_1
                    replace hx215_2 := (HB.out.cell (World.block_lt_of_cell? w _ hx215_2)).trans hx215_2
                    have HR215_2 := Aside0.mk hi215_2
                    have HC215_2 := Aside0.mk hl215_2
                    clear hi215_2 hl215_2
                    replace p215 := eq_true p215
                    replace q215 := eq_true q215
                    refine start_ (n := 11) (S := fun w' => w'.cell? ⟨gb199, 0, none⟩ = some (.slice A2_0 l2_0.length c2_0) ∧ w'.cell? ⟨gb199, 1, none⟩ = some (.slice (some ad215) l2_1.length c2_1) ∧ w'.cell? (ad215.add (((ji61)).toNat * 3)) = some (.int .i64 ((rd_T33 l2_1 (ji61)).f0)) ∧ w'.cell? ⟨(ad215.add (((ji61)).toNat * 3)).block, (ad215.add (((ji61)).toNat * 3)).off + 1, none⟩ = some (.int .i64 ((rd_T33 l2_1 (ji61)).f1)) ∧ w'.cell? ⟨(ad215.add (((ji61)).toNat * 3)).block, (ad215.add (((ji61)).toNat * 3)).off + 2, none⟩ = some (.slice A215_2 ((rd_T33 l2_1 (ji61)).f2).length c215_2)) (ds := []) #[false, false, false, false, false, false, false, false, false, false, false] (by kernel_rfl) rfl rfl ⟨(blk_cell BK199.out 0).trans rfl, (blk_cell BK199.out 1).trans rfl, ((HB.out.cell (World.block_lt_of_cell? w _ hw215_0)).trans hw215_0), ((HB.out.cell (World.block_lt_of_cell? w _ hw215_1)).trans hw215_1), ((HB.out.cell (World.block_lt_of_cell? w _ hw215_2)).trans hw215_2)⟩ (fun hHeld => ?_);refine with_tabW triglyphref04_Dy.tab21 triglyphref04_Dy.bits21 (fun HT_ HW_ => ?_)
                    generalize w72.drew = w73 at HO_210000 HO_210001 BK198 BK199 BK200 BK209 BK214 HB HR215_2 hx215_0 hx215_1 hx215_2 hHeld ⊢
                    refine pure_ (i := 0) (N := some 79) (v := ?_) (a' := ?_) #[true, false, false, false, false, false, false, false, false, false, false] rfl rfl (any_of HT_.out (by kernel_rfl)) (fun _ _ _ h => h) (Or.inl ⟨by rfl, ?_⟩) ?_ ?_
                    rotate_left
                    ·intro w'
                     go_simp
                     with_reducible rfl
                    rotate_left
                    ·simp only [Act.put, List.setIfInBounds_toArray, List.set_cons_zero, List.set_cons_succ, i64_w, i32_w]
                     rfl
                    refine pure_ (i := 2) (N := some 81) (v := ?_) (a' := ?_) #[true, false, true, false, false, false, false, false, false, false, false] rfl rfl (any_of HT_.out (by kernel_rfl)) (fun _ _ _ h => h) (Or.inl ⟨by rfl, ?_⟩) ?_ ?_
                    rotate_left
                    ·intro w'
                     go_simp
                     with_reducible rfl
                    rotate_left
                    ·simp only [Act.put, List.setIfInBounds_toArray, List.set_cons_zero, List.set_cons_succ, i64_w, i32_w]
                     rfl
                    refine pure_ (i := 3) (N := some 82) (v := ?_) (a' := ?_) #[true, false, true, true, false, false, false, false, false, false, false] rfl rfl (any_of HT_.out (by kernel_rfl)) (fun _ _ _ h => h) (Or.inl ⟨by rfl, ?_⟩) ?_ ?_
                    rotate_left
                    ·intro w'
                     go_simp
                     with_reducible rfl
                    rotate_left
                    ·simp only [Act.put, List.setIfInBounds_toArray, List.set_cons_zero, List.set_cons_succ, i64_w, i32_w]
                     rfl
                    refine take_ (i := 1) (N := some 80) (v := ?_) (a' := ?_) #[true, true, true, true, false, false, false, false, false, false, false] rfl rfl (take_ofW HT_.out HW_.out (by kernel_rfl)) (fun _ _ _ h => h) (Or.inl ⟨by rfl, ?_⟩) hHeld ?_ ?_
                    rotate_left
                    ·rintro w' ⟨s0, s1, s2, s3, s4⟩
                     go_simp
                     with_reducible rfl
                    rotate_left
                    ·simp only [Act.put, List.setIfInBounds_toArray, List.set_cons_zero, List.set_cons_succ, i64_w, i32_w]
                     rfl
                    refine take_ (i := 4) (N := some 83) (v := ?_) (a' := ?_) #[true, true, true, true, true, false, false, false, false, false, false] rfl rfl (take_ofW HT_.out HW_.out (by kernel_rfl)) (fun _ _ _ h => h) (Or.inl ⟨by rfl, ?_⟩) hHeld ?_ ?_
                    rotate_left
                    ·rintro w' ⟨s0, s1, s2, s3, s4⟩
                     go_simp
                     with_reducible rfl
                    rotate_left
                    ·simp only [Act.put, List.setIfInBounds_toArray, List.set_cons_zero, List.set_cons_succ, i64_w, i32_w]
                     rfl
                    refine pure_ (i := 5) (N := some 84) (v := ?_) (a' := ?_) #[true, true, true, true, true, true, false, false, false, false, false] rfl rfl (any_of HT_.out (by kernel_rfl)) (fun _ _ _ h => h) (Or.inl ⟨by rfl, ?_⟩) ?_ ?_
                    rotate_left
                    ·intro w'
                     go_simp
                     with_reducible rfl
                    rotate_left
                    ·simp only [Act.put, List.setIfInBounds_toArray, List.set_cons_zero, List.set_cons_succ, i64_w, i32_w]
                     rfl
                    refine pure_ (i := 6) (N := some 85) (v := ?_) (a' := ?_) #[true, true, true, true, true, true, true, false, false, false, false] rfl rfl (any_of HT_.out (by kernel_rfl)) (fun _ _ _ h => h) (Or.inl ⟨by rfl, ?_⟩) ?_ ?_
                    rotate_left
                    ·intro w'
                     go_simp
                     with_reducible rfl
                    rotate_left
                    ·simp only [Act.put, List.setIfInBounds_toArray, List.set_cons_zero, List.set_cons_succ, i64_w, i32_w]
                     rfl
                    refine pure_ (i := 7) (N := some 86) (v := ?_) (a' := ?_) #[true, true, true, true, true, true, true, true, false, false, false] rfl rfl (any_of HT_.out (by kernel_rfl)) (fun _ _ _ h => h) (Or.inl ⟨by rfl, ?_⟩) ?_ ?_
                    rotate_left
                    ·intro w'
                     go_simp
                     with_reducible rfl
                    rotate_left
                    ·simp only [Act.put, List.setIfInBounds_toArray, List.set_cons_zero, List.set_cons_succ, i64_w, i32_w]
                     rfl
                    refine take_ (i := 8) (N := some 87) (v := ?_) (a' := ?_) #[true, true, true, true, true, true, true, true, true, false, false] rfl rfl (take_ofW HT_.out HW_.out (by kernel_rfl)) (fun _ _ _ h => h) (Or.inl ⟨by rfl, ?_⟩) hHeld ?_ ?_
                    rotate_left
                    ·rintro w' ⟨s0, s1, s2, s3, s4⟩
                     go_simp
                     with_reducible rfl
                    rotate_left
                    ·simp only [Act.put, List.setIfInBounds_toArray, List.set_cons_zero, List.set_cons_succ, i64_w, i32_w]
                     rfl
                    refine one_ (i := 9) (N := some 17) #[true, true, true, true, true, true, true, true, true, true, false] rfl rfl (one_of HT_.out (by kernel_rfl)) (by decide) (fun K hK => ?_)
                    refine box_step ?hg (N := 17) ?hd (cs := #[.int .i64 0, .int .i64 0, .slice none 0 0]) (t := 33) ?hr ?_;(case hd => rfl);(case hg => rfl);(case hr => first|(go_simp;done)|(go_simp;rfl))
                    intro gb216 hg w74 hbox hb
                    have n0_ := Aside0.mk (Kd.R_below (by (with_reducible repeat (first|apply Kd.R_alloc|apply Kd.R_drewN|apply Kd.R_drew));exact HO_210000.out) hb)
                    have n1_ := Aside0.mk (Kd.R_below (Kd.R_elderB (by (with_reducible repeat (first|apply Kd.R_alloc|apply Kd.R_drewN|apply Kd.R_drew));exact HO_210001.out) gb216 (Nat.le_of_eq hg.symm)) hb)
                    have n2_ := Aside0.mk (blk_below (g := gb198) (o := .cells #[.slice A1_0 l1_0.length c1_0, .slice (some ad213) l1_1.length c1_1] 25 (0, 0)) (by (with_reducible repeat (first|refine blk_drewN ?_ _|refine blk_drew ?_|refine blk_alloc ?_ _));exact BK198.out) hb)
                    have n3_ := Aside0.mk (blk_below (g := gb199) (o := .cells #[.slice A2_0 l2_0.length c2_0, .slice (some ad215) l2_1.length c2_1] 25 (0, 0)) (by (with_reducible repeat (first|refine blk_drewN ?_ _|refine blk_drew ?_|refine blk_alloc ?_ _));exact BK199.out) hb)
                    have n4_ := Aside0.mk (blk_below (g := gb200) (o := .cells #[.slice none 0 0, .slice none 0 0] 25 (0, 0)) (by (with_reducible repeat (first|refine blk_drewN ?_ _|refine blk_drew ?_|refine blk_alloc ?_ _));exact BK200.out) hb)
                    have n5_ := Aside0.mk (blk_below (g := gb209) (o := .cells #[.slice Ao53 y210.length co53, u210001] 25 (0, 0)) (by (with_reducible repeat (first|refine blk_drewN ?_ _|refine blk_drew ?_|refine blk_alloc ?_ _));exact BK209.out) hb)
                    have n6_ := Aside0.mk (blk_below (g := gb214) (o := .cells #[.int .i64 ((rd_T33 l1_1 (ji57)).f0), .int .i64 ((rd_T33 l1_1 (ji57)).f1), .slice A213_2 ((rd_T33 l1_1 (ji57)).f2).length c213_2] 33 (0, 0)) (by (with_reducible repeat (first|refine blk_drewN ?_ _|refine blk_drew ?_|refine blk_alloc ?_ _));exact BK214.out) hb)
                    have n7_ := Aside0.mk (below_step (by repeat (first|(with_reducible first|exact HB.out|apply below_alloc|apply pw_below_drewN|apply below_drew1|refine below_set ?_ GE198.out|refine below_set ?_ GE199.out|refine below_set ?_ GE200.out|refine below_set ?_ GE209.out|refine below_set ?_ GE214.out)|exact HB.out)) hb)
                    have n8_ := Aside0.mk (hbox)
                    have n9_ := Aside0.mk ((by rw [hg];exact (below_size (by repeat (first|(with_reducible first|exact HB.out|apply below_alloc|apply pw_below_drewN|apply below_drew1|refine below_set ?_ GE198.out|refine below_set ?_ GE199.out|refine below_set ?_ GE200.out|refine below_set ?_ GE209.out|refine below_set ?_ GE214.out)|exact HB.out))) : w.heap.size ≤ gb216))
                    have n10_ := Aside0.mk ((by rw [hg];exact (below_size (by repeat (first|(with_reducible first|exact HB.out|apply below_alloc|apply pw_below_drewN|apply below_drew1|refine below_set ?_ GE198.out|refine below_set ?_ GE199.out|refine below_set ?_ GE200.out|refine below_set ?_ GE209.out|refine below_set ?_ GE214.out)|exact HB.out))) : w.heap.size ≤ gb216))
                    have n11_ := Aside0.mk ((by rw [hg];exact Nat.ne_of_lt (blk_lt (g := gb198) (o := .cells #[.slice A1_0 l1_0.length c1_0, .slice (some ad213) l1_1.length c1_1] 25 (0, 0)) (by (with_reducible repeat (first|refine blk_drewN ?_ _|refine blk_drew ?_|refine blk_alloc ?_ _));exact BK198.out)) : gb198 ≠ gb216))
                    have n12_ := Aside0.mk ((by rw [hg];exact Nat.ne_of_gt (blk_lt (g := gb198) (o := .cells #[.slice A1_0 l1_0.length c1_0, .slice (some ad213) l1_1.length c1_1] 25 (0, 0)) (by (with_reducible repeat (first|refine blk_drewN ?_ _|refine blk_drew ?_|refine blk_alloc ?_ _));exact BK198.out)) : gb216 ≠ gb198))
                    have n13_ := Aside0.mk ((by rw [hg];exact Nat.ne_of_lt (blk_lt (g := gb199) (o := .cells #[.slice A2_0 l2_0.length c2_0, .slice (some ad215) l2_1.length c2_1] 25 (0, 0)) (by (with_reducible repeat (first|refine blk_drewN ?_ _|refine blk_drew ?_|refine blk_alloc ?_ _));exact BK199.out)) : gb199 ≠ gb216))
                    have n14_ := Aside0.mk ((by rw [hg];exact Nat.ne_of_gt (blk_lt (g := gb199) (o := .cells #[.slice A2_0 l2_0.length c2_0, .slice (some ad215) l2_1.length c2_1] 25 (0, 0)) (by (with_reducible repeat (first|refine blk_drewN ?_ _|refine blk_drew ?_|refine blk_alloc ?_ _));exact BK199.out)) : gb216 ≠ gb199))
                    have n15_ := Aside0.mk ((by rw [hg];exact Nat.ne_of_lt (blk_lt (g := gb200) (o := .cells #[.slice none 0 0, .slice none 0 0] 25 (0, 0)) (by (with_reducible repeat (first|refine blk_drewN ?_ _|refine blk_drew ?_|refine blk_alloc ?_ _));exact BK200.out)) : gb200 ≠ gb216))
                    have n16_ := Aside0.mk ((by rw [hg];exact Nat.ne_of_gt (blk_lt (g := gb200) (o := .cells #[.slice none 0 0, .slice none 0 0] 25 (0, 0)) (by (with_reducible repeat (first|refine blk_drewN ?_ _|refine blk_drew ?_|refine blk_alloc ?_ _));exact BK200.out)) : gb216 ≠ gb200))
                    have n17_ := Aside0.mk ((by rw [hg];exact Nat.ne_of_lt (blk_lt (g := gb209) (o := .cells #[.slice Ao53 y210.length co53, u210001] 25 (0, 0)) (by (with_reducible repeat (first|refine blk_drewN ?_ _|refine blk_drew ?_|refine blk_alloc ?_ _));exact BK209.out)) : gb209 ≠ gb216))
                    have n18_ := Aside0.mk ((by rw [hg];exact Nat.ne_of_gt (blk_lt (g := gb209) (o := .cells #[.slice Ao53 y210.length co53, u210001] 25 (0, 0)) (by (with_reducible repeat (first|refine blk_drewN ?_ _|refine blk_drew ?_|refine blk_alloc ?_ _));exact BK209.out)) : gb216 ≠ gb209))
                    have n19_ := Aside0.mk ((by rw [hg];exact Nat.ne_of_lt (blk_lt (g := gb214) (o := .cells #[.int .i64 ((rd_T33 l1_1 (ji57)).f0), .int .i64 ((rd_T33 l1_1 (ji57)).f1), .slice A213_2 ((rd_T33 l1_1 (ji57)).f2).length c213_2] 33 (0, 0)) (by (with_reducible repeat (first|refine blk_drewN ?_ _|refine blk_drew ?_|refine blk_alloc ?_ _));exact BK214.out)) : gb214 ≠ gb216))
                    have n20_ := Aside0.mk ((by rw [hg];exact Nat.ne_of_gt (blk_lt (g := gb214) (o := .cells #[.int .i64 ((rd_T33 l1_1 (ji57)).f0), .int .i64 ((rd_T33 l1_1 (ji57)).f1), .slice A213_2 ((rd_T33 l1_1 (ji57)).f2).length c213_2] 33 (0, 0)) (by (with_reducible repeat (first|refine blk_drewN ?_ _|refine blk_drew ?_|refine blk_alloc ?_ _));exact BK214.out)) : gb216 ≠ gb214))
                    clear HO_210000
                    clear HO_210001
                    clear BK198
                    clear BK199
                    clear BK200
                    clear BK209
                    clear BK214
                    clear HB
                    have HO_210000 := n0_
                    have HO_210001 := n1_
                    have BK198 := n2_
                    have BK199 := n3_
                    have BK200 := n4_
                    have BK209 := n5_
                    have BK214 := n6_
                    have HB := n7_
                    have BK216 := n8_
                    have GW216 := n9_
                    have GE216 := n10_
                    have NB198_216 := n11_
                    have NB216_198 := n12_
                    have NB199_216 := n13_
                    have NB216_199 := n14_
                    have NB200_216 := n15_
                    have NB216_200 := n16_
                    have NB209_216 := n17_
                    have NB216_209 := n18_
                    have NB214_216 := n19_
                    have NB216_214 := n20_
                    clear n0_ n1_ n2_ n3_ n4_ n5_ n6_ n7_ n8_ n9_ n10_ n11_ n12_ n13_ n14_ n15_ n16_ n17_ n18_ n19_ n20_
                    clear hb hbox hg
                    refine hK.out _ _ ⟨(blk_cell BK199.out 0).trans rfl, (blk_cell BK199.out 1).trans rfl, ((HB.out.cell (World.block_lt_of_cell? w _ hw215_0)).trans hw215_0), ((HB.out.cell (World.block_lt_of_cell? w _ hw215_1)).trans hw215_1), ((HB.out.cell (World.block_lt_of_cell? w _ hw215_2)).trans hw215_2)⟩ (fun hHeld => ?_)
                    clear hK K
                    refine norm_ (a' := ?_) ?_ ?_
                    rotate_left
                    ·show Act.put _ (some 17) _ = _
                     simp only [Act.put, List.setIfInBounds_toArray, List.set_cons_zero, List.set_cons_succ, i64_w, i32_w]
                     rfl
                    refine one_ (i := 10) (N := none) #[true, true, true, true, true, true, true, true, true, true, true] rfl rfl (one_of HT_.out (by kernel_rfl)) (by decide) (fun K hK => ?_)
                    have hs75 : w74.cell? ⟨gb216, 0, none⟩ = some (.int .i64 0) := (blk_cell BK216.out 0).trans rfl
                    have hfs75 := blk_frozen BK216.out 0
                    have hns75_0 := NB198_216.out
                    have hns75_1 := NB199_216.out
                    have hns75_2 := NB200_216.out
                    have hns75_3 := NB209_216.out
                    have hns75_4 := NB214_216.out
                    have hms75_0 := NB216_198.out
                    have hms75_1 := NB216_199.out
                    have hms75_2 := NB216_200.out
                    have hms75_3 := NB216_209.out
                    have hms75_4 := NB216_214.out
                    have hs76 : w74.cell? ⟨gb216, 1, none⟩ = some (.int .i64 0) := (blk_cell BK216.out 1).trans rfl
                    have hfs76 := blk_frozen BK216.out 1
                    have hns76_0 := NB198_216.out
                    have hns76_1 := NB199_216.out
                    have hns76_2 := NB200_216.out
                    have hns76_3 := NB209_216.out
                    have hns76_4 := NB214_216.out
                    have hms76_0 := NB216_198.out
                    have hms76_1 := NB216_199.out
                    have hms76_2 := NB216_200.out
                    have hms76_3 := NB216_209.out
                    have hms76_4 := NB216_214.out
                    have hs77 : w74.cell? ⟨gb216, 2, none⟩ = some (.slice none 0 0) := (blk_cell BK216.out 2).trans rfl
                    have hfs77 := blk_frozen BK216.out 2
                    have hns77_0 := NB198_216.out
                    have hns77_1 := NB199_216.out
                    have hns77_2 := NB200_216.out
                    have hns77_3 := NB209_216.out
                    have hns77_4 := NB214_216.out
                    have hms77_0 := NB216_198.out
                    have hms77_1 := NB216_199.out
                    have hms77_2 := NB216_200.out
                    have hms77_3 := NB216_209.out
                    have hms77_4 := NB216_214.out
                    refine skip_ (w1 := ?_) (by rfl) rfl ?_ ?_
                    rotate_left
                    ·go_simp
                     rfl
                    refine hK.out _ _ ⟨((cell_far (p := ⟨gb216, _, none⟩) NB199_216.out _).trans (((cell_far (p := ⟨gb216, _, none⟩) NB199_216.out _).trans (((cell_far (p := ⟨gb216, _, none⟩) NB199_216.out _).trans (hHeld.1)))))), ((cell_far (p := ⟨gb216, _, none⟩) NB199_216.out _).trans (((cell_far (p := ⟨gb216, _, none⟩) NB199_216.out _).trans (((cell_far (p := ⟨gb216, _, none⟩) NB199_216.out _).trans (hHeld.2.1)))))), ((cell_far (p := ⟨gb216, _, none⟩) (by first|exact Nat.ne_of_lt (Nat.lt_of_lt_of_le (by have := World.block_lt_of_cell? _ _ hw215_0;first|rwa [add_block] at this|exact this) GW216.out)|(rw [add_block];exact Nat.ne_of_lt (Nat.lt_of_lt_of_le (by have := World.block_lt_of_cell? _ _ hw215_0;first|rwa [add_block] at this|exact this) GW216.out))|(show (Addr.add _ _).block ≠ _;rw [add_block];exact Nat.ne_of_lt (Nat.lt_of_lt_of_le (by have := World.block_lt_of_cell? _ _ hw215_0;first|rwa [add_block] at this|exact this) GW216.out))|(dsimp only;exact Nat.ne_of_lt (Nat.lt_of_lt_of_le (by have := World.block_lt_of_cell? _ _ hw215_0;first|rwa [add_block] at this|exact this) GW216.out))) _).trans (((cell_far (p := ⟨gb216, _, none⟩) (by first|exact Nat.ne_of_lt (Nat.lt_of_lt_of_le (by have := World.block_lt_of_cell? _ _ hw215_0;first|rwa [add_block] at this|exact this) GW216.out)|(rw [add_block];exact Nat.ne_of_lt (Nat.lt_of_lt_of_le (by have := World.block_lt_of_cell? _ _ hw215_0;first|rwa [add_block] at this|exact this) GW216.out))|(show (Addr.add _ _).block ≠ _;rw [add_block];exact Nat.ne_of_lt (Nat.lt_of_lt_of_le (by have := World.block_lt_of_cell? _ _ hw215_0;first|rwa [add_block] at this|exact this) GW216.out))|(dsimp only;exact Nat.ne_of_lt (Nat.lt_of_lt_of_le (by have := World.block_lt_of_cell? _ _ hw215_0;first|rwa [add_block] at this|exact this) GW216.out))) _).trans (((cell_far (p := ⟨gb216, _, none⟩) (by first|exact Nat.ne_of_lt (Nat.lt_of_lt_of_le (by have := World.block_lt_of_cell? _ _ hw215_0;first|rwa [add_block] at this|exact this) GW216.out)|(rw [add_block];exact Nat.ne_of_lt (Nat.lt_of_lt_of_le (by have := World.block_lt_of_cell? _ _ hw215_0;first|rwa [add_block] at this|exact this) GW216.out))|(show (Addr.add _ _).block ≠ _;rw [add_block];exact Nat.ne_of_lt (Nat.lt_of_lt_of_le (by have := World.block_lt_of_cell? _ _ hw215_0;first|rwa [add_block] at this|exact this) GW216.out))|(dsimp only;exact Nat.ne_of_lt (Nat.lt_of_lt_of_le (by have := World.block_lt_of_cell? _ _ hw215_0;first|rwa [add_block] at this|exact this) GW216.out))) _).trans (hHeld.2.2.1)))))), ((cell_far (p := ⟨gb216, _, none⟩) (by first|exact Nat.ne_of_lt (Nat.lt_of_lt_of_le (by have := World.block_lt_of_cell? _ _ hw215_1;first|rwa [add_block] at this|exact this) GW216.out)|(rw [add_block];exact Nat.ne_of_lt (Nat.lt_of_lt_of_le (by have := World.block_lt_of_cell? _ _ hw215_1;first|rwa [add_block] at this|exact this) GW216.out))|(show (Addr.add _ _).block ≠ _;rw [add_block];exact Nat.ne_of_lt (Nat.lt_of_lt_of_le (by have := World.block_lt_of_cell? _ _ hw215_1;first|rwa [add_block] at this|exact this) GW216.out))|(dsimp only;exact Nat.ne_of_lt (Nat.lt_of_lt_of_le (by have := World.block_lt_of_cell? _ _ hw215_1;first|rwa [add_block] at this|exact this) GW216.out))) _).trans (((cell_far (p := ⟨gb216, _, none⟩) (by first|exact Nat.ne_of_lt (Nat.lt_of_lt_of_le (by have := World.block_lt_of_cell? _ _ hw215_1;first|rwa [add_block] at this|exact this) GW216.out)|(rw [add_block];exact Nat.ne_of_lt (Nat.lt_of_lt_of_le (by have := World.block_lt_of_cell? _ _ hw215_1;first|rwa [add_block] at this|exact this) GW216.out))|(show (Addr.add _ _).block ≠ _;rw [add_block];exact Nat.ne_of_lt (Nat.lt_of_lt_of_le (by have := World.block_lt_of_cell? _ _ hw215_1;first|rwa [add_block] at this|exact this) GW216.out))|(dsimp only;exact Nat.ne_of_lt (Nat.lt_of_lt_of_le (by have := World.block_lt_of_cell? _ _ hw215_1;first|rwa [add_block] at this|exact this) GW216.out))) _).trans (((cell_far (p := ⟨gb216, _, none⟩) (by first|exact Nat.ne_of_lt (Nat.lt_of_lt_of_le (by have := World.block_lt_of_cell? _ _ hw215_1;first|rwa [add_block] at this|exact this) GW216.out)|(rw [add_block];exact Nat.ne_of_lt (Nat.lt_of_lt_of_le (by have := World.block_lt_of_cell? _ _ hw215_1;first|rwa [add_block] at this|exact this) GW216.out))|(show (Addr.add _ _).block ≠ _;rw [add_block];exact Nat.ne_of_lt (Nat.lt_of_lt_of_le (by have := World.block_lt_of_cell? _ _ hw215_1;first|rwa [add_block] at this|exact this) GW216.out))|(dsimp only;exact Nat.ne_of_lt (Nat.lt_of_lt_of_le (by have := World.block_lt_of_cell? _ _ hw215_1;first|rwa [add_block] at this|exact this) GW216.out))) _).trans (hHeld.2.2.2.1)))))), ((cell_far (p := ⟨gb216, _, none⟩) (by first|exact Nat.ne_of_lt (Nat.lt_of_lt_of_le (by have := World.block_lt_of_cell? _ _ hw215_2;first|rwa [add_block] at this|exact this) GW216.out)|(rw [add_block];exact Nat.ne_of_lt (Nat.lt_of_lt_of_le (by have := World.block_lt_of_cell? _ _ hw215_2;first|rwa [add_block] at this|exact this) GW216.out))|(show (Addr.add _ _).block ≠ _;rw [add_block];exact Nat.ne_of_lt (Nat.lt_of_lt_of_le (by have := World.block_lt_of_cell? _ _ hw215_2;first|rwa [add_block] at this|exact this) GW216.out))|(dsimp only;exact Nat.ne_of_lt (Nat.lt_of_lt_of_le (by have := World.block_lt_of_cell? _ _ hw215_2;first|rwa [add_block] at this|exact this) GW216.out))) _).trans (((cell_far (p := ⟨gb216, _, none⟩) (by first|exact Nat.ne_of_lt (Nat.lt_of_lt_of_le (by have := World.block_lt_of_cell? _ _ hw215_2;first|rwa [add_block] at this|exact this) GW216.out)|(rw [add_block];exact Nat.ne_of_lt (Nat.lt_of_lt_of_le (by have := World.block_lt_of_cell? _ _ hw215_2;first|rwa [add_block] at this|exact this) GW216.out))|(show (Addr.add _ _).block ≠ _;rw [add_block];exact Nat.ne_of_lt (Nat.lt_of_lt_of_le (by have := World.block_lt_of_cell? _ _ hw215_2;first|rwa [add_block] at this|exact this) GW216.out))|(dsimp only;exact Nat.ne_of_lt (Nat.lt_of_lt_of_le (by have := World.block_lt_of_cell? _ _ hw215_2;first|rwa [add_block] at this|exact this) GW216.out))) _).trans (((cell_far (p := ⟨gb216, _, none⟩) (by first|exact Nat.ne_of_lt (Nat.lt_of_lt_of_le (by have := World.block_lt_of_cell? _ _ hw215_2;first|rwa [add_block] at this|exact this) GW216.out)|(rw [add_block];exact Nat.ne_of_lt (Nat.lt_of_lt_of_le (by have := World.block_lt_of_cell? _ _ hw215_2;first|rwa [add_block] at this|exact this) GW216.out))|(show (Addr.add _ _).block ≠ _;rw [add_block];exact Nat.ne_of_lt (Nat.lt_of_lt_of_le (by have := World.block_lt_of_cell? _ _ hw215_2;first|rwa [add_block] at this|exact this) GW216.out))|(dsimp only;exact Nat.ne_of_lt (Nat.lt_of_lt_of_le (by have := World.block_lt_of_cell? _ _ hw215_2;first|rwa [add_block] at this|exact this) GW216.out))) _).trans (hHeld.2.2.2.2))))))⟩ (fun hHeld => ?_)
                    clear hK K
                    refine done_ (done_of HT_.out (by kernel_rfl)) ?_
                    have hnb78 := NB214_198.out
                    have hnc78 := NB198_214.out
                    have hnb79 := NB214_199.out
                    have hnc79 := NB199_214.out
                    have hnb80 := NB214_200.out
                    have hnc80 := NB200_214.out
                    have hnb81 := NB214_209.out
                    have hnc81 := NB209_214.out
                    have hnb82 := NB214_216.out
                    have hnc82 := NB216_214.out
                    have hcz83_0 : w74.cell? ⟨gb214, 0, none⟩ = some (.int .i64 ((rd_T33 l1_1 (ji57)).f0)) := (blk_cell BK214.out 0).trans rfl
                    have hcz83_1 : w74.cell? ⟨gb214, 1, none⟩ = some (.int .i64 ((rd_T33 l1_1 (ji57)).f1)) := (blk_cell BK214.out 1).trans rfl
                    have hcz83_2 : w74.cell? ⟨gb214, 2, none⟩ = some (.slice A213_2 ((rd_T33 l1_1 (ji57)).f2).length c213_2) := (blk_cell BK214.out 2).trans rfl
                    have hfz83_0 := blk_frozen BK214.out 0
                    have hfz83_1 := blk_frozen BK214.out 1
                    have hfz83_2 := blk_frozen BK214.out 2
                    have hnb84 := NB216_198.out
                    have hnc84 := NB198_216.out
                    have hnb85 := NB216_199.out
                    have hnc85 := NB199_216.out
                    have hnb86 := NB216_200.out
                    have hnc86 := NB200_216.out
                    have hnb87 := NB216_209.out
                    have hnc87 := NB209_216.out
                    have hcz88_0 : w74.cell? ⟨gb216, 0, none⟩ = some (.int .i64 0) := (blk_cell BK216.out 0).trans rfl
                    have hcz88_1 : w74.cell? ⟨gb216, 1, none⟩ = some (.int .i64 0) := (blk_cell BK216.out 1).trans rfl
                    have hcz88_2 : w74.cell? ⟨gb216, 2, none⟩ = some (.slice none 0 0) := (blk_cell BK216.out 2).trans rfl
                    have hfz88_0 := blk_frozen BK216.out 0
                    have hfz88_1 := blk_frozen BK216.out 1
                    have hfz88_2 := blk_frozen BK216.out 2
                    try go_wp2_with (first | ((with_reducible refine gate_callee (f := 50) rfl ?_); refine goesL_ (some 92) rfl rfl Try.func50 (by kernel_rfl) rfl #[.int .i64 a0, .agg #[.int .i64 ((rd_T33 l1_1 (ji57)).f0), .int .i64 ((rd_T33 l1_1 (ji57)).f1), .slice A213_2 ((rd_T33 l1_1 (ji57)).f2).length c213_2], .agg #[.int .i64 ((rd_T33 l2_1 (ji61)).f0), .int .i64 ((rd_T33 l2_1 (ji61)).f1), .slice A215_2 ((rd_T33 l2_1 (ji61)).f2).length c215_2]] rfl (by (try simp only [List.map_toArray, List.map_cons, List.map_nil]); first | done | (simp only [hji57, hji61]; rfl) | rfl | (simp only [List.length_drop, List.length_take]; rfl)) ?_; (with_reducible refine (triglyphref04_Cell.calls a0 ((rd_T33 l1_1 (ji57)).f0) ((rd_T33 l1_1 (ji57)).f1) _ _ ((rd_T33 l1_1 (ji57)).f2) ((rd_T33 l2_1 (ji61)).f0) ((rd_T33 l2_1 (ji61)).f1) _ _ ((rd_T33 l2_1 (ji61)).f2) t217 t218 t219 t222 _ ?side1 ?side2 ?side3 ?side4 A64.out).mono ?_); (case side1 => exact Kd.C_below HR213_2.out (by repeat (first | (with_reducible first | exact HB.out | apply below_alloc | apply pw_below_drewN | apply below_drew1 | refine below_set ?_ GE198.out | refine below_set ?_ GE199.out | refine below_set ?_ GE200.out | refine below_set ?_ GE209.out | refine below_set ?_ GE214.out | refine below_set ?_ GE216.out) | exact HB.out))); (case side2 => exact HC213_2.out); (case side3 => exact Kd.C_below HR215_2.out (by repeat (first | (with_reducible first | exact HB.out | apply below_alloc | apply pw_below_drewN | apply below_drew1 | refine below_set ?_ GE198.out | refine below_set ?_ GE199.out | refine below_set ?_ GE200.out | refine below_set ?_ GE209.out | refine below_set ?_ GE214.out | refine below_set ?_ GE216.out) | exact HB.out))); (case side4 => exact HC215_2.out); rintro e w89 ⟨v220, rfl, ho0, hb⟩; refine ⟨_, rfl, ?_⟩; have n0_ := Aside0.mk (Kd.R_below (by (with_reducible repeat (first | apply Kd.R_alloc | apply Kd.R_drewN | apply Kd.R_drew)); exact (Kd.R_mono (Kd.R_far (p := ⟨gb216, 2, none⟩) (Kd.R_far (p := ⟨gb216, 1, none⟩) (Kd.R_far (p := ⟨gb216, 0, none⟩) (Kd.R_types HO_210000.out BK216.out (by decide)) (fun _ hk => hk.2) (.int .i64 ((rd_T33 l2_1 (ji61)).f0))) (fun _ hk => hk.2) (.int .i64 ((rd_T33 l2_1 (ji61)).f1))) (fun _ hk => hk.2) (.slice A215_2 ((rd_T33 l2_1 (ji61)).f2).length c215_2)) (fun _ h_ => h_.1))) hb); have n1_ := Aside0.mk (Kd.R_elder' (by (with_reducible repeat (first | apply Kd.R_alloc | apply Kd.R_drewN | apply Kd.R_drew)); exact (Kd.R_mono (Kd.R_far (p := ⟨gb216, 2, none⟩) (Kd.R_far (p := ⟨gb216, 1, none⟩) (Kd.R_far (p := ⟨gb216, 0, none⟩) (Kd.R_mono HO_210001.out (fun k_ hk => (⟨hk, hk.2⟩ : _ ∧ k_ ≠ gb216))) (fun _ hk => hk.2) (.int .i64 ((rd_T33 l2_1 (ji61)).f0))) (fun _ hk => hk.2) (.int .i64 ((rd_T33 l2_1 (ji61)).f1))) (fun _ hk => hk.2) (.slice A215_2 ((rd_T33 l2_1 (ji61)).f2).length c215_2)) (fun _ h_ => h_.1))) (Kd.R_base ho0) hb); have n2_ := Aside0.mk (Kd.R_lower (Kd.R_newB (Kd.R_newB (Kd.R_newB (Kd.R_newB (Kd.R_newB (Kd.R_newB (Kd.R_new' (Kd.R_new' ho0 (Kd.R_lt (by (with_reducible repeat (first | apply Kd.R_alloc | apply Kd.R_drewN | apply Kd.R_drew)); exact (Kd.R_mono (Kd.R_far (p := ⟨gb216, 2, none⟩) (Kd.R_far (p := ⟨gb216, 1, none⟩) (Kd.R_far (p := ⟨gb216, 0, none⟩) (Kd.R_types HO_210000.out BK216.out (by decide)) (fun _ hk => hk.2) (.int .i64 ((rd_T33 l2_1 (ji61)).f0))) (fun _ hk => hk.2) (.int .i64 ((rd_T33 l2_1 (ji61)).f1))) (fun _ hk => hk.2) (.slice A215_2 ((rd_T33 l2_1 (ji61)).f2).length c215_2)) (fun _ h_ => h_.1))))) (Kd.R_lt (by (with_reducible repeat (first | apply Kd.R_alloc | apply Kd.R_drewN | apply Kd.R_drew)); exact (Kd.R_mono (Kd.R_far (p := ⟨gb216, 2, none⟩) (Kd.R_far (p := ⟨gb216, 1, none⟩) (Kd.R_far (p := ⟨gb216, 0, none⟩) (Kd.R_mono HO_210001.out (fun k_ hk => (⟨hk, hk.2⟩ : _ ∧ k_ ≠ gb216))) (fun _ hk => hk.2) (.int .i64 ((rd_T33 l2_1 (ji61)).f0))) (fun _ hk => hk.2) (.int .i64 ((rd_T33 l2_1 (ji61)).f1))) (fun _ hk => hk.2) (.slice A215_2 ((rd_T33 l2_1 (ji61)).f2).length c215_2)) (fun _ h_ => h_.1))))) (g := gb198) (o := .cells #[.slice A1_0 l1_0.length c1_0, .slice (some ad213) l1_1.length c1_1] 25 (0, 0)) (by (with_reducible repeat (first | refine blk_drewN ?_ _ | refine blk_drew ?_ | refine blk_alloc ?_ _)); refine blk_far ?_ NB198_216.out _; (with_reducible repeat (first | refine blk_drewN ?_ _ | refine blk_drew ?_ | refine blk_alloc ?_ _)); refine blk_far ?_ NB198_216.out _; (with_reducible repeat (first | refine blk_drewN ?_ _ | refine blk_drew ?_ | refine blk_alloc ?_ _)); refine blk_far ?_ NB198_216.out _; (with_reducible repeat (first | refine blk_drewN ?_ _ | refine blk_drew ?_ | refine blk_alloc ?_ _)); exact BK198.out)) (g := gb199) (o := .cells #[.slice A2_0 l2_0.length c2_0, .slice (some ad215) l2_1.length c2_1] 25 (0, 0)) (by (with_reducible repeat (first | refine blk_drewN ?_ _ | refine blk_drew ?_ | refine blk_alloc ?_ _)); refine blk_far ?_ NB199_216.out _; (with_reducible repeat (first | refine blk_drewN ?_ _ | refine blk_drew ?_ | refine blk_alloc ?_ _)); refine blk_far ?_ NB199_216.out _; (with_reducible repeat (first | refine blk_drewN ?_ _ | refine blk_drew ?_ | refine blk_alloc ?_ _)); refine blk_far ?_ NB199_216.out _; (with_reducible repeat (first | refine blk_drewN ?_ _ | refine blk_drew ?_ | refine blk_alloc ?_ _)); exact BK199.out)) (g := gb200) (o := .cells #[.slice none 0 0, .slice none 0 0] 25 (0, 0)) (by (with_reducible repeat (first | refine blk_drewN ?_ _ | refine blk_drew ?_ | refine blk_alloc ?_ _)); refine blk_far ?_ NB200_216.out _; (with_reducible repeat (first | refine blk_drewN ?_ _ | refine blk_drew ?_ | refine blk_alloc ?_ _)); refine blk_far ?_ NB200_216.out _; (with_reducible repeat (first | refine blk_drewN ?_ _ | refine blk_drew ?_ | refine blk_alloc ?_ _)); refine blk_far ?_ NB200_216.out _; (with_reducible repeat (first | refine blk_drewN ?_ _ | refine blk_drew ?_ | refine blk_alloc ?_ _)); exact BK200.out)) (g := gb209) (o := .cells #[.slice Ao53 y210.length co53, u210001] 25 (0, 0)) (by (with_reducible repeat (first | refine blk_drewN ?_ _ | refine blk_drew ?_ | refine blk_alloc ?_ _)); refine blk_far ?_ NB209_216.out _; (with_reducible repeat (first | refine blk_drewN ?_ _ | refine blk_drew ?_ | refine blk_alloc ?_ _)); refine blk_far ?_ NB209_216.out _; (with_reducible repeat (first | refine blk_drewN ?_ _ | refine blk_drew ?_ | refine blk_alloc ?_ _)); refine blk_far ?_ NB209_216.out _; (with_reducible repeat (first | refine blk_drewN ?_ _ | refine blk_drew ?_ | refine blk_alloc ?_ _)); exact BK209.out)) (g := gb214) (o := .cells #[.int .i64 ((rd_T33 l1_1 (ji57)).f0), .int .i64 ((rd_T33 l1_1 (ji57)).f1), .slice A213_2 ((rd_T33 l1_1 (ji57)).f2).length c213_2] 33 (0, 0)) (by (with_reducible repeat (first | refine blk_drewN ?_ _ | refine blk_drew ?_ | refine blk_alloc ?_ _)); refine blk_far ?_ NB214_216.out _; (with_reducible repeat (first | refine blk_drewN ?_ _ | refine blk_drew ?_ | refine blk_alloc ?_ _)); refine blk_far ?_ NB214_216.out _; (with_reducible repeat (first | refine blk_drewN ?_ _ | refine blk_drew ?_ | refine blk_alloc ?_ _)); refine blk_far ?_ NB214_216.out _; (with_reducible repeat (first | refine blk_drewN ?_ _ | refine blk_drew ?_ | refine blk_alloc ?_ _)); exact BK214.out)) (g := gb216) (o := .cells #[.int .i64 ((rd_T33 l2_1 (ji61)).f0), .int .i64 ((rd_T33 l2_1 (ji61)).f1), .slice A215_2 ((rd_T33 l2_1 (ji61)).f2).length c215_2] 33 (0, 0)) (by (with_reducible repeat (first | refine blk_drewN ?_ _ | refine blk_drew ?_ | refine blk_alloc ?_ _)); refine blk_put (cs := #[.int .i64 ((rd_T33 l2_1 (ji61)).f0), .int .i64 ((rd_T33 l2_1 (ji61)).f1), .slice none 0 0]) ?_ 2 _ rfl; (with_reducible repeat (first | refine blk_drewN ?_ _ | refine blk_drew ?_ | refine blk_alloc ?_ _)); refine blk_put (cs := #[.int .i64 ((rd_T33 l2_1 (ji61)).f0), .int .i64 0, .slice none 0 0]) ?_ 1 _ rfl; (with_reducible repeat (first | refine blk_drewN ?_ _ | refine blk_drew ?_ | refine blk_alloc ?_ _)); refine blk_put (cs := #[.int .i64 0, .int .i64 0, .slice none 0 0]) ?_ 0 _ rfl; (with_reducible repeat (first | refine blk_drewN ?_ _ | refine blk_drew ?_ | refine blk_alloc ?_ _)); exact BK216.out)) (below_size (by repeat (first | (with_reducible first | exact HB.out | apply below_alloc | apply pw_below_drewN | apply below_drew1 | refine below_set ?_ GE198.out | refine below_set ?_ GE199.out | refine below_set ?_ GE200.out | refine below_set ?_ GE209.out | refine below_set ?_ GE214.out | refine below_set ?_ GE216.out) | exact HB.out)))); have n3_ := Aside0.mk (blk_below (g := gb198) (o := .cells #[.slice A1_0 l1_0.length c1_0, .slice (some ad213) l1_1.length c1_1] 25 (0, 0)) (by (with_reducible repeat (first | refine blk_drewN ?_ _ | refine blk_drew ?_ | refine blk_alloc ?_ _)); refine blk_far ?_ NB198_216.out _; (with_reducible repeat (first | refine blk_drewN ?_ _ | refine blk_drew ?_ | refine blk_alloc ?_ _)); refine blk_far ?_ NB198_216.out _; (with_reducible repeat (first | refine blk_drewN ?_ _ | refine blk_drew ?_ | refine blk_alloc ?_ _)); refine blk_far ?_ NB198_216.out _; (with_reducible repeat (first | refine blk_drewN ?_ _ | refine blk_drew ?_ | refine blk_alloc ?_ _)); exact BK198.out) hb); have n4_ := Aside0.mk (blk_below (g := gb199) (o := .cells #[.slice A2_0 l2_0.length c2_0, .slice (some ad215) l2_1.length c2_1] 25 (0, 0)) (by (with_reducible repeat (first | refine blk_drewN ?_ _ | refine blk_drew ?_ | refine blk_alloc ?_ _)); refine blk_far ?_ NB199_216.out _; (with_reducible repeat (first | refine blk_drewN ?_ _ | refine blk_drew ?_ | refine blk_alloc ?_ _)); refine blk_far ?_ NB199_216.out _; (with_reducible repeat (first | refine blk_drewN ?_ _ | refine blk_drew ?_ | refine blk_alloc ?_ _)); refine blk_far ?_ NB199_216.out _; (with_reducible repeat (first | refine blk_drewN ?_ _ | refine blk_drew ?_ | refine blk_alloc ?_ _)); exact BK199.out) hb); have n5_ := Aside0.mk (blk_below (g := gb200) (o := .cells #[.slice none 0 0, .slice none 0 0] 25 (0, 0)) (by (with_reducible repeat (first | refine blk_drewN ?_ _ | refine blk_drew ?_ | refine blk_alloc ?_ _)); refine blk_far ?_ NB200_216.out _; (with_reducible repeat (first | refine blk_drewN ?_ _ | refine blk_drew ?_ | refine blk_alloc ?_ _)); refine blk_far ?_ NB200_216.out _; (with_reducible repeat (first | refine blk_drewN ?_ _ | refine blk_drew ?_ | refine blk_alloc ?_ _)); refine blk_far ?_ NB200_216.out _; (with_reducible repeat (first | refine blk_drewN ?_ _ | refine blk_drew ?_ | refine blk_alloc ?_ _)); exact BK200.out) hb); have n6_ := Aside0.mk (blk_below (g := gb209) (o := .cells #[.slice Ao53 y210.length co53, u210001] 25 (0, 0)) (by (with_reducible repeat (first | refine blk_drewN ?_ _ | refine blk_drew ?_ | refine blk_alloc ?_ _)); refine blk_far ?_ NB209_216.out _; (with_reducible repeat (first | refine blk_drewN ?_ _ | refine blk_drew ?_ | refine blk_alloc ?_ _)); refine blk_far ?_ NB209_216.out _; (with_reducible repeat (first | refine blk_drewN ?_ _ | refine blk_drew ?_ | refine blk_alloc ?_ _)); refine blk_far ?_ NB209_216.out _; (with_reducible repeat (first | refine blk_drewN ?_ _ | refine blk_drew ?_ | refine blk_alloc ?_ _)); exact BK209.out) hb); have n7_ := Aside0.mk (blk_below (g := gb214) (o := .cells #[.int .i64 ((rd_T33 l1_1 (ji57)).f0), .int .i64 ((rd_T33 l1_1 (ji57)).f1), .slice A213_2 ((rd_T33 l1_1 (ji57)).f2).length c213_2] 33 (0, 0)) (by (with_reducible repeat (first | refine blk_drewN ?_ _ | refine blk_drew ?_ | refine blk_alloc ?_ _)); refine blk_far ?_ NB214_216.out _; (with_reducible repeat (first | refine blk_drewN ?_ _ | refine blk_drew ?_ | refine blk_alloc ?_ _)); refine blk_far ?_ NB214_216.out _; (with_reducible repeat (first | refine blk_drewN ?_ _ | refine blk_drew ?_ | refine blk_alloc ?_ _)); refine blk_far ?_ NB214_216.out _; (with_reducible repeat (first | refine blk_drewN ?_ _ | refine blk_drew ?_ | refine blk_alloc ?_ _)); exact BK214.out) hb); have n8_ := Aside0.mk (blk_below (g := gb216) (o := .cells #[.int .i64 ((rd_T33 l2_1 (ji61)).f0), .int .i64 ((rd_T33 l2_1 (ji61)).f1), .slice A215_2 ((rd_T33 l2_1 (ji61)).f2).length c215_2] 33 (0, 0)) (by (with_reducible repeat (first | refine blk_drewN ?_ _ | refine blk_drew ?_ | refine blk_alloc ?_ _)); refine blk_put (cs := #[.int .i64 ((rd_T33 l2_1 (ji61)).f0), .int .i64 ((rd_T33 l2_1 (ji61)).f1), .slice none 0 0]) ?_ 2 _ rfl; (with_reducible repeat (first | refine blk_drewN ?_ _ | refine blk_drew ?_ | refine blk_alloc ?_ _)); refine blk_put (cs := #[.int .i64 ((rd_T33 l2_1 (ji61)).f0), .int .i64 0, .slice none 0 0]) ?_ 1 _ rfl; (with_reducible repeat (first | refine blk_drewN ?_ _ | refine blk_drew ?_ | refine blk_alloc ?_ _)); refine blk_put (cs := #[.int .i64 0, .int .i64 0, .slice none 0 0]) ?_ 0 _ rfl; (with_reducible repeat (first | refine blk_drewN ?_ _ | refine blk_drew ?_ | refine blk_alloc ?_ _)); exact BK216.out) hb); have n9_ := Aside0.mk (below_step (by repeat (first | (with_reducible first | exact HB.out | apply below_alloc | apply pw_below_drewN | apply below_drew1 | refine below_set ?_ GE198.out | refine below_set ?_ GE199.out | refine below_set ?_ GE200.out | refine below_set ?_ GE209.out | refine below_set ?_ GE214.out | refine below_set ?_ GE216.out) | exact HB.out)) hb); clear HO_210000; clear HO_210001; clear BK198; clear BK199; clear BK200; clear BK209; clear BK214; clear BK216; clear HB; have HO_210000 := n0_; have HO_210001 := n1_; have HO221 := n2_; have BK198 := n3_; have BK199 := n4_; have BK200 := n5_; have BK209 := n6_; have BK214 := n7_; have BK216 := n8_; have HB := n9_; clear n0_ n1_ n2_ n3_ n4_ n5_ n6_ n7_ n8_ n9_; (try clear hb); (try clear hb2); (try clear hk); (try clear hi); (try clear ho0)) | ((with_reducible refine gate_dst (N := 18) rfl ?_); refine box_event ?hg (N := 18) ?hd (cs := #[.int .i64 0, .int .i64 0, .slice none 0 0]) (t := 33) ?hr ?_; (case hd => rfl); (case hg => rfl); (case hr => first | (go_simp; done) | (go_simp; rfl)); intro gb223 hg w90 hbox hb; have n0_ := Aside0.mk (Kd.R_below (by (with_reducible repeat (first | apply Kd.R_alloc | apply Kd.R_drewN | apply Kd.R_drew)); exact HO_210000.out) hb); have n1_ := Aside0.mk (Kd.R_below (Kd.R_elderB (by (with_reducible repeat (first | apply Kd.R_alloc | apply Kd.R_drewN | apply Kd.R_drew)); exact HO_210001.out) gb223 (Nat.le_of_eq hg.symm)) hb); have n2_ := Aside0.mk (Kd.R_below (Kd.R_elderB (by (with_reducible repeat (first | apply Kd.R_alloc | apply Kd.R_drewN | apply Kd.R_drew)); exact HO221.out) gb223 (Nat.le_of_eq hg.symm)) hb); have n3_ := Aside0.mk (blk_below (g := gb198) (o := .cells #[.slice A1_0 l1_0.length c1_0, .slice (some ad213) l1_1.length c1_1] 25 (0, 0)) (by (with_reducible repeat (first | refine blk_drewN ?_ _ | refine blk_drew ?_ | refine blk_alloc ?_ _)); exact BK198.out) hb); have n4_ := Aside0.mk (blk_below (g := gb199) (o := .cells #[.slice A2_0 l2_0.length c2_0, .slice (some ad215) l2_1.length c2_1] 25 (0, 0)) (by (with_reducible repeat (first | refine blk_drewN ?_ _ | refine blk_drew ?_ | refine blk_alloc ?_ _)); exact BK199.out) hb); have n5_ := Aside0.mk (blk_below (g := gb200) (o := .cells #[.slice none 0 0, .slice none 0 0] 25 (0, 0)) (by (with_reducible repeat (first | refine blk_drewN ?_ _ | refine blk_drew ?_ | refine blk_alloc ?_ _)); exact BK200.out) hb); have n6_ := Aside0.mk (blk_below (g := gb209) (o := .cells #[.slice Ao53 y210.length co53, u210001] 25 (0, 0)) (by (with_reducible repeat (first | refine blk_drewN ?_ _ | refine blk_drew ?_ | refine blk_alloc ?_ _)); exact BK209.out) hb); have n7_ := Aside0.mk (blk_below (g := gb214) (o := .cells #[.int .i64 ((rd_T33 l1_1 (ji57)).f0), .int .i64 ((rd_T33 l1_1 (ji57)).f1), .slice A213_2 ((rd_T33 l1_1 (ji57)).f2).length c213_2] 33 (0, 0)) (by (with_reducible repeat (first | refine blk_drewN ?_ _ | refine blk_drew ?_ | refine blk_alloc ?_ _)); exact BK214.out) hb); have n8_ := Aside0.mk (blk_below (g := gb216) (o := .cells #[.int .i64 ((rd_T33 l2_1 (ji61)).f0), .int .i64 ((rd_T33 l2_1 (ji61)).f1), .slice A215_2 ((rd_T33 l2_1 (ji61)).f2).length c215_2] 33 (0, 0)) (by (with_reducible repeat (first | refine blk_drewN ?_ _ | refine blk_drew ?_ | refine blk_alloc ?_ _)); exact BK216.out) hb); have n9_ := Aside0.mk (below_step (by repeat (first | (with_reducible first | exact HB.out | apply below_alloc | apply pw_below_drewN | apply below_drew1 | refine below_set ?_ GE198.out | refine below_set ?_ GE199.out | refine below_set ?_ GE200.out | refine below_set ?_ GE209.out | refine below_set ?_ GE214.out | refine below_set ?_ GE216.out) | exact HB.out)) hb); have n10_ := Aside0.mk (hbox); have n11_ := Aside0.mk ((by rw [hg]; exact (below_size (by repeat (first | (with_reducible first | exact HB.out | apply below_alloc | apply pw_below_drewN | apply below_drew1 | refine below_set ?_ GE198.out | refine below_set ?_ GE199.out | refine below_set ?_ GE200.out | refine below_set ?_ GE209.out | refine below_set ?_ GE214.out | refine below_set ?_ GE216.out) | exact HB.out))) : w.heap.size ≤ gb223)); have n12_ := Aside0.mk ((by rw [hg]; exact (below_size (by repeat (first | (with_reducible first | exact HB.out | apply below_alloc | apply pw_below_drewN | apply below_drew1 | refine below_set ?_ GE198.out | refine below_set ?_ GE199.out | refine below_set ?_ GE200.out | refine below_set ?_ GE209.out | refine below_set ?_ GE214.out | refine below_set ?_ GE216.out) | exact HB.out))) : w.heap.size ≤ gb223)); have n13_ := Aside0.mk ((by rw [hg]; exact Nat.ne_of_lt (blk_lt (g := gb198) (o := .cells #[.slice A1_0 l1_0.length c1_0, .slice (some ad213) l1_1.length c1_1] 25 (0, 0)) (by (with_reducible repeat (first | refine blk_drewN ?_ _ | refine blk_drew ?_ | refine blk_alloc ?_ _)); exact BK198.out)) : gb198 ≠ gb223)); have n14_ := Aside0.mk ((by rw [hg]; exact Nat.ne_of_gt (blk_lt (g := gb198) (o := .cells #[.slice A1_0 l1_0.length c1_0, .slice (some ad213) l1_1.length c1_1] 25 (0, 0)) (by (with_reducible repeat (first | refine blk_drewN ?_ _ | refine blk_drew ?_ | refine blk_alloc ?_ _)); exact BK198.out)) : gb223 ≠ gb198)); have n15_ := Aside0.mk ((by rw [hg]; exact Nat.ne_of_lt (blk_lt (g := gb199) (o := .cells #[.slice A2_0 l2_0.length c2_0, .slice (some ad215) l2_1.length c2_1] 25 (0, 0)) (by (with_reducible repeat (first | refine blk_drewN ?_ _ | refine blk_drew ?_ | refine blk_alloc ?_ _)); exact BK199.out)) : gb199 ≠ gb223)); have n16_ := Aside0.mk ((by rw [hg]; exact Nat.ne_of_gt (blk_lt (g := gb199) (o := .cells #[.slice A2_0 l2_0.length c2_0, .slice (some ad215) l2_1.length c2_1] 25 (0, 0)) (by (with_reducible repeat (first | refine blk_drewN ?_ _ | refine blk_drew ?_ | refine blk_alloc ?_ _)); exact BK199.out)) : gb223 ≠ gb199)); have n17_ := Aside0.mk ((by rw [hg]; exact Nat.ne_of_lt (blk_lt (g := gb200) (o := .cells #[.slice none 0 0, .slice none 0 0] 25 (0, 0)) (by (with_reducible repeat (first | refine blk_drewN ?_ _ | refine blk_drew ?_ | refine blk_alloc ?_ _)); exact BK200.out)) : gb200 ≠ gb223)); have n18_ := Aside0.mk ((by rw [hg]; exact Nat.ne_of_gt (blk_lt (g := gb200) (o := .cells #[.slice none 0 0, .slice none 0 0] 25 (0, 0)) (by (with_reducible repeat (first | refine blk_drewN ?_ _ | refine blk_drew ?_ | refine blk_alloc ?_ _)); exact BK200.out)) : gb223 ≠ gb200)); have n19_ := Aside0.mk ((by rw [hg]; exact Nat.ne_of_lt (blk_lt (g := gb209) (o := .cells #[.slice Ao53 y210.length co53, u210001] 25 (0, 0)) (by (with_reducible repeat (first | refine blk_drewN ?_ _ | refine blk_drew ?_ | refine blk_alloc ?_ _)); exact BK209.out)) : gb209 ≠ gb223)); have n20_ := Aside0.mk ((by rw [hg]; exact Nat.ne_of_gt (blk_lt (g := gb209) (o := .cells #[.slice Ao53 y210.length co53, u210001] 25 (0, 0)) (by (with_reducible repeat (first | refine blk_drewN ?_ _ | refine blk_drew ?_ | refine blk_alloc ?_ _)); exact BK209.out)) : gb223 ≠ gb209)); have n21_ := Aside0.mk ((by rw [hg]; exact Nat.ne_of_lt (blk_lt (g := gb214) (o := .cells #[.int .i64 ((rd_T33 l1_1 (ji57)).f0), .int .i64 ((rd_T33 l1_1 (ji57)).f1), .slice A213_2 ((rd_T33 l1_1 (ji57)).f2).length c213_2] 33 (0, 0)) (by (with_reducible repeat (first | refine blk_drewN ?_ _ | refine blk_drew ?_ | refine blk_alloc ?_ _)); exact BK214.out)) : gb214 ≠ gb223)); have n22_ := Aside0.mk ((by rw [hg]; exact Nat.ne_of_gt (blk_lt (g := gb214) (o := .cells #[.int .i64 ((rd_T33 l1_1 (ji57)).f0), .int .i64 ((rd_T33 l1_1 (ji57)).f1), .slice A213_2 ((rd_T33 l1_1 (ji57)).f2).length c213_2] 33 (0, 0)) (by (with_reducible repeat (first | refine blk_drewN ?_ _ | refine blk_drew ?_ | refine blk_alloc ?_ _)); exact BK214.out)) : gb223 ≠ gb214)); have n23_ := Aside0.mk ((by rw [hg]; exact Nat.ne_of_lt (blk_lt (g := gb216) (o := .cells #[.int .i64 ((rd_T33 l2_1 (ji61)).f0), .int .i64 ((rd_T33 l2_1 (ji61)).f1), .slice A215_2 ((rd_T33 l2_1 (ji61)).f2).length c215_2] 33 (0, 0)) (by (with_reducible repeat (first | refine blk_drewN ?_ _ | refine blk_drew ?_ | refine blk_alloc ?_ _)); exact BK216.out)) : gb216 ≠ gb223)); have n24_ := Aside0.mk ((by rw [hg]; exact Nat.ne_of_gt (blk_lt (g := gb216) (o := .cells #[.int .i64 ((rd_T33 l2_1 (ji61)).f0), .int .i64 ((rd_T33 l2_1 (ji61)).f1), .slice A215_2 ((rd_T33 l2_1 (ji61)).f2).length c215_2] 33 (0, 0)) (by (with_reducible repeat (first | refine blk_drewN ?_ _ | refine blk_drew ?_ | refine blk_alloc ?_ _)); exact BK216.out)) : gb223 ≠ gb216)); clear HO_210000; clear HO_210001; clear HO221; clear BK198; clear BK199; clear BK200; clear BK209; clear BK214; clear BK216; clear HB; have HO_210000 := n0_; have HO_210001 := n1_; have HO221 := n2_; have BK198 := n3_; have BK199 := n4_; have BK200 := n5_; have BK209 := n6_; have BK214 := n7_; have BK216 := n8_; have HB := n9_; have BK223 := n10_; have GW223 := n11_; have GE223 := n12_; have NB198_223 := n13_; have NB223_198 := n14_; have NB199_223 := n15_; have NB223_199 := n16_; have NB200_223 := n17_; have NB223_200 := n18_; have NB209_223 := n19_; have NB223_209 := n20_; have NB214_223 := n21_; have NB223_214 := n22_; have NB216_223 := n23_; have NB223_216 := n24_; clear n0_ n1_ n2_ n3_ n4_ n5_ n6_ n7_ n8_ n9_ n10_ n11_ n12_ n13_ n14_ n15_ n16_ n17_ n18_ n19_ n20_ n21_ n22_ n23_ n24_; clear hb hbox hg; have hnb91 := NB223_198.out; have hnc91 := NB198_223.out; have hnb92 := NB223_199.out; have hnc92 := NB199_223.out; have hnb93 := NB223_200.out; have hnc93 := NB200_223.out; have hnb94 := NB223_209.out; have hnc94 := NB209_223.out; have hnb95 := NB223_214.out; have hnc95 := NB214_223.out; have hnb96 := NB223_216.out; have hnc96 := NB216_223.out; have hcz97_0 : w90.cell? ⟨gb223, 0, none⟩ = some (.int .i64 0) := (blk_cell BK223.out 0).trans rfl; have hcz97_1 : w90.cell? ⟨gb223, 1, none⟩ = some (.int .i64 0) := (blk_cell BK223.out 1).trans rfl; have hcz97_2 : w90.cell? ⟨gb223, 2, none⟩ = some (.slice none 0 0) := (blk_cell BK223.out 2).trans rfl; have hfz97_0 := blk_frozen BK223.out 0; have hfz97_1 := blk_frozen BK223.out 1; have hfz97_2 := blk_frozen BK223.out 2; obtain ⟨Ao98, co98, eo98⟩ := Kd.R_slice HO221.out; subst eo98) | ((with_reducible refine gate_store (t := 33) (p := 18) rfl ?_); refine store_event (t := 33) (p := 18) (v := ?vo_w99) (w1 := (((w90.setCell ⟨gb223, 0, none⟩ (.int .i64 t217)).setCell ⟨gb223, 1, none⟩ (.int .i64 t218)).setCell ⟨gb223, 2, none⟩ (.slice Ao98 t219.length co98))) ?hg ?ho ?hn ?hr ?_; (case ho => rfl); (case hg => rfl); (case hn => rfl); (case hr => first | (go_simp; done) | (go_simp; rfl)); intro w99 hw; have n0_ : Aside0 (Kd.R (Kd.int .i64) 3 w99 w.heap.size (fun _ => True) (.slice Ao53 y210.length co53) y210) := ⟨(by rw [hw]; exact (by (with_reducible repeat (first | apply Kd.R_alloc | apply Kd.R_drewN | apply Kd.R_drew)); exact Kd.R_mono (Kd.R_far (p := ⟨gb223, 2, none⟩) (Kd.R_far (p := ⟨gb223, 1, none⟩) (Kd.R_far (p := ⟨gb223, 0, none⟩) (Kd.R_types HO_210000.out BK223.out (by decide)) (fun _ hk => hk.2) (.int .i64 t217)) (fun _ hk => hk.2) (.int .i64 t218)) (fun _ hk => hk.2) (.slice Ao98 t219.length co98)) (fun _ hk => trivial)))⟩; have n1_ : Aside0 (Kd.R k33 33 w99 w.heap.size (fun k_ => some k_ ≠ (.slice Ao53 y210.length co53 : Value).ownBlock ∧ some k_ ≠ (.slice Ao98 t219.length co98 : Value).ownBlock ∧ k_ ≠ gb198 ∧ k_ ≠ gb199 ∧ k_ ≠ gb200 ∧ k_ ≠ gb209 ∧ k_ ≠ gb214 ∧ k_ ≠ gb216 ∧ k_ ≠ gb223) u210001 x210001_2) := ⟨(by rw [hw]; exact (by (with_reducible repeat (first | apply Kd.R_alloc | apply Kd.R_drewN | apply Kd.R_drew)); exact Kd.R_mono (Kd.R_far (p := ⟨gb223, 2, none⟩) (Kd.R_far (p := ⟨gb223, 1, none⟩) (Kd.R_far (p := ⟨gb223, 0, none⟩) (Kd.R_mono HO_210001.out (fun k_ hk => (⟨hk, hk.2⟩ : _ ∧ k_ ≠ gb223))) (fun _ hk => hk.2) (.int .i64 t217)) (fun _ hk => hk.2) (.int .i64 t218)) (fun _ hk => hk.2) (.slice Ao98 t219.length co98)) (fun _ hk => ⟨hk.1.1.1.1.1, ⟨hk.1.1.2, ⟨hk.1.1.1.1.2.1, ⟨hk.1.1.1.1.2.2.1, ⟨hk.1.1.1.1.2.2.2.1, ⟨hk.1.1.1.1.2.2.2.2.1, ⟨hk.1.1.1.1.2.2.2.2.2, ⟨hk.1.1.1.2, hk.1.2⟩⟩⟩⟩⟩⟩⟩⟩)))⟩; have n2_ : Aside0 (Kd.R k25 25 w99 w.heap.size (fun k_ => some k_ ≠ (.slice Ao53 y210.length co53 : Value).ownBlock ∧ some k_ ≠ (u210001 : Value).ownBlock ∧ k_ ≠ gb198 ∧ k_ ≠ gb199 ∧ k_ ≠ gb200 ∧ k_ ≠ gb209 ∧ k_ ≠ gb214 ∧ k_ ≠ gb216 ∧ k_ ≠ gb223) (.slice Ao98 t219.length co98) t219) := ⟨(by rw [hw]; exact (by (with_reducible repeat (first | apply Kd.R_alloc | apply Kd.R_drewN | apply Kd.R_drew)); exact Kd.R_mono (Kd.R_far (p := ⟨gb223, 2, none⟩) (Kd.R_far (p := ⟨gb223, 1, none⟩) (Kd.R_far (p := ⟨gb223, 0, none⟩) (Kd.R_mono HO221.out (fun k_ hk => (⟨hk, hk.2⟩ : _ ∧ k_ ≠ gb223))) (fun _ hk => hk.2) (.int .i64 t217)) (fun _ hk => hk.2) (.int .i64 t218)) (fun _ hk => hk.2) (.slice Ao98 t219.length co98)) (fun _ hk => ⟨hk.1.1.1.1.1.1.1.1.1.2, ⟨hk.1.1.1.1.1.1.1.1.2, ⟨hk.1.1.1.1.1.1.1.2, ⟨hk.1.1.1.1.1.1.2, ⟨hk.1.1.1.1.1.2, ⟨hk.1.1.1.1.2, ⟨hk.1.1.1.2, ⟨hk.1.1.2, hk.1.2⟩⟩⟩⟩⟩⟩⟩⟩)))⟩; have n3_ : Aside0 (w99.heap[gb198]? = some (.cells #[.slice A1_0 l1_0.length c1_0, .slice (some ad213) l1_1.length c1_1] 25 (0, 0))) := ⟨(by rw [hw]; exact (by (with_reducible repeat (first | refine blk_drewN ?_ _ | refine blk_drew ?_ | refine blk_alloc ?_ _)); refine blk_far ?_ NB198_223.out _; (with_reducible repeat (first | refine blk_drewN ?_ _ | refine blk_drew ?_ | refine blk_alloc ?_ _)); refine blk_far ?_ NB198_223.out _; (with_reducible repeat (first | refine blk_drewN ?_ _ | refine blk_drew ?_ | refine blk_alloc ?_ _)); refine blk_far ?_ NB198_223.out _; (with_reducible repeat (first | refine blk_drewN ?_ _ | refine blk_drew ?_ | refine blk_alloc ?_ _)); exact BK198.out))⟩; have n4_ : Aside0 (w99.heap[gb199]? = some (.cells #[.slice A2_0 l2_0.length c2_0, .slice (some ad215) l2_1.length c2_1] 25 (0, 0))) := ⟨(by rw [hw]; exact (by (with_reducible repeat (first | refine blk_drewN ?_ _ | refine blk_drew ?_ | refine blk_alloc ?_ _)); refine blk_far ?_ NB199_223.out _; (with_reducible repeat (first | refine blk_drewN ?_ _ | refine blk_drew ?_ | refine blk_alloc ?_ _)); refine blk_far ?_ NB199_223.out _; (with_reducible repeat (first | refine blk_drewN ?_ _ | refine blk_drew ?_ | refine blk_alloc ?_ _)); refine blk_far ?_ NB199_223.out _; (with_reducible repeat (first | refine blk_drewN ?_ _ | refine blk_drew ?_ | refine blk_alloc ?_ _)); exact BK199.out))⟩; have n5_ : Aside0 (w99.heap[gb200]? = some (.cells #[.slice none 0 0, .slice none 0 0] 25 (0, 0))) := ⟨(by rw [hw]; exact (by (with_reducible repeat (first | refine blk_drewN ?_ _ | refine blk_drew ?_ | refine blk_alloc ?_ _)); refine blk_far ?_ NB200_223.out _; (with_reducible repeat (first | refine blk_drewN ?_ _ | refine blk_drew ?_ | refine blk_alloc ?_ _)); refine blk_far ?_ NB200_223.out _; (with_reducible repeat (first | refine blk_drewN ?_ _ | refine blk_drew ?_ | refine blk_alloc ?_ _)); refine blk_far ?_ NB200_223.out _; (with_reducible repeat (first | refine blk_drewN ?_ _ | refine blk_drew ?_ | refine blk_alloc ?_ _)); exact BK200.out))⟩; have n6_ : Aside0 (w99.heap[gb209]? = some (.cells #[.slice Ao53 y210.length co53, u210001] 25 (0, 0))) := ⟨(by rw [hw]; exact (by (with_reducible repeat (first | refine blk_drewN ?_ _ | refine blk_drew ?_ | refine blk_alloc ?_ _)); refine blk_far ?_ NB209_223.out _; (with_reducible repeat (first | refine blk_drewN ?_ _ | refine blk_drew ?_ | refine blk_alloc ?_ _)); refine blk_far ?_ NB209_223.out _; (with_reducible repeat (first | refine blk_drewN ?_ _ | refine blk_drew ?_ | refine blk_alloc ?_ _)); refine blk_far ?_ NB209_223.out _; (with_reducible repeat (first | refine blk_drewN ?_ _ | refine blk_drew ?_ | refine blk_alloc ?_ _)); exact BK209.out))⟩; have n7_ : Aside0 (w99.heap[gb214]? = some (.cells #[.int .i64 ((rd_T33 l1_1 (ji57)).f0), .int .i64 ((rd_T33 l1_1 (ji57)).f1), .slice A213_2 ((rd_T33 l1_1 (ji57)).f2).length c213_2] 33 (0, 0))) := ⟨(by rw [hw]; exact (by (with_reducible repeat (first | refine blk_drewN ?_ _ | refine blk_drew ?_ | refine blk_alloc ?_ _)); refine blk_far ?_ NB214_223.out _; (with_reducible repeat (first | refine blk_drewN ?_ _ | refine blk_drew ?_ | refine blk_alloc ?_ _)); refine blk_far ?_ NB214_223.out _; (with_reducible repeat (first | refine blk_drewN ?_ _ | refine blk_drew ?_ | refine blk_alloc ?_ _)); refine blk_far ?_ NB214_223.out _; (with_reducible repeat (first | refine blk_drewN ?_ _ | refine blk_drew ?_ | refine blk_alloc ?_ _)); exact BK214.out))⟩; have n8_ : Aside0 (w99.heap[gb216]? = some (.cells #[.int .i64 ((rd_T33 l2_1 (ji61)).f0), .int .i64 ((rd_T33 l2_1 (ji61)).f1), .slice A215_2 ((rd_T33 l2_1 (ji61)).f2).length c215_2] 33 (0, 0))) := ⟨(by rw [hw]; exact (by (with_reducible repeat (first | refine blk_drewN ?_ _ | refine blk_drew ?_ | refine blk_alloc ?_ _)); refine blk_far ?_ NB216_223.out _; (with_reducible repeat (first | refine blk_drewN ?_ _ | refine blk_drew ?_ | refine blk_alloc ?_ _)); refine blk_far ?_ NB216_223.out _; (with_reducible repeat (first | refine blk_drewN ?_ _ | refine blk_drew ?_ | refine blk_alloc ?_ _)); refine blk_far ?_ NB216_223.out _; (with_reducible repeat (first | refine blk_drewN ?_ _ | refine blk_drew ?_ | refine blk_alloc ?_ _)); exact BK216.out))⟩; have n9_ : Aside0 (w99.heap[gb223]? = some (.cells #[.int .i64 t217, .int .i64 t218, .slice Ao98 t219.length co98] 33 (0, 0))) := ⟨(by rw [hw]; exact (by (with_reducible repeat (first | refine blk_drewN ?_ _ | refine blk_drew ?_ | refine blk_alloc ?_ _)); refine blk_put (cs := #[.int .i64 t217, .int .i64 t218, .slice none 0 0]) ?_ 2 _ rfl; (with_reducible repeat (first | refine blk_drewN ?_ _ | refine blk_drew ?_ | refine blk_alloc ?_ _)); refine blk_put (cs := #[.int .i64 t217, .int .i64 0, .slice none 0 0]) ?_ 1 _ rfl; (with_reducible repeat (first | refine blk_drewN ?_ _ | refine blk_drew ?_ | refine blk_alloc ?_ _)); refine blk_put (cs := #[.int .i64 0, .int .i64 0, .slice none 0 0]) ?_ 0 _ rfl; (with_reducible repeat (first | refine blk_drewN ?_ _ | refine blk_drew ?_ | refine blk_alloc ?_ _)); exact BK223.out))⟩; have n10_ : Aside0 (Below w.heap.size w w99) := ⟨(by rw [hw]; exact (by repeat (first | (with_reducible first | exact HB.out | apply below_alloc | apply pw_below_drewN | apply below_drew1 | refine below_set ?_ GE198.out | refine below_set ?_ GE199.out | refine below_set ?_ GE200.out | refine below_set ?_ GE209.out | refine below_set ?_ GE214.out | refine below_set ?_ GE216.out | refine below_set ?_ GE223.out) | exact HB.out)))⟩; clear hw; clear HO_210000; clear HO_210001; clear HO221; clear BK198; clear BK199; clear BK200; clear BK209; clear BK214; clear BK216; clear BK223; clear HB; have HO_210000 := n0_; have HO_210001 := n1_; have HO221 := n2_; have BK198 := n3_; have BK199 := n4_; have BK200 := n5_; have BK209 := n6_; have BK214 := n7_; have BK216 := n8_; have BK223 := n9_; have HB := n10_; clear n0_ n1_ n2_ n3_ n4_ n5_ n6_ n7_ n8_ n9_ n10_; have hnb100 := NB209_198.out; have hnc100 := NB198_209.out; have hnb101 := NB209_199.out; have hnc101 := NB199_209.out; have hnb102 := NB209_200.out; have hnc102 := NB200_209.out; have hcz103_0 : w99.cell? ⟨gb209, 0, none⟩ = some (.slice Ao53 y210.length co53) := (blk_cell BK209.out 0).trans rfl; have hcz103_1 : w99.cell? ⟨gb209, 1, none⟩ = some (u210001) := (blk_cell BK209.out 1).trans rfl; have hfz103_0 := blk_frozen BK209.out 0; have hfz103_1 := blk_frozen BK209.out 1; have hcz104_0 : w99.cell? ⟨gb223, 0, none⟩ = some (.int .i64 t217) := (blk_cell BK223.out 0).trans rfl; have hcz104_1 : w99.cell? ⟨gb223, 1, none⟩ = some (.int .i64 t218) := (blk_cell BK223.out 1).trans rfl; have hcz104_2 : w99.cell? ⟨gb223, 2, none⟩ = some (.slice Ao98 t219.length co98) := (blk_cell BK223.out 2).trans rfl; have hfz104_0 := blk_frozen BK223.out 0; have hfz104_1 := blk_frozen BK223.out 1; have hfz104_2 := blk_frozen BK223.out 2) | ((with_reducible refine gate_builtin (b := .append) (xs := #[.tmp 100, .tmp 102]) rfl ?_); at_builtin; refine Kd.R_append k33 (w0 := w) w.heap.size rfl (.tmp 100) (.tmp 102) 23 33 (.agg #[(.int .i64 0), (.int .i64 0), (.slice none 0 0)]) 40 rfl Try.underlying23 info33 rfl (by decide) (by omega) u210001 x210001_2 (⟨t217, t218, t219⟩ : S33) [.int .i64 t217, .int .i64 t218, .slice Ao98 t219.length co98] (fun k_ => some k_ ≠ (.slice Ao53 y210.length co53 : Value).ownBlock ∧ k_ ≠ gb198 ∧ k_ ≠ gb199 ∧ k_ ≠ gb200 ∧ k_ ≠ gb209 ∧ k_ ≠ gb214 ∧ k_ ≠ gb216 ∧ k_ ≠ gb223) (fun k_ => ((fun k_ => some k_ ≠ (.slice Ao53 y210.length co53 : Value).ownBlock ∧ k_ ≠ gb198 ∧ k_ ≠ gb199 ∧ k_ ≠ gb200 ∧ k_ ≠ gb209 ∧ k_ ≠ gb214 ∧ k_ ≠ gb216 ∧ k_ ≠ gb223)) k_ ∧ some k_ ≠ (u210001 : Value).ownBlock) rfl rfl ?aP (fun _ hk => hk) ?aF ?aO ?aB ?aS ?aL ?_; (case aP => exact k33_mkM _ _ _ (⟨t217, t218, t219⟩ : S33) (Kd.R_mono (HO221.out) (fun k_ hk => ⟨⟨hk.1, ⟨hk.2.2.1, ⟨hk.2.2.2.1, ⟨hk.2.2.2.2.1, ⟨hk.2.2.2.2.2.1, ⟨hk.2.2.2.2.2.2.1, ⟨hk.2.2.2.2.2.2.2.1, hk.2.2.2.2.2.2.2.2⟩⟩⟩⟩⟩⟩⟩, hk.2.1⟩))); (case aB => exact (by repeat (first | (with_reducible first | exact HB.out | apply below_alloc | apply pw_below_drewN | apply below_drew1 | refine below_set ?_ GE198.out | refine below_set ?_ GE199.out | refine below_set ?_ GE200.out | refine below_set ?_ GE209.out | refine below_set ?_ GE214.out | refine below_set ?_ GE216.out | refine below_set ?_ GE223.out) | exact HB.out))); (case aF => exact (fun k_ hk => ⟨Kd.fresh' (Kd.R_lt (by (with_reducible repeat (first | apply Kd.R_alloc | apply Kd.R_drewN | apply Kd.R_drew)); exact HO_210000.out)) k_ hk, Kd.freshB (g := gb198) (o := .cells #[.slice A1_0 l1_0.length c1_0, .slice (some ad213) l1_1.length c1_1] 25 (0, 0)) (by (with_reducible repeat (first | refine blk_drewN ?_ _ | refine blk_drew ?_ | refine blk_alloc ?_ _)); exact BK198.out) k_ hk, Kd.freshB (g := gb199) (o := .cells #[.slice A2_0 l2_0.length c2_0, .slice (some ad215) l2_1.length c2_1] 25 (0, 0)) (by (with_reducible repeat (first | refine blk_drewN ?_ _ | refine blk_drew ?_ | refine blk_alloc ?_ _)); exact BK199.out) k_ hk, Kd.freshB (g := gb200) (o := .cells #[.slice none 0 0, .slice none 0 0] 25 (0, 0)) (by (with_reducible repeat (first | refine blk_drewN ?_ _ | refine blk_drew ?_ | refine blk_alloc ?_ _)); exact BK200.out) k_ hk, Kd.freshB (g := gb209) (o := .cells #[.slice Ao53 y210.length co53, u210001] 25 (0, 0)) (by (with_reducible repeat (first | refine blk_drewN ?_ _ | refine blk_drew ?_ | refine blk_alloc ?_ _)); exact BK209.out) k_ hk, Kd.freshB (g := gb214) (o := .cells #[.int .i64 ((rd_T33 l1_1 (ji57)).f0), .int .i64 ((rd_T33 l1_1 (ji57)).f1), .slice A213_2 ((rd_T33 l1_1 (ji57)).f2).length c213_2] 33 (0, 0)) (by (with_reducible repeat (first | refine blk_drewN ?_ _ | refine blk_drew ?_ | refine blk_alloc ?_ _)); exact BK214.out) k_ hk, Kd.freshB (g := gb216) (o := .cells #[.int .i64 ((rd_T33 l2_1 (ji61)).f0), .int .i64 ((rd_T33 l2_1 (ji61)).f1), .slice A215_2 ((rd_T33 l2_1 (ji61)).f2).length c215_2] 33 (0, 0)) (by (with_reducible repeat (first | refine blk_drewN ?_ _ | refine blk_drew ?_ | refine blk_alloc ?_ _)); exact BK216.out) k_ hk, Kd.freshB (g := gb223) (o := .cells #[.int .i64 t217, .int .i64 t218, .slice Ao98 t219.length co98] 33 (0, 0)) (by (with_reducible repeat (first | refine blk_drewN ?_ _ | refine blk_drew ?_ | refine blk_alloc ?_ _)); exact BK223.out) k_ hk⟩)); (case aO => exact (by (with_reducible repeat (first | apply Kd.R_alloc | apply Kd.R_drewN | apply Kd.R_drew)); exact Kd.R_mono HO_210001.out (fun _ hk => ⟨hk.1, ⟨hk.2.2.1, ⟨hk.2.2.2.1, ⟨hk.2.2.2.2.1, ⟨hk.2.2.2.2.2.1, ⟨hk.2.2.2.2.2.2.1, ⟨hk.2.2.2.2.2.2.2.1, hk.2.2.2.2.2.2.2.2⟩⟩⟩⟩⟩⟩⟩))); (case aS => exact (below_size (by repeat (first | (with_reducible first | exact HB.out | apply below_alloc | apply pw_below_drewN | apply below_drew1 | refine below_set ?_ GE198.out | refine below_set ?_ GE199.out | refine below_set ?_ GE200.out | refine below_set ?_ GE209.out | refine below_set ?_ GE214.out | refine below_set ?_ GE216.out | refine below_set ?_ GE223.out) | exact HB.out)))); (case aL => have := LMc66.out; omega); intro v225 w105 ho hb hg hat; rw [← Ny224.out] at ho; have n0_ := Aside0.mk (Kd.R_over' (by (with_reducible repeat (first | apply Kd.R_alloc | apply Kd.R_drewN | apply Kd.R_drew)); exact HO_210000.out) (Kd.R_typed (by (with_reducible repeat (first | apply Kd.R_alloc | apply Kd.R_drewN | apply Kd.R_drew)); exact HO_210001.out)) (by decide) hg); have n1_ := Aside0.mk (blk_grown (g := gb198) (o := .cells #[.slice A1_0 l1_0.length c1_0, .slice (some ad213) l1_1.length c1_1] 25 (0, 0)) (by (with_reducible repeat (first | refine blk_drewN ?_ _ | refine blk_drew ?_ | refine blk_alloc ?_ _)); exact BK198.out) hg (Kd.R_ne HO_210001.out BK198.out (by decide))); have n2_ := Aside0.mk (blk_grown (g := gb199) (o := .cells #[.slice A2_0 l2_0.length c2_0, .slice (some ad215) l2_1.length c2_1] 25 (0, 0)) (by (with_reducible repeat (first | refine blk_drewN ?_ _ | refine blk_drew ?_ | refine blk_alloc ?_ _)); exact BK199.out) hg (Kd.R_ne HO_210001.out BK199.out (by decide))); have n3_ := Aside0.mk (blk_grown (g := gb200) (o := .cells #[.slice none 0 0, .slice none 0 0] 25 (0, 0)) (by (with_reducible repeat (first | refine blk_drewN ?_ _ | refine blk_drew ?_ | refine blk_alloc ?_ _)); exact BK200.out) hg (Kd.R_ne HO_210001.out BK200.out (by decide))); have n4_ := Aside0.mk (blk_grown (g := gb209) (o := .cells #[.slice Ao53 y210.length co53, u210001] 25 (0, 0)) (by (with_reducible repeat (first | refine blk_drewN ?_ _ | refine blk_drew ?_ | refine blk_alloc ?_ _)); exact BK209.out) hg (Kd.R_ne HO_210001.out BK209.out (by decide))); have n5_ := Aside0.mk (blk_grown (g := gb214) (o := .cells #[.int .i64 ((rd_T33 l1_1 (ji57)).f0), .int .i64 ((rd_T33 l1_1 (ji57)).f1), .slice A213_2 ((rd_T33 l1_1 (ji57)).f2).length c213_2] 33 (0, 0)) (by (with_reducible repeat (first | refine blk_drewN ?_ _ | refine blk_drew ?_ | refine blk_alloc ?_ _)); exact BK214.out) hg (Kd.R_away HO_210001.out (fun _ hk => hk.2.2.2.2.2.2.1))); have n6_ := Aside0.mk (blk_grown (g := gb216) (o := .cells #[.int .i64 ((rd_T33 l2_1 (ji61)).f0), .int .i64 ((rd_T33 l2_1 (ji61)).f1), .slice A215_2 ((rd_T33 l2_1 (ji61)).f2).length c215_2] 33 (0, 0)) (by (with_reducible repeat (first | refine blk_drewN ?_ _ | refine blk_drew ?_ | refine blk_alloc ?_ _)); exact BK216.out) hg (Kd.R_away HO_210001.out (fun _ hk => hk.2.2.2.2.2.2.2.1))); have n7_ := Aside0.mk (blk_grown (g := gb223) (o := .cells #[.int .i64 t217, .int .i64 t218, .slice Ao98 t219.length co98] 33 (0, 0)) (by (with_reducible repeat (first | refine blk_drewN ?_ _ | refine blk_drew ?_ | refine blk_alloc ?_ _)); exact BK223.out) hg (Kd.R_away HO_210001.out (fun _ hk => hk.2.2.2.2.2.2.2.2))); have n8_ := Aside0.mk (hb); have n9_ := Aside0.mk (ho); clear HO_210000; clear BK198; clear BK199; clear BK200; clear BK209; clear BK214; clear BK216; clear BK223; clear HB; clear HO_210001; clear HO221; have HO_210000 := n0_; have BK198 := n1_; have BK199 := n2_; have BK200 := n3_; have BK209 := n4_; have BK214 := n5_; have BK216 := n6_; have BK223 := n7_; have HB := n8_; have HO226 := n9_; clear n0_ n1_ n2_ n3_ n4_ n5_ n6_ n7_ n8_ n9_; clear ho hb hg hat; obtain ⟨Ao106, co106, eo106⟩ := Kd.R_slice HO226.out; subst eo106; have hcz107_0 : w105.cell? ⟨gb209, 0, none⟩ = some (.slice Ao53 y210.length co53) := (blk_cell BK209.out 0).trans rfl; have hcz107_1 : w105.cell? ⟨gb209, 1, none⟩ = some (u210001) := (blk_cell BK209.out 1).trans rfl; have hfz107_0 := blk_frozen BK209.out 0; have hfz107_1 := blk_frozen BK209.out 1))
                    go_roundg k2
                    case measure => have := HJ19.out;have := HK2.out;omega
                    case rel => exact ⟨(wrap64 (x15_2 + 1)), (y224), (.slice Ao106 y224.length co106), (by first|rfl|(simp;done)|(simp [*];done)), H', ⟨by have := HJ19.out;have := HK2.out;omega⟩, ⟨by (with_reducible repeat (first|apply Kd.R_alloc|apply Kd.R_drewN|apply Kd.R_drew));exact Kd.R_mono (Kd.R_far (p := ⟨gb209, 1, none⟩) (Kd.R_types HO_210000.out BK209.out (by decide)) (fun _ hk => hk.2) (.slice Ao106 y224.length co106)) (fun _ hk => trivial)⟩, ⟨by (with_reducible repeat (first|apply Kd.R_alloc|apply Kd.R_drewN|apply Kd.R_drew));exact Kd.R_mono (Kd.R_far (p := ⟨gb209, 1, none⟩) (Kd.R_mono HO226.out (fun k_ hk => (⟨hk, hk.2.2.2.2.1⟩ : _ ∧ k_ ≠ gb209))) (fun _ hk => hk.2) (.slice Ao106 y224.length co106)) (fun _ hk => ⟨hk.1.1, ⟨hk.1.2.1, ⟨hk.1.2.2.1, ⟨hk.1.2.2.2.1, hk.1.2.2.2.2.1⟩⟩⟩⟩)⟩, ⟨by (with_reducible repeat (first|refine blk_drewN ?_ _|refine blk_drew ?_|refine blk_alloc ?_ _));refine blk_far ?_ NB198_209.out _;(with_reducible repeat (first|refine blk_drewN ?_ _|refine blk_drew ?_|refine blk_alloc ?_ _));exact BK198.out⟩, ⟨by (with_reducible repeat (first|refine blk_drewN ?_ _|refine blk_drew ?_|refine blk_alloc ?_ _));refine blk_far ?_ NB199_209.out _;(with_reducible repeat (first|refine blk_drewN ?_ _|refine blk_drew ?_|refine blk_alloc ?_ _));exact BK199.out⟩, ⟨by (with_reducible repeat (first|refine blk_drewN ?_ _|refine blk_drew ?_|refine blk_alloc ?_ _));refine blk_far ?_ NB200_209.out _;(with_reducible repeat (first|refine blk_drewN ?_ _|refine blk_drew ?_|refine blk_alloc ?_ _));exact BK200.out⟩, ⟨by (with_reducible repeat (first|refine blk_drewN ?_ _|refine blk_drew ?_|refine blk_alloc ?_ _));refine blk_put (cs := #[.slice Ao53 y210.length co53, u210001]) ?_ 1 _ rfl;(with_reducible repeat (first|refine blk_drewN ?_ _|refine blk_drew ?_|refine blk_alloc ?_ _));exact BK209.out⟩, ⟨by repeat (first|(with_reducible first|exact HB.out|apply below_alloc|apply pw_below_drewN|apply below_drew1|refine below_set ?_ GE198.out|refine below_set ?_ GE199.out|refine below_set ?_ GE200.out|refine below_set ?_ GE209.out|refine below_set ?_ GE214.out|refine below_set ?_ GE216.out|refine below_set ?_ GE223.out)|exact HB.out)⟩⟩
                   ·rw [if_neg c66] at H
                    exact absurd H (by simp)
                  ·rw [if_neg c65] at H
                   have c65b0 : (t222 == 0) = false := beq_eq_false_iff_ne.mpr c65
                   have c65b1 : (t222 != 0) = true := bne_iff_ne.mpr c65
                   simp only [Option.some.injEq, Prod.mk.injEq] at H
                   obtain ⟨rfl, rfl, rfl⟩ := H
                   try go_wp2
                   have n0_ := Aside0.mk (Kd.R_drew HO_210000.out)
                   have n1_ := Aside0.mk (Kd.R_drew HO_210001.out)
                   have n2_ := Aside0.mk (blk_drew BK198.out)
                   have n3_ := Aside0.mk (blk_drew BK199.out)
                   have n4_ := Aside0.mk (blk_drew BK200.out)
                   have n5_ := Aside0.mk (blk_drew BK209.out)
                   have n6_ := Aside0.mk (below_drew1 HB.out)
                   clear HO_210000
                   clear HO_210001
                   clear BK198
                   clear BK199
                   clear BK200
                   clear BK209
                   clear HB
                   have HO_210000 := n0_
                   have HO_210001 := n1_
                   have BK198 := n2_
                   have BK199 := n3_
                   have BK200 := n4_
                   have BK209 := n5_
                   have HB := n6_
                   clear n0_ n1_ n2_ n3_ n4_ n5_ n6_
                   have p213 : 0 ≤ ((ji57) : Int) := of_decide_eq_true (by first|(with_reducible assumption)|assumption)
                   have q213 : (ji57) < (l1_1.length : Int) := of_decide_eq_true (by first|(with_reducible assumption)|assumption)
                   obtain ⟨ad213, A213_2, c213_2, e213, hx213_0, hx213_1, hx213_2, hl213_2, hi213_2⟩ := at_T33 HR1_1.out (ji57) p213 q213
                   have hw213_2 := hx213_2
                   have hw213_1 := hx213_1
                   have hw213_0 := hx213_0
                   cases e213
                   replace hx213_0 := (HB.out.cell (World.block_lt_of_cell? w _ hx213_0)).trans hx213_0
                   replace hx213_1 := (HB.out.cell (World.block_lt_of_cell? w _ hx213_1)).trans hx213_1
                   replace hx213_2 := (HB.out.cell (World.block_lt_of_cell? w _ hx213_2)).trans hx213_2
                   have HR213_2 := Aside0.mk hi213_2
                   have HC213_2 := Aside0.mk hl213_2
                   clear hi213_2 hl213_2
                   replace p213 := eq_true p213
                   replace q213 := eq_true q213
                   refine start_ (n := 11) (S := fun w' => w'.cell? ⟨gb198, 0, none⟩ = some (.slice A1_0 l1_0.length c1_0) ∧ w'.cell? ⟨gb198, 1, none⟩ = some (.slice (some ad213) l1_1.length c1_1) ∧ w'.cell? (ad213.add (((ji57)).toNat * 3)) = some (.int .i64 ((rd_T33 l1_1 (ji57)).f0)) ∧ w'.cell? ⟨(ad213.add (((ji57)).toNat * 3)).block, (ad213.add (((ji57)).toNat * 3)).off + 1, none⟩ = some (.int .i64 ((rd_T33 l1_1 (ji57)).f1)) ∧ w'.cell? ⟨(ad213.add (((ji57)).toNat * 3)).block, (ad213.add (((ji57)).toNat * 3)).off + 2, none⟩ = some (.slice A213_2 ((rd_T33 l1_1 (ji57)).f2).length c213_2)) (ds := []) #[false, false, false, false, false, false, false, false, false, false, false] (by kernel_rfl) rfl rfl ⟨(blk_cell BK198.out 0).trans rfl, (blk_cell BK198.out 1).trans rfl, ((HB.out.cell (World.block_lt_of_cell? w _ hw213_0)).trans hw213_0), ((HB.out.cell (World.block_lt_of_cell? w _ hw213_1)).trans hw213_1), ((HB.out.cell (World.block_lt_of_cell? w _ hw213_2)).trans hw213_2)⟩ (fun hHeld => ?_);refine with_tabW triglyphref04_Dy.tab20 triglyphref04_Dy.bits20 (fun HT_ HW_ => ?_)
                   generalize wr.drew = w108 at HO_210000 HO_210001 BK198 BK199 BK200 BK209 HB HR213_2 hx213_0 hx213_1 hx213_2 hHeld ⊢
                   refine pure_ (i := 0) (N := some 70) (v := ?_) (a' := ?_) #[true, false, false, false, false, false, false, false, false, false, false] rfl rfl (any_of HT_.out (by kernel_rfl)) (fun _ _ _ h => h) (Or.inl ⟨by rfl, ?_⟩) ?_ ?_
                   rotate_left
                   ·intro w'
                    go_simp
                    with_reducible rfl
                   rotate_left
                   ·simp only [Act.put, List.setIfInBounds_toArray, List.set_cons_zero, List.set_cons_succ, i64_w, i32_w]
                    rfl
                   refine pure_ (i := 2) (N := some 72) (v := ?_) (a' := ?_) #[true, false, true, false, false, false, false, false, false, false, false] rfl rfl (any_of HT_.out (by kernel_rfl)) (fun _ _ _ h => h) (Or.inl ⟨by rfl, ?_⟩) ?_ ?_
                   rotate_left
                   ·intro w'
                    go_simp
                    with_reducible rfl
                   rotate_left
                   ·simp only [Act.put, List.setIfInBounds_toArray, List.set_cons_zero, List.set_cons_succ, i64_w, i32_w]
                    rfl
                   refine pure_ (i := 3) (N := some 73) (v := ?_) (a' := ?_) #[true, false, true, true, false, false, false, false, false, false, false] rfl rfl (any_of HT_.out (by kernel_rfl)) (fun _ _ _ h => h) (Or.inl ⟨by rfl, ?_⟩) ?_ ?_
                   rotate_left
                   ·intro w'
                    go_simp
                    with_reducible rfl
                   rotate_left
                   ·simp only [Act.put, List.setIfInBounds_toArray, List.set_cons_zero, List.set_cons_succ, i64_w, i32_w]
                    rfl
                   refine take_ (i := 1) (N := some 71) (v := ?_) (a' := ?_) #[true, true, true, true, false, false, false, false, false, false, false] rfl rfl (take_ofW HT_.out HW_.out (by kernel_rfl)) (fun _ _ _ h => h) (Or.inl ⟨by rfl, ?_⟩) hHeld ?_ ?_
                   rotate_left
                   ·rintro w' ⟨s0, s1, s2, s3, s4⟩
                    go_simp
                    with_reducible rfl
                   rotate_left
                   ·simp only [Act.put, List.setIfInBounds_toArray, List.set_cons_zero, List.set_cons_succ, i64_w, i32_w]
                    rfl
                   refine take_ (i := 4) (N := some 74) (v := ?_) (a' := ?_) #[true, true, true, true, true, false, false, false, false, false, false] rfl rfl (take_ofW HT_.out HW_.out (by kernel_rfl)) (fun _ _ _ h => h) (Or.inl ⟨by rfl, ?_⟩) hHeld ?_ ?_
                   rotate_left
                   ·rintro w' ⟨s0, s1, s2, s3, s4⟩
                    go_simp
                    with_reducible rfl
                   rotate_left
                   ·simp only [Act.put, List.setIfInBounds_toArray, List.set_cons_zero, List.set_cons_succ, i64_w, i32_w]
                    rfl
                   refine pure_ (i := 5) (N := some 75) (v := ?_) (a' := ?_) #[true, true, true, true, true, true, false, false, false, false, false] rfl rfl (any_of HT_.out (by kernel_rfl)) (fun _ _ _ h => h) (Or.inl ⟨by rfl, ?_⟩) ?_ ?_
                   rotate_left
                   ·intro w'
                    go_simp
                    with_reducible rfl
                   rotate_left
                   ·simp only [Act.put, List.setIfInBounds_toArray, List.set_cons_zero, List.set_cons_succ, i64_w, i32_w]
                    rfl
                   refine pure_ (i := 6) (N := some 76) (v := ?_) (a' := ?_) #[true, true, true, true, true, true, true, false, false, false, false] rfl rfl (any_of HT_.out (by kernel_rfl)) (fun _ _ _ h => h) (Or.inl ⟨by rfl, ?_⟩) ?_ ?_
                   rotate_left
                   ·intro w'
                    go_simp
                    with_reducible rfl
                   rotate_left
                   ·simp only [Act.put, List.setIfInBounds_toArray, List.set_cons_zero, List.set_cons_succ, i64_w, i32_w]
                    rfl
                   refine pure_ (i := 7) (N := some 77) (v := ?_) (a' := ?_) #[true, true, true, true, true, true, true, true, false, false, false] rfl rfl (any_of HT_.out (by kernel_rfl)) (fun _ _ _ h => h) (Or.inl ⟨by rfl, ?_⟩) ?_ ?_
                   rotate_left
                   ·intro w'
                    go_simp
                    with_reducible rfl
                   rotate_left
                   ·simp only [Act.put, List.setIfInBounds_toArray, List.set_cons_zero, List.set_cons_succ, i64_w, i32_w]
                    rfl
                   refine take_ (i := 8) (N := some 78) (v := ?_) (a' := ?_) #[true, true, true, true, true, true, true, true, true, false, false] rfl rfl (take_ofW HT_.out HW_.out (by kernel_rfl)) (fun _ _ _ h => h) (Or.inl ⟨by rfl, ?_⟩) hHeld ?_ ?_
                   rotate_left
                   ·rintro w' ⟨s0, s1, s2, s3, s4⟩
                    go_simp
                    with_reducible rfl
                   rotate_left
                   ·simp only [Act.put, List.setIfInBounds_toArray, List.set_cons_zero, List.set_cons_succ, i64_w, i32_w]
                    rfl
                   refine one_ (i := 9) (N := some 16) #[true, true, true, true, true, true, true, true, true, true, false] rfl rfl (one_of HT_.out (by kernel_rfl)) (by decide) (fun K hK => ?_)
                   refine box_step ?hg (N := 16) ?hd (cs := #[.int .i64 0, .int .i64 0, .slice none 0 0]) (t := 33) ?hr ?_;(case hd => rfl);(case hg => rfl);(case hr => first|(go_simp;done)|(go_simp;rfl))
                   intro gb214 hg w109 hbox hb
                   have n0_ := Aside0.mk (Kd.R_below (by (with_reducible repeat (first|apply Kd.R_alloc|apply Kd.R_drewN|apply Kd.R_drew));exact HO_210000.out) hb)
                   have n1_ := Aside0.mk (Kd.R_below (Kd.R_elderB (by (with_reducible repeat (first|apply Kd.R_alloc|apply Kd.R_drewN|apply Kd.R_drew));exact HO_210001.out) gb214 (Nat.le_of_eq hg.symm)) hb)
                   have n2_ := Aside0.mk (blk_below (g := gb198) (o := .cells #[.slice A1_0 l1_0.length c1_0, .slice (some ad213) l1_1.length c1_1] 25 (0, 0)) (by (with_reducible repeat (first|refine blk_drewN ?_ _|refine blk_drew ?_|refine blk_alloc ?_ _));exact BK198.out) hb)
                   have n3_ := Aside0.mk (blk_below (g := gb199) (o := .cells #[.slice A2_0 l2_0.length c2_0, .slice A2_1 l2_1.length c2_1] 25 (0, 0)) (by (with_reducible repeat (first|refine blk_drewN ?_ _|refine blk_drew ?_|refine blk_alloc ?_ _));exact BK199.out) hb)
                   have n4_ := Aside0.mk (blk_below (g := gb200) (o := .cells #[.slice none 0 0, .slice none 0 0] 25 (0, 0)) (by (with_reducible repeat (first|refine blk_drewN ?_ _|refine blk_drew ?_|refine blk_alloc ?_ _));exact BK200.out) hb)
                   have n5_ := Aside0.mk (blk_below (g := gb209) (o := .cells #[.slice Ao53 y210.length co53, u210001] 25 (0, 0)) (by (with_reducible repeat (first|refine blk_drewN ?_ _|refine blk_drew ?_|refine blk_alloc ?_ _));exact BK209.out) hb)
                   have n6_ := Aside0.mk (below_step (by repeat (first|(with_reducible first|exact HB.out|apply below_alloc|apply pw_below_drewN|apply below_drew1|refine below_set ?_ GE198.out|refine below_set ?_ GE199.out|refine below_set ?_ GE200.out|refine below_set ?_ GE209.out)|exact HB.out)) hb)
                   have n7_ := Aside0.mk (hbox)
                   have n8_ := Aside0.mk ((by rw [hg];exact (below_size (by repeat (first|(with_reducible first|exact HB.out|apply below_alloc|apply pw_below_drewN|apply below_drew1|refine below_set ?_ GE198.out|refine below_set ?_ GE199.out|refine below_set ?_ GE200.out|refine below_set ?_ GE209.out)|exact HB.out))) : w.heap.size ≤ gb214))
                   have n9_ := Aside0.mk ((by rw [hg];exact (below_size (by repeat (first|(with_reducible first|exact HB.out|apply below_alloc|apply pw_below_drewN|apply below_drew1|refine below_set ?_ GE198.out|refine below_set ?_ GE199.out|refine below_set ?_ GE200.out|refine below_set ?_ GE209.out)|exact HB.out))) : w.heap.size ≤ gb214))
                   have n10_ := Aside0.mk ((by rw [hg];exact Nat.ne_of_lt (blk_lt (g := gb198) (o := .cells #[.slice A1_0 l1_0.length c1_0, .slice (some ad213) l1_1.length c1_1] 25 (0, 0)) (by (with_reducible repeat (first|refine blk_drewN ?_ _|refine blk_drew ?_|refine blk_alloc ?_ _));exact BK198.out)) : gb198 ≠ gb214))
                   have n11_ := Aside0.mk ((by rw [hg];exact Nat.ne_of_gt (blk_lt (g := gb198) (o := .cells #[.slice A1_0 l1_0.length c1_0, .slice (some ad213) l1_1.length c1_1] 25 (0, 0)) (by (with_reducible repeat (first|refine blk_drewN ?_ _|refine blk_drew ?_|refine blk_alloc ?_ _));exact BK198.out)) : gb214 ≠ gb198))
                   have n12_ := Aside0.mk ((by rw [hg];exact Nat.ne_of_lt (blk_lt (g := gb199) (o := .cells #[.slice A2_0 l2_0.length c2_0, .slice A2_1 l2_1.length c2_1] 25 (0, 0)) (by (with_reducible repeat (first|refine blk_drewN ?_ _|refine blk_drew ?_|refine blk_alloc ?_ _));exact BK199.out)) : gb199 ≠ gb214))
                   have n13_ := Aside0.mk ((by rw [hg];exact Nat.ne_of_gt (blk_lt (g := gb199) (o := .cells #[.slice A2_0 l2_0.length c2_0, .slice A2_1 l2_1.length c2_1] 25 (0, 0)) (by (with_reducible repeat (first|refine blk_drewN ?_ _|refine blk_drew ?_|refine blk_alloc ?_ _));exact BK199.out)) : gb214 ≠ gb199))
                   have n14_ := Aside0.mk ((by rw [hg];exact Nat.ne_of_lt (blk_lt (g := gb200) (o := .cells #[.slice none 0 0, .slice none 0 0] 25 (0, 0)) (by (with_reducible repeat (first|refine blk_drewN ?_ _|refine blk_drew ?_|refine blk_alloc ?_ _));exact BK200.out)) : gb200 ≠ gb214))
                   have n15_ := Aside0.mk ((by rw [hg];exact Nat.ne_of_gt (blk_lt (g := gb200) (o := .cells #[.slice none 0 0, .slice none 0 0] 25 (0, 0)) (by (with_reducible repeat (first|refine blk_drewN ?_ _|refine blk_drew ?_|refine blk_alloc ?_ _));exact BK200.out)) : gb214 ≠ gb200))
                   have n16_ := Aside0.mk ((by rw [hg];exact Nat.ne_of_lt (blk_lt (g := gb209) (o := .cells #[.slice Ao53 y210.length co53, u210001] 25 (0, 0)) (by (with_reducible repeat (first|refine blk_drewN ?_ _|refine blk_drew ?_|refine blk_alloc ?_ _));exact BK209.out)) : gb209 ≠ gb214))
                   have n17_ := Aside0.mk ((by rw [hg];exact Nat.ne_of_gt (blk_lt (g := gb209) (o := .cells #[.slice Ao53 y210.length co53, u210001] 25 (0, 0)) (by (with_reducible repeat (first|refine blk_drewN ?_ _|refine blk_drew ?_|refine blk_alloc ?_ _));exact BK209.out)) : gb214 ≠ gb209))
                   clear HO_210000
                   clear HO_210001
                   clear BK198
                   clear BK199
                   clear BK200
                   clear BK209
                   clear HB
                   have HO_210000 := n0_
                   have HO_210001 := n1_
                   have BK198 := n2_
                   have BK199 := n3_
                   have BK200 := n4_
                   have BK209 := n5_
                   have HB := n6_
                   have BK214 := n7_
                   have GW214 := n8_
                   have GE214 := n9_
                   have NB198_214 := n10_
                   have NB214_198 := n11_
                   have NB199_214 := n12_
                   have NB214_199 := n13_
                   have NB200_214 := n14_
                   have NB214_200 := n15_
                   have NB209_214 := n16_
                   have NB214_209 := n17_
                   clear n0_ n1_ n2_ n3_ n4_ n5_ n6_ n7_ n8_ n9_ n10_ n11_ n12_ n13_ n14_ n15_ n16_ n17_
                   clear hb hbox hg
                   refine hK.out _ _ ⟨(blk_cell BK198.out 0).trans rfl, (blk_cell BK198.out 1).trans rfl, ((HB.out.cell (World.block_lt_of_cell? w _ hw213_0)).trans hw213_0), ((HB.out.cell (World.block_lt_of_cell? w _ hw213_1)).trans hw213_1), ((HB.out.cell (World.block_lt_of_cell? w _ hw213_2)).trans hw213_2)⟩ (fun hHeld => ?_)
                   clear hK K
                   refine norm_ (a' := ?_) ?_ ?_
                   rotate_left
                   ·show Act.put _ (some 16) _ = _
                    simp only [Act.put, List.setIfInBounds_toArray, List.set_cons_zero, List.set_cons_succ, i64_w, i32_w]
                    rfl
                   refine one_ (i := 10) (N := none) #[true, true, true, true, true, true, true, true, true, true, true] rfl rfl (one_of HT_.out (by kernel_rfl)) (by decide) (fun K hK => ?_)
                   have hs110 : w109.cell? ⟨gb214, 0, none⟩ = some (.int .i64 0) := (blk_cell BK214.out 0).trans rfl
                   have hfs110 := blk_frozen BK214.out 0
                   have hns110_0 := NB198_214.out
                   have hns110_1 := NB199_214.out
                   have hns110_2 := NB200_214.out
                   have hns110_3 := NB209_214.out
                   have hms110_0 := NB214_198.out
                   have hms110_1 := NB214_199.out
                   have hms110_2 := NB214_200.out
                   have hms110_3 := NB214_209.out
                   have hs111 : w109.cell? ⟨gb214, 1, none⟩ = some (.int .i64 0) := (blk_cell BK214.out 1).trans rfl
                   have hfs111 := blk_frozen BK214.out 1
                   have hns111_0 := NB198_214.out
                   have hns111_1 := NB199_214.out
                   have hns111_2 := NB200_214.out
                   have hns111_3 := NB209_214.out
                   have hms111_0 := NB214_198.out
                   have hms111_1 := NB214_199.out
                   have hms111_2 := NB214_200.out
                   have hms111_3 := NB214_209.out
                   have hs112 : w109.cell? ⟨gb214, 2, none⟩ = some (.slice none 0 0) := (blk_cell BK214.out 2).trans rfl
                   have hfs112 := blk_frozen BK214.out 2
                   have hns112_0 := NB198_214.out
                   have hns112_1 := NB199_214.out
                   have hns112_2 := NB200_214.out
                   have hns112_3 := NB209_214.out
                   have hms112_0 := NB214_198.out
                   have hms112_1 := NB214_199.out
                   have hms112_2 := NB214_200.out
                   have hms112_3 := NB214_209.out
                   refine skip_ (w1 := ?_) (by rfl) rfl ?_ ?_
                   rotate_left
                   ·go_simp
                    rfl
                   refine hK.out _ _ ⟨((cell_far (p := ⟨gb214, _, none⟩) NB198_214.out _).trans (((cell_far (p := ⟨gb214, _, none⟩) NB198_214.out _).trans (((cell_far (p := ⟨gb214, _, none⟩) NB198_214.out _).trans (hHeld.1)))))), ((cell_far (p := ⟨gb214, _, none⟩) NB198_214.out _).trans (((cell_far (p := ⟨gb214, _, none⟩) NB198_214.out _).trans (((cell_far (p := ⟨gb214, _, none⟩) NB198_214.out _).trans (hHeld.2.1)))))), ((cell_far (p := ⟨gb214, _, none⟩) (by first|exact Nat.ne_of_lt (Nat.lt_of_lt_of_le (by have := World.block_lt_of_cell? _ _ hw213_0;first|rwa [add_block] at this|exact this) GW214.out)|(rw [add_block];exact Nat.ne_of_lt (Nat.lt_of_lt_of_le (by have := World.block_lt_of_cell? _ _ hw213_0;first|rwa [add_block] at this|exact this) GW214.out))|(show (Addr.add _ _).block ≠ _;rw [add_block];exact Nat.ne_of_lt (Nat.lt_of_lt_of_le (by have := World.block_lt_of_cell? _ _ hw213_0;first|rwa [add_block] at this|exact this) GW214.out))|(dsimp only;exact Nat.ne_of_lt (Nat.lt_of_lt_of_le (by have := World.block_lt_of_cell? _ _ hw213_0;first|rwa [add_block] at this|exact this) GW214.out))) _).trans (((cell_far (p := ⟨gb214, _, none⟩) (by first|exact Nat.ne_of_lt (Nat.lt_of_lt_of_le (by have := World.block_lt_of_cell? _ _ hw213_0;first|rwa [add_block] at this|exact this) GW214.out)|(rw [add_block];exact Nat.ne_of_lt (Nat.lt_of_lt_of_le (by have := World.block_lt_of_cell? _ _ hw213_0;first|rwa [add_block] at this|exact this) GW214.out))|(show (Addr.add _ _).block ≠ _;rw [add_block];exact Nat.ne_of_lt (Nat.lt_of_lt_of_le (by have := World.block_lt_of_cell? _ _ hw213_0;first|rwa [add_block] at this|exact this) GW214.out))|(dsimp only;exact Nat.ne_of_lt (Nat.lt_of_lt_of_le (by have := World.block_lt_of_cell? _ _ hw213_0;first|rwa [add_block] at this|exact this) GW214.out))) _).trans (((cell_far (p := ⟨gb214, _, none⟩) (by first|exact Nat.ne_of_lt (Nat.lt_of_lt_of_le (by have := World.block_lt_of_cell? _ _ hw213_0;first|rwa [add_block] at this|exact this) GW214.out)|(rw [add_block];exact Nat.ne_of_lt (Nat.lt_of_lt_of_le (by have := World.block_lt_of_cell? _ _ hw213_0;first|rwa [add_block] at this|exact this) GW214.out))|(show (Addr.add _ _).block ≠ _;rw [add_block];exact Nat.ne_of_lt (Nat.lt_of_lt_of_le (by have := World.block_lt_of_cell? _ _ hw213_0;first|rwa [add_block] at this|exact this) GW214.out))|(dsimp only;exact Nat.ne_of_lt (Nat.lt_of_lt_of_le (by have := World.block_lt_of_cell? _ _ hw213_0;first|rwa [add_block] at this|exact this) GW214.out))) _).trans (hHeld.2.2.1)))))), ((cell_far (p := ⟨gb214, _, none⟩) (by first|exact Nat.ne_of_lt (Nat.lt_of_lt_of_le (by have := World.block_lt_of_cell? _ _ hw213_1;first|rwa [add_block] at this|exact this) GW214.out)|(rw [add_block];exact Nat.ne_of_lt (Nat.lt_of_lt_of_le (by have := World.block_lt_of_cell? _ _ hw213_1;first|rwa [add_block] at this|exact this) GW214.out))|(show (Addr.add _ _).block ≠ _;rw [add_block];exact Nat.ne_of_lt (Nat.lt_of_lt_of_le (by have := World.block_lt_of_cell? _ _ hw213_1;first|rwa [add_block] at this|exact this) GW214.out))|(dsimp only;exact Nat.ne_of_lt (Nat.lt_of_lt_of_le (by have := World.block_lt_of_cell? _ _ hw213_1;first|rwa [add_block] at this|exact this) GW214.out))) _).trans (((cell_far (p := ⟨gb214, _, none⟩) (by first|exact Nat.ne_of_lt (Nat.lt_of_lt_of_le (by have := World.block_lt_of_cell? _ _ hw213_1;first|rwa [add_block] at this|exact this) GW214.out)|(rw [add_block];exact Nat.ne_of_lt (Nat.lt_of_lt_of_le (by have := World.block_lt_of_cell? _ _ hw213_1;first|rwa [add_block] at this|exact this) GW214.out))|(show (Addr.add _ _).block ≠ _;rw [add_block];exact Nat.ne_of_lt (Nat.lt_of_lt_of_le (by have := World.block_lt_of_cell? _ _ hw213_1;first|rwa [add_block] at this|exact this) GW214.out))|(dsimp only;exact Nat.ne_of_lt (Nat.lt_of_lt_of_le (by have := World.block_lt_of_cell? _ _ hw213_1;first|rwa [add_block] at this|exact this) GW214.out))) _).trans (((cell_far (p := ⟨gb214, _, none⟩) (by first|exact Nat.ne_of_lt (Nat.lt_of_lt_of_le (by have := World.block_lt_of_cell? _ _ hw213_1;first|rwa [add_block] at this|exact this) GW214.out)|(rw [add_block];exact Nat.ne_of_lt (Nat.lt_of_lt_of_le (by have := World.block_lt_of_cell? _ _ hw213_1;first|rwa [add_block] at this|exact this) GW214.out))|(show (Addr.add _ _).block ≠ _;rw [add_block];exact Nat.ne_of_lt (Nat.lt_of_lt_of_le (by have := World.block_lt_of_cell? _ _ hw213_1;first|rwa [add_block] at this|exact this) GW214.out))|(dsimp only;exact Nat.ne_of_lt (Nat.lt_of_lt_of_le (by have := World.block_lt_of_cell? _ _ hw213_1;first|rwa [add_block] at this|exact this) GW214.out))) _).trans (hHeld.2.2.2.1)))))), ((cell_far (p := ⟨gb214, _, none⟩) (by first|exact Nat.ne_of_lt (Nat.lt_of_lt_of_le (by have := World.block_lt_of_cell? _ _ hw213_2;first|rwa [add_block] at this|exact this) GW214.out)|(rw [add_block];exact Nat.ne_of_lt (Nat.lt_of_lt_of_le (by have := World.block_lt_of_cell? _ _ hw213_2;first|rwa [add_block] at this|exact this) GW214.out))|(show (Addr.add _ _).block ≠ _;rw [add_block];exact Nat.ne_of_lt (Nat.lt_of_lt_of_le (by have := World.block_lt_of_cell? _ _ hw213_2;first|rwa [add_block] at this|exact this) GW214.out))|(dsimp only;exact Nat.ne_of_lt (Nat.lt_of_lt_of_le (by have := World.block_lt_of_cell? _ _ hw213_2;first|rwa [add_block] at this|exact this) GW214.out))) _).trans (((cell_far (p := ⟨gb214, _, none⟩) (by first|exact Nat.ne_of_lt (Nat.lt_of_lt_of_le (by have := World.block_lt_of_cell? _ _ hw213_2;first|rwa [add_block] at this|exact this) GW214.out)|(rw [add_block];exact Nat.ne_of_lt (Nat.lt_of_lt_of_le (by have := World.block_lt_of_cell? _ _ hw213_2;first|rwa [add_block] at this|exact this) GW214.out))|(show (Addr.add _ _).block ≠ _;rw [add_block];exact Nat.ne_of_lt (Nat.lt_of_lt_of_le (by have := World.block_lt_of_cell? _ _ hw213_2;first|rwa [add_block] at this|exact this) GW214.out))|(dsimp only;exact Nat.ne_of_lt (Nat.lt_of_lt_of_le (by have := World.block_lt_of_cell? _ _ hw213_2;first|rwa [add_block] at this|exact this) GW214.out))) _).trans (((cell_far (p := ⟨gb214, _, none⟩) (by first|exact Nat.ne_of_lt (Nat.lt_of_lt_of_le (by have := World.block_lt_of_cell? _ _ hw213_2;first|rwa [add_block] at this|exact this) GW214.out)|(rw [add_block];exact Nat.ne_of_lt (Nat.lt_of_lt_of_le (by have := World.block_lt_of_cell? _ _ hw213_2;first|rwa [add_block] at this|exact this) GW214.out))|(show (Addr.add _ _).block ≠ _;rw [add_block];exact Nat.ne_of_lt (Nat.lt_of_lt_of_le (by have := World.block_lt_of_cell? _ _ hw213_2;first|rwa [add_block] at this|exact this) GW214.out))|(dsimp only;exact Nat.ne_of_lt (Nat.lt_of_lt_of_le (by have := World.block_lt_of_cell? _ _ hw213_2;first|rwa [add_block] at this|exact this) GW214.out))) _).trans (hHeld.2.2.2.2))))))⟩ (fun hHeld => ?_)
                   clear hK K
                   refine done_ (done_of HT_.out (by kernel_rfl)) ?_
                   try go_wp2
                   have n0_ : Aside0 (Kd.R (Kd.int .i64) 3 (((w109.setCell ⟨gb214, 0, none⟩ (.int .i64 ((rd_T33 l1_1 (ji57)).f0))).setCell ⟨gb214, 1, none⟩ (.int .i64 ((rd_T33 l1_1 (ji57)).f1))).setCell ⟨gb214, 2, none⟩ (.slice A213_2 ((rd_T33 l1_1 (ji57)).f2).length c213_2)) w.heap.size (fun _ => True) (.slice Ao53 y210.length co53) y210) := ⟨by (with_reducible repeat (first|apply Kd.R_alloc|apply Kd.R_drewN|apply Kd.R_drew));exact Kd.R_mono (Kd.R_far (p := ⟨gb214, 2, none⟩) (Kd.R_far (p := ⟨gb214, 1, none⟩) (Kd.R_far (p := ⟨gb214, 0, none⟩) (Kd.R_types HO_210000.out BK214.out (by decide)) (fun _ hk => hk.2) (.int .i64 ((rd_T33 l1_1 (ji57)).f0))) (fun _ hk => hk.2) (.int .i64 ((rd_T33 l1_1 (ji57)).f1))) (fun _ hk => hk.2) (.slice A213_2 ((rd_T33 l1_1 (ji57)).f2).length c213_2)) (fun _ hk => trivial)⟩
                   have n1_ : Aside0 (Kd.R k33 33 (((w109.setCell ⟨gb214, 0, none⟩ (.int .i64 ((rd_T33 l1_1 (ji57)).f0))).setCell ⟨gb214, 1, none⟩ (.int .i64 ((rd_T33 l1_1 (ji57)).f1))).setCell ⟨gb214, 2, none⟩ (.slice A213_2 ((rd_T33 l1_1 (ji57)).f2).length c213_2)) w.heap.size (fun k_ => some k_ ≠ (.slice Ao53 y210.length co53 : Value).ownBlock ∧ k_ ≠ gb198 ∧ k_ ≠ gb199 ∧ k_ ≠ gb200 ∧ k_ ≠ gb209 ∧ k_ ≠ gb214) u210001 x210001_2) := ⟨by (with_reducible repeat (first|apply Kd.R_alloc|apply Kd.R_drewN|apply Kd.R_drew));exact Kd.R_mono (Kd.R_far (p := ⟨gb214, 2, none⟩) (Kd.R_far (p := ⟨gb214, 1, none⟩) (Kd.R_far (p := ⟨gb214, 0, none⟩) (Kd.R_mono HO_210001.out (fun k_ hk => (⟨hk, hk.2⟩ : _ ∧ k_ ≠ gb214))) (fun _ hk => hk.2) (.int .i64 ((rd_T33 l1_1 (ji57)).f0))) (fun _ hk => hk.2) (.int .i64 ((rd_T33 l1_1 (ji57)).f1))) (fun _ hk => hk.2) (.slice A213_2 ((rd_T33 l1_1 (ji57)).f2).length c213_2)) (fun _ hk => ⟨hk.1.1.1, ⟨hk.1.1.2.1, ⟨hk.1.1.2.2.1, ⟨hk.1.1.2.2.2.1, ⟨hk.1.1.2.2.2.2, hk.1.2⟩⟩⟩⟩⟩)⟩
                   have n2_ : Aside0 ((((w109.setCell ⟨gb214, 0, none⟩ (.int .i64 ((rd_T33 l1_1 (ji57)).f0))).setCell ⟨gb214, 1, none⟩ (.int .i64 ((rd_T33 l1_1 (ji57)).f1))).setCell ⟨gb214, 2, none⟩ (.slice A213_2 ((rd_T33 l1_1 (ji57)).f2).length c213_2)).heap[gb198]? = some (.cells #[.slice A1_0 l1_0.length c1_0, .slice (some ad213) l1_1.length c1_1] 25 (0, 0))) := ⟨by (with_reducible repeat (first|refine blk_drewN ?_ _|refine blk_drew ?_|refine blk_alloc ?_ _));refine blk_far ?_ NB198_214.out _;(with_reducible repeat (first|refine blk_drewN ?_ _|refine blk_drew ?_|refine blk_alloc ?_ _));refine blk_far ?_ NB198_214.out _;(with_reducible repeat (first|refine blk_drewN ?_ _|refine blk_drew ?_|refine blk_alloc ?_ _));refine blk_far ?_ NB198_214.out _;(with_reducible repeat (first|refine blk_drewN ?_ _|refine blk_drew ?_|refine blk_alloc ?_ _));exact BK198.out⟩
                   have n3_ : Aside0 ((((w109.setCell ⟨gb214, 0, none⟩ (.int .i64 ((rd_T33 l1_1 (ji57)).f0))).setCell ⟨gb214, 1, none⟩ (.int .i64 ((rd_T33 l1_1 (ji57)).f1))).setCell ⟨gb214, 2, none⟩ (.slice A213_2 ((rd_T33 l1_1 (ji57)).f2).length c213_2)).heap[gb199]? = some (.cells #[.slice A2_0 l2_0.length c2_0, .slice A2_1 l2_1.length c2_1] 25 (0, 0))) := ⟨by (with_reducible repeat (first|refine blk_drewN ?_ _|refine blk_drew ?_|refine blk_alloc ?_ _));refine blk_far ?_ NB199_214.out _;(with_reducible repeat (first|refine blk_drewN ?_ _|refine blk_drew ?_|refine blk_alloc ?_ _));refine blk_far ?_ NB199_214.out _;(with_reducible repeat (first|refine blk_drewN ?_ _|refine blk_drew ?_|refine blk_alloc ?_ _));refine blk_far ?_ NB199_214.out _;(with_reducible repeat (first|refine blk_drewN ?_ _|refine blk_drew ?_|refine blk_alloc ?_ _));exact BK199.out⟩
                   have n4_ : Aside0 ((((w109.setCell ⟨gb214, 0, none⟩ (.int .i64 ((rd_T33 l1_1 (ji57)).f0))).setCell ⟨gb214, 1, none⟩ (.int .i64 ((rd_T33 l1_1 (ji57)).f1))).setCell ⟨gb214, 2, none⟩ (.slice A213_2 ((rd_T33 l1_1 (ji57)).f2).length c213_2)).heap[gb200]? = some (.cells #[.slice none 0 0, .slice none 0 0] 25 (0, 0))) := ⟨by (with_reducible repeat (first|refine blk_drewN ?_ _|refine blk_drew ?_|refine blk_alloc ?_ _));refine blk_far ?_ NB200_214.out _;(with_reducible repeat (first|refine blk_drewN ?_ _|refine blk_drew ?_|refine blk_alloc ?_ _));refine blk_far ?_ NB200_214.out _;(with_reducible repeat (first|refine blk_drewN ?_ _|refine blk_drew ?_|refine blk_alloc ?_ _));refine blk_far ?_ NB200_214.out _;(with_reducible repeat (first|refine blk_drewN ?_ _|refine blk_drew ?_|refine blk_alloc ?_ _));exact BK200.out⟩
                   have n5_ : Aside0 ((((w109.setCell ⟨gb214, 0, none⟩ (.int .i64 ((rd_T33 l1_1 (ji57)).f0))).setCell ⟨gb214, 1, none⟩ (.int .i64 ((rd_T33 l1_1 (ji57)).f1))).setCell ⟨gb214, 2, none⟩ (.slice A213_2 ((rd_T33 l1_1 (ji57)).f2).length c213_2)).heap[gb209]? = some (.cells #[.slice Ao53 y210.length co53, u210001] 25 (0, 0))) := ⟨by (with_reducible repeat (first|refine blk_drewN ?_ _|refine blk_drew ?_|refine blk_alloc ?_ _));refine blk_far ?_ NB209_214.out _;(with_reducible repeat (first|refine blk_drewN ?_ _|refine blk_drew ?_|refine blk_alloc ?_ _));refine blk_far ?_ NB209_214.out _;(with_reducible repeat (first|refine blk_drewN ?_ _|refine blk_drew ?_|refine blk_alloc ?_ _));refine blk_far ?_ NB209_214.out _;(with_reducible repeat (first|refine blk_drewN ?_ _|refine blk_drew ?_|refine blk_alloc ?_ _));exact BK209.out⟩
                   have n6_ : Aside0 ((((w109.setCell ⟨gb214, 0, none⟩ (.int .i64 ((rd_T33 l1_1 (ji57)).f0))).setCell ⟨gb214, 1, none⟩ (.int .i64 ((rd_T33 l1_1 (ji57)).f1))).setCell ⟨gb214, 2, none⟩ (.slice A213_2 ((rd_T33 l1_1 (ji57)).f2).length c213_2)).heap[gb214]? = some (.cells #[.int .i64 ((rd_T33 l1_1 (ji57)).f0), .int .i64 ((rd_T33 l1_1 (ji57)).f1), .slice A213_2 ((rd_T33 l1_1 (ji57)).f2).length c213_2] 33 (0, 0))) := ⟨by (with_reducible repeat (first|refine blk_drewN ?_ _|refine blk_drew ?_|refine blk_alloc ?_ _));refine blk_put (cs := #[.int .i64 ((rd_T33 l1_1 (ji57)).f0), .int .i64 ((rd_T33 l1_1 (ji57)).f1), .slice none 0 0]) ?_ 2 _ rfl;(with_reducible repeat (first|refine blk_drewN ?_ _|refine blk_drew ?_|refine blk_alloc ?_ _));refine blk_put (cs := #[.int .i64 ((rd_T33 l1_1 (ji57)).f0), .int .i64 0, .slice none 0 0]) ?_ 1 _ rfl;(with_reducible repeat (first|refine blk_drewN ?_ _|refine blk_drew ?_|refine blk_alloc ?_ _));refine blk_put (cs := #[.int .i64 0, .int .i64 0, .slice none 0 0]) ?_ 0 _ rfl;(with_reducible repeat (first|refine blk_drewN ?_ _|refine blk_drew ?_|refine blk_alloc ?_ _));exact BK214.out⟩
                   have n7_ : Aside0 (Below w.heap.size w (((w109.setCell ⟨gb214, 0, none⟩ (.int .i64 ((rd_T33 l1_1 (ji57)).f0))).setCell ⟨gb214, 1, none⟩ (.int .i64 ((rd_T33 l1_1 (ji57)).f1))).setCell ⟨gb214, 2, none⟩ (.slice A213_2 ((rd_T33 l1_1 (ji57)).f2).length c213_2))) := ⟨by repeat (first|(with_reducible first|exact HB.out|apply below_alloc|apply pw_below_drewN|apply below_drew1|refine below_set ?_ GE198.out|refine below_set ?_ GE199.out|refine below_set ?_ GE200.out|refine below_set ?_ GE209.out|refine below_set ?_ GE214.out)|exact HB.out)⟩
                   (try clear HO_210000)
                   (try clear HO_210001)
                   (try clear BK198)
                   (try clear BK199)
                   (try clear BK200)
                   (try clear BK209)
                   (try clear BK214)
                   (try clear HB)
                   generalize (((w109.setCell ⟨gb214, 0, none⟩ (.int .i64 ((rd_T33 l1_1 (ji57)).f0))).setCell ⟨gb214, 1, none⟩ (.int .i64 ((rd_T33 l1_1 (ji57)).f1))).setCell ⟨gb214, 2, none⟩ (.slice A213_2 ((rd_T33 l1_1 (ji57)).f2).length c213_2)) = w113 at n0_ n1_ n2_ n3_ n4_ n5_ n6_ n7_ ⊢
                   have HO_210000 := n0_
                   have HO_210001 := n1_
                   have BK198 := n2_
                   have BK199 := n3_
                   have BK200 := n4_
                   have BK209 := n5_
                   have BK214 := n6_
                   have HB := n7_
                   clear n0_ n1_ n2_ n3_ n4_ n5_ n6_ n7_
                   have n0_ := Aside0.mk (Kd.R_drew HO_210000.out)
                   have n1_ := Aside0.mk (Kd.R_drew HO_210001.out)
                   have n2_ := Aside0.mk (blk_drew BK198.out)
                   have n3_ := Aside0.mk (blk_drew BK199.out)
                   have n4_ := Aside0.mk (blk_drew BK200.out)
                   have n5_ := Aside0.mk (blk_drew BK209.out)
                   have n6_ := Aside0.mk (blk_drew BK214.out)
                   have n7_ := Aside0.mk (below_drew1 HB.out)
                   clear HO_210000
                   clear HO_210001
                   clear BK198
                   clear BK199
                   clear BK200
                   clear BK209
                   clear BK214
                   clear HB
                   have HO_210000 := n0_
                   have HO_210001 := n1_
                   have BK198 := n2_
                   have BK199 := n3_
                   have BK200 := n4_
                   have BK209 := n5_
                   have BK214 := n6_
                   have HB := n7_
                   clear n0_ n1_ n2_ n3_ n4_ n5_ n6_ n7_
                   have p215 : 0 ≤ ((ji61) : Int) := of_decide_eq_true (by first|(with_reducible assumption)|assumption)
                   have q215 : (ji61) < (l2_1.length : Int) := of_decide_eq_true (by first|(with_reducible assumption)|assumption)
                   obtain ⟨ad215, A215_2, c215_2, e215, hx215_0, hx215_1, hx215_2, hl215_2, hi215_2⟩ := at_T33 HR2_1.out (ji61) p215 q215
                   have hw215_2 := hx215_2
                   have hw215_1 := hx215_1
                   have hw215_0 := hx215_0
                   cases e215
                   replace hx215_0 := (HB.out.cell (World.block_lt_of_cell? w _ hx215_0)).trans hx215_0
                   replace hx215_1 := (HB.out.cell (World.block_lt_of_cell? w _ hx215_1)).trans hx215_1
                   replace hx215_2 := (HB.out.cell (World.block_lt_of_cell? w _ hx215_2)).trans hx215_2
                   have HR215_2 := Aside0.mk hi215_2
                   have HC215_2 := Aside0.mk hl215_2
                   clear hi215_2 hl215_2
                   replace p215 := eq_true p215
                   replace q215 := eq_true q215
                   refine start_ (n := 11) (S := fun w' => w'.cell? ⟨gb199, 0, none⟩ = some (.slice A2_0 l2_0.length c2_0) ∧ w'.cell? ⟨gb199, 1, none⟩ = some (.slice (some ad215) l2_1.length c2_1) ∧ w'.cell? (ad215.add (((ji61)).toNat * 3)) = some (.int .i64 ((rd_T33 l2_1 (ji61)).f0)) ∧ w'.cell? ⟨(ad215.add (((ji61)).toNat * 3)).block, (ad215.add (((ji61)).toNat * 3)).off + 1, none⟩ = some (.int .i64 ((rd_T33 l2_1 (ji61)).f1)) ∧ w'.cell? ⟨(ad215.add (((ji61)).toNat * 3)).block, (ad215.add (((ji61)).toNat * 3)).off + 2, none⟩ = some (.slice A215_2 ((rd_T33 l2_1 (ji61)).f2).length c215_2)) (ds := []) #[false, false, false, false, false, false, false, false, false, false, false] (by kernel_rfl) rfl rfl ⟨(blk_cell BK199.out 0).trans rfl, (blk_cell BK199.out 1).trans rfl, ((HB.out.cell (World.block_lt_of_cell? w _ hw215_0)).trans hw215_0), ((HB.out.cell (World.block_lt_of_cell? w _ hw215_1)).trans hw215_1), ((HB.out.cell (World.block_lt_of_cell? w _ hw215_2)).trans hw215_2)⟩ (fun hHeld => ?_);refine with_tabW triglyphref04_Dy.tab21 triglyphref04_Dy.bits21 (fun HT_ HW_ => ?_)
                   generalize w113.drew = w114 at HO_210000 HO_210001 BK198 BK199 BK200 BK209 BK214 HB HR215_2 hx215_0 hx215_1 hx215_2 hHeld ⊢
                   refine pure_ (i := 0) (N := some 79) (v := ?_) (a' := ?_) #[true, false, false, false, false, false, false, false, false, false, false] rfl rfl (any_of HT_.out (by kernel_rfl)) (fun _ _ _ h => h) (Or.inl ⟨by rfl, ?_⟩) ?_ ?_
                   rotate_left
                   ·intro w'
                    go_simp
                    with_reducible rfl
                   rotate_left
                   ·simp only [Act.put, List.setIfInBounds_toArray, List.set_cons_zero, List.set_cons_succ, i64_w, i32_w]
                    rfl
                   refine pure_ (i := 2) (N := some 81) (v := ?_) (a' := ?_) #[true, false, true, false, false, false, false, false, false, false, false] rfl rfl (any_of HT_.out (by kernel_rfl)) (fun _ _ _ h => h) (Or.inl ⟨by rfl, ?_⟩) ?_ ?_
                   rotate_left
                   ·intro w'
                    go_simp
                    with_reducible rfl
                   rotate_left
                   ·simp only [Act.put, List.setIfInBounds_toArray, List.set_cons_zero, List.set_cons_succ, i64_w, i32_w]
                    rfl
                   refine pure_ (i := 3) (N := some 82) (v := ?_) (a' := ?_) #[true, false, true, true, false, false, false, false, false, false, false] rfl rfl (any_of HT_.out (by kernel_rfl)) (fun _ _ _ h => h) (Or.inl ⟨by rfl, ?_⟩) ?_ ?_
                   rotate_left
                   ·intro w'
                    go_simp
                    with_reducible rfl
                   rotate_left
                   ·simp only [Act.put, List.setIfInBounds_toArray, List.set_cons_zero, List.set_cons_succ, i64_w, i32_w]
                    rfl
                   refine take_ (i := 1) (N := some 80) (v := ?_) (a' := ?_) #[true, true, true, true, false, false, false, false, false, false, false] rfl rfl (take_ofW HT_.out HW_.out (by kernel_rfl)) (fun _ _ _ h => h) (Or.inl ⟨by rfl, ?_⟩) hHeld ?_ ?_
                   rotate_left
                   ·rintro w' ⟨s0, s1, s2, s3, s4⟩
                    go_simp
                    with_reducible rfl
                   rotate_left
                   ·simp only [Act.put, List.setIfInBounds_toArray, List.set_cons_zero, List.set_cons_succ, i64_w, i32_w]
                    rfl
                   refine take_ (i := 4) (N := some 83) (v := ?_) (a' := ?_) #[true, true, true, true, true, false, false, false, false, false, false] rfl rfl (take_ofW HT_.out HW_.out (by kernel_rfl)) (fun _ _ _ h => h) (Or.inl ⟨by rfl, ?_⟩) hHeld ?_ ?_
                   rotate_left
                   ·rintro w' ⟨s0, s1, s2, s3, s4⟩
                    go_simp
                    with_reducible rfl
                   rotate_left
                   ·simp only [Act.put, List.setIfInBounds_toArray, List.set_cons_zero, List.set_cons_succ, i64_w, i32_w]
                    rfl
                   refine pure_ (i := 5) (N := some 84) (v := ?_) (a' := ?_) #[true, true, true, true, true, true, false, false, false, false, false] rfl rfl (any_of HT_.out (by kernel_rfl)) (fun _ _ _ h => h) (Or.inl ⟨by rfl, ?_⟩) ?_ ?_
                   rotate_left
                   ·intro w'
                    go_simp
                    with_reducible rfl
                   rotate_left
                   ·simp only [Act.put, List.setIfInBounds_toArray, List.set_cons_zero, List.set_cons_succ, i64_w, i32_w]
                    rfl
                   refine pure_ (i := 6) (N := some 85) (v := ?_) (a' := ?_) #[true, true, true, true, true, true, true, false, false, false, false] rfl rfl (any_of HT_.out (by kernel_rfl)) (fun _ _ _ h => h) (Or.inl ⟨by rfl, ?_⟩) ?_ ?_
                   rotate_left
                   ·intro w'
                    go_simp
                    with_reducible rfl
                   rotate_left
                   ·simp only [Act.put, List.setIfInBounds_toArray, List.set_cons_zero, List.set_cons_succ, i64_w, i32_w]
                    rfl
                   refine pure_ (i := 7) (N := some 86) (v := ?_) (a' := ?_) #[true, true, true, true, true, true, true, true, false, false, false] rfl rfl (any_of HT_.out (by kernel_rfl)) (fun _ _ _ h => h) (Or.inl ⟨by rfl, ?_⟩) ?_ ?_
                   rotate_left
                   ·intro w'
                    go_simp
                    with_reducible rfl
                   rotate_left
                   ·simp only [Act.put, List.setIfInBounds_toArray, List.set_cons_zero, List.set_cons_succ, i64_w, i32_w]
                    rfl
                   refine take_ (i := 8) (N := some 87) (v := ?_) (a' := ?_) #[true, true, true, true, true, true, true, true, true, false, false] rfl rfl (take_ofW HT_.out HW_.out (by kernel_rfl)) (fun _ _ _ h => h) (Or.inl ⟨by rfl, ?_⟩) hHeld ?_ ?_
                   rotate_left
                   ·rintro w' ⟨s0, s1, s2, s3, s4⟩
                    go_simp
                    with_reducible rfl
                   rotate_left
                   ·simp only [Act.put, List.setIfInBounds_toArray, List.set_cons_zero, List.set_cons_succ, i64_w, i32_w]
                    rfl
                   refine one_ (i := 9) (N := some 17) #[true, true, true, true, true, true, true, true, true, true, false] rfl rfl (one_of HT_.out (by kernel_rfl)) (by decide) (fun K hK => ?_)
                   refine box_step ?hg (N := 17) ?hd (cs := #[.int .i64 0, .int .i64 0, .slice none 0 0]) (t := 33) ?hr ?_;(case hd => rfl);(case hg => rfl);(case hr => first|(go_simp;done)|(go_simp;rfl))
                   intro gb216 hg w115 hbox hb
                   have n0_ := Aside0.mk (Kd.R_below (by (with_reducible repeat (first|apply Kd.R_alloc|apply Kd.R_drewN|apply Kd.R_drew));exact HO_210000.out) hb)
                   have n1_ := Aside0.mk (Kd.R_below (Kd.R_elderB (by (with_reducible repeat (first|apply Kd.R_alloc|apply Kd.R_drewN|apply Kd.R_drew));exact HO_210001.out) gb216 (Nat.le_of_eq hg.symm)) hb)
                   have n2_ := Aside0.mk (blk_below (g := gb198) (o := .cells #[.slice A1_0 l1_0.length c1_0, .slice (some ad213) l1_1.length c1_1] 25 (0, 0)) (by (with_reducible repeat (first|refine blk_drewN ?_ _|refine blk_drew ?_|refine blk_alloc ?_ _));exact BK198.out) hb)
                   have n3_ := Aside0.mk (blk_below (g := gb199) (o := .cells #[.slice A2_0 l2_0.length c2_0, .slice (some ad215) l2_1.length c2_1] 25 (0, 0)) (by (with_reducible repeat (first|refine blk_drewN ?_ _|refine blk_drew ?_|refine blk_alloc ?_ _));exact BK199.out) hb)
                   have n4_ := Aside0.mk (blk_below (g := gb200) (o := .cells #[.slice none 0 0, .slice none 0 0] 25 (0, 0)) (by (with_reducible repeat (first|refine blk_drewN ?_ _|refine blk_drew ?_|refine blk_alloc ?_ _));exact BK200.out) hb)
                   have n5_ := Aside0.mk (blk_below (g := gb209) (o := .cells #[.slice Ao53 y210.length co53, u210001] 25 (0, 0)) (by (with_reducible repeat (first|refine blk_drewN ?_ _|refine blk_drew ?_|refine blk_alloc ?_ _));exact BK209.out) hb)
                   have n6_ := Aside0.mk (blk_below (g := gb214) (o := .cells #[.int .i64 ((rd_T33 l1_1 (ji57)).f0), .int .i64 ((rd_T33 l1_1 (ji57)).f1), .slice A213_2 ((rd_T33 l1_1 (ji57)).f2).length c213_2] 33 (0, 0)) (by (with_reducible repeat (first|refine blk_drewN ?_ _|refine blk_drew ?_|refine blk_alloc ?_ _));exact BK214.out) hb)
                   have n7_ := Aside0.mk (below_step (by repeat (first|(with_reducible first|exact HB.out|apply below_alloc|apply pw_below_drewN|apply below_drew1|refine below_set ?_ GE198.out|refine below_set ?_ GE199.out|refine below_set ?_ GE200.out|refine below_set ?_ GE209.out|refine below_set ?_ GE214.out)|exact HB.out)) hb)
                   have n8_ := Aside0.mk (hbox)
                   have n9_ := Aside0.mk ((by rw [hg];exact (below_size (by repeat (first|(with_reducible first|exact HB.out|apply below_alloc|apply pw_below_drewN|apply below_drew1|refine below_set ?_ GE198.out|refine below_set ?_ GE199.out|refine below_set ?_ GE200.out|refine below_set ?_ GE209.out|refine below_set ?_ GE214.out)|exact HB.out))) : w.heap.size ≤ gb216))
                   have n10_ := Aside0.mk ((by rw [hg];exact (below_size (by repeat (first|(with_reducible first|exact HB.out|apply below_alloc|apply pw_below_drewN|apply below_drew1|refine below_set ?_ GE198.out|refine below_set ?_ GE199.out|refine below_set ?_ GE200.out|refine below_set ?_ GE209.out|refine below_set ?_ GE214.out)|exact HB.out))) : w.heap.size ≤ gb216))
                   have n11_ := Aside0.mk ((by rw [hg];exact Nat.ne_of_lt (blk_lt (g := gb198) (o := .cells #[.slice A1_0 l1_0.length c1_0, .slice (some ad213) l1_1.length c1_1] 25 (0, 0)) (by (with_reducible repeat (first|refine blk_drewN ?_ _|refine blk_drew ?_|refine blk_alloc ?_ _));exact BK198.out)) : gb198 ≠ gb216))
                   have n12_ := Aside0.mk ((by rw [hg];exact Nat.ne_of_gt (blk_lt (g := gb198) (o := .cells #[.slice A1_0 l1_0.length c1_0, .slice (some ad213) l1_1.length c1_1] 25 (0, 0)) (by (with_reducible repeat (first|refine blk_drewN ?_ _|refine blk_drew ?_|refine blk_alloc ?_ _));exact BK198.out)) : gb216 ≠ gb198))
                   have n13_ := Aside0.mk ((by rw [hg];exact Nat.ne_of_lt (blk_lt (g := gb199) (o := .cells #[.slice A2_0 l2_0.length c2_0, .slice (some ad215) l2_1.length c2_1] 25 (0, 0)) (by (with_reducible repeat (first|refine blk_drewN ?_ _|refine blk_drew ?_|refine blk_alloc ?_ _));exact BK199.out)) : gb199 ≠ gb216))
                   have n14_ := Aside0.mk ((by rw [hg];exact Nat.ne_of_gt (blk_lt (g := gb199) (o := .cells #[.slice A2_0 l2_0.length c2_0, .slice (some ad215) l2_1.length c2_1] 25 (0, 0)) (by (with_reducible repeat (first|refine blk_drewN ?_ _|refine blk_drew ?_|refine blk_alloc ?_ _));exact BK199.out)) : gb216 ≠ gb199))
                   have n15_ := Aside0.mk ((by rw [hg];exact Nat.ne_of_lt (blk_lt (g := gb200) (o := .cells #[.slice none 0 0, .slice none 0 0] 25 (0, 0)) (by (with_reducible repeat (first|refine blk_drewN ?_ _|refine blk_drew ?_|refine blk_alloc ?_ _));exact BK200.out)) : gb200 ≠ gb216))
                   have n16_ := Aside0.mk ((by rw [hg];exact Nat.ne_of_gt (blk_lt (g := gb200) (o := .cells #[.slice none 0 0, .slice none 0 0] 25 (0, 0)) (by (with_reducible repeat (first|refine blk_drewN ?_ _|refine blk_drew ?_|refine blk_alloc ?_ _));exact BK200.out)) : gb216 ≠ gb200))
                   have n17_ := Aside0.mk ((by rw [hg];exact Nat.ne_of_lt (blk_lt (g := gb209) (o := .cells #[.slice Ao53 y210.length co53, u210001] 25 (0, 0)) (by (with_reducible repeat (first|refine blk_drewN ?_ _|refine blk_drew ?_|refine blk_alloc ?_ _));exact BK209.out)) : gb209 ≠ gb216))
                   have n18_ := Aside0.mk ((by rw [hg];exact Nat.ne_of_gt (blk_lt (g := gb209) (o := .cells #[.slice Ao53 y210.length co53, u210001] 25 (0, 0)) (by (with_reducible repeat (first|refine blk_drewN ?_ _|refine blk_drew ?_|refine blk_alloc ?_ _));exact BK209.out)) : gb216 ≠ gb209))
                   have n19_ := Aside0.mk ((by rw [hg];exact Nat.ne_of_lt (blk_lt (g := gb214) (o := .cells #[.int .i64 ((rd_T33 l1_1 (ji57)).f0), .int .i64 ((rd_T33 l1_1 (ji57)).f1), .slice A213_2 ((rd_T33 l1_1 (ji57)).f2).length c213_2] 33 (0, 0)) (by (with_reducible repeat (first|refine blk_drewN ?_ _|refine blk_drew ?_|refine blk_alloc ?_ _));exact BK214.out)) : gb214 ≠ gb216))
                   have n20_ := Aside0.mk ((by rw [hg];exact Nat.ne_of_gt (blk_lt (g := gb214) (o := .cells #[.int .i64 ((rd_T33 l1_1 (ji57)).f0), .int .i64 ((rd_T33 l1_1 (ji57)).f1), .slice A213_2 ((rd_T33 l1_1 (ji57)).f2).length c213_2] 33 (0, 0)) (by (with_reducible repeat (first|refine blk_drewN ?_ _|refine blk_drew ?_|refine blk_alloc ?_ _));exact BK214.out)) : gb216 ≠ gb214))
                   clear HO_210000
                   clear HO_210001
                   clear BK198
                   clear BK199
                   clear BK200
                   clear BK209
                   clear BK214
                   clear HB
                   have HO_210000 := n0_
                   have HO_210001 := n1_
                   have BK198 := n2_
                   have BK199 := n3_
                   have BK200 := n4_
                   have BK209 := n5_
                   have BK214 := n6_
                   have HB := n7_
                   have BK216 := n8_
                   have GW216 := n9_
                   have GE216 := n10_
                   have NB198_216 := n11_
                   have NB216_198 := n12_
                   have NB199_216 := n13_
                   have NB216_199 := n14_
                   have NB200_216 := n15_
                   have NB216_200 := n16_
                   have NB209_216 := n17_
                   have NB216_209 := n18_
                   have NB214_216 := n19_
                   have NB216_214 := n20_
                   clear n0_ n1_ n2_ n3_ n4_ n5_ n6_ n7_ n8_ n9_ n10_ n11_ n12_ n13_ n14_ n15_ n16_ n17_ n18_ n19_ n20_
                   clear hb hbox hg
                   refine hK.out _ _ ⟨(blk_cell BK199.out 0).trans rfl, (blk_cell BK199.out 1).trans rfl, ((HB.out.cell (World.block_lt_of_cell? w _ hw215_0)).trans hw215_0), ((HB.out.cell (World.block_lt_of_cell? w _ hw215_1)).trans hw215_1), ((HB.out.cell (World.block_lt_of_cell? w _ hw215_2)).trans hw215_2)⟩ (fun hHeld => ?_)
                   clear hK K
                   refine norm_ (a' := ?_) ?_ ?_
                   rotate_left
                   ·show Act.put _ (some 17) _ = _
                    simp only [Act.put, List.setIfInBounds_toArray, List.set_cons_zero, List.set_cons_succ, i64_w, i32_w]
                    rfl
                   refine one_ (i := 10) (N := none) #[true, true, true, true, true, true, true, true, true, true, true] rfl rfl (one_of HT_.out (by kernel_rfl)) (by decide) (fun K hK => ?_)
                   have hs116 : w115.cell? ⟨gb216, 0, none⟩ = some (.int .i64 0) := (blk_cell BK216.out 0).trans rfl
                   have hfs116 := blk_frozen BK216.out 0
                   have hns116_0 := NB198_216.out
                   have hns116_1 := NB199_216.out
                   have hns116_2 := NB200_216.out
                   have hns116_3 := NB209_216.out
                   have hns116_4 := NB214_216.out
                   have hms116_0 := NB216_198.out
                   have hms116_1 := NB216_199.out
                   have hms116_2 := NB216_200.out
                   have hms116_3 := NB216_209.out
                   have hms116_4 := NB216_214.out
                   have hs117 : w115.cell? ⟨gb216, 1, none⟩ = some (.int .i64 0) := (blk_cell BK216.out 1).trans rfl
                   have hfs117 := blk_frozen BK216.out 1
                   have hns117_0 := NB198_216.out
                   have hns117_1 := NB199_216.out
                   have hns117_2 := NB200_216.out
                   have hns117_3 := NB209_216.out
                   have hns117_4 := NB214_216.out
                   have hms117_0 := NB216_198.out
                   have hms117_1 := NB216_199.out
                   have hms117_2 := NB216_200.out
                   have hms117_3 := NB216_209.out
                   have hms117_4 := NB216_214.out
                   have hs118 : w115.cell? ⟨gb216, 2, none⟩ = some (.slice none 0 0) := (blk_cell BK216.out 2).trans rfl
                   have hfs118 := blk_frozen BK216.out 2
                   have hns118_0 := NB198_216.out
                   have hns118_1 := NB199_216.out
                   have hns118_2 := NB200_216.out
                   have hns118_3 := NB209_216.out
                   have hns118_4 := NB214_216.out
                   have hms118_0 := NB216_198.out
                   have hms118_1 := NB216_199.out
                   have hms118_2 := NB216_200.out
                   have hms118_3 := NB216_209.out
                   have hms118_4 := NB216_214.out
                   refine skip_ (w1 := ?_) (by rfl) rfl ?_ ?_
                   rotate_left
                   ·go_simp
                    rfl
                   refine hK.out _ _ ⟨((cell_far (p := ⟨gb216, _, none⟩) NB199_216.out _).trans (((cell_far (p := ⟨gb216, _, none⟩) NB199_216.out _).trans (((cell_far (p := ⟨gb216, _, none⟩) NB199_216.out _).trans (hHeld.1)))))), ((cell_far (p := ⟨gb216, _, none⟩) NB199_216.out _).trans (((cell_far (p := ⟨gb216, _, none⟩) NB199_216.out _).trans (((cell_far (p := ⟨gb216, _, none⟩) NB199_216.out _).trans (hHeld.2.1)))))), ((cell_far (p := ⟨gb216, _, none⟩) (by first|exact Nat.ne_of_lt (Nat.lt_of_lt_of_le (by have := World.block_lt_of_cell? _ _ hw215_0;first|rwa [add_block] at this|exact this) GW216.out)|(rw [add_block];exact Nat.ne_of_lt (Nat.lt_of_lt_of_le (by have := World.block_lt_of_cell? _ _ hw215_0;first|rwa [add_block] at this|exact this) GW216.out))|(show (Addr.add _ _).block ≠ _;rw [add_block];exact Nat.ne_of_lt (Nat.lt_of_lt_of_le (by have := World.block_lt_of_cell? _ _ hw215_0;first|rwa [add_block] at this|exact this) GW216.out))|(dsimp only;exact Nat.ne_of_lt (Nat.lt_of_lt_of_le (by have := World.block_lt_of_cell? _ _ hw215_0;first|rwa [add_block] at this|exact this) GW216.out))) _).trans (((cell_far (p := ⟨gb216, _, none⟩) (by first|exact Nat.ne_of_lt (Nat.lt_of_lt_of_le (by have := World.block_lt_of_cell? _ _ hw215_0;first|rwa [add_block] at this|exact this) GW216.out)|(rw [add_block];exact Nat.ne_of_lt (Nat.lt_of_lt_of_le (by have := World.block_lt_of_cell? _ _ hw215_0;first|rwa [add_block] at this|exact this) GW216.out))|(show (Addr.add _ _).block ≠ _;rw [add_block];exact Nat.ne_of_lt (Nat.lt_of_lt_of_le (by have := World.block_lt_of_cell? _ _ hw215_0;first|rwa [add_block] at this|exact this) GW216.out))|(dsimp only;exact Nat.ne_of_lt (Nat.lt_of_lt_of_le (by have := World.block_lt_of_cell? _ _ hw215_0;first|rwa [add_block] at this|exact this) GW216.out))) _).trans (((cell_far (p := ⟨gb216, _, none⟩) (by first|exact Nat.ne_of_lt (Nat.lt_of_lt_of_le (by have := World.block_lt_of_cell? _ _ hw215_0;first|rwa [add_block] at this|exact this) GW216.out)|(rw [add_block];exact Nat.ne_of_lt (Nat.lt_of_lt_of_le (by have := World.block_lt_of_cell? _ _ hw215_0;first|rwa [add_block] at this|exact this) GW216.out))|(show (Addr.add _ _).block ≠ _;rw [add_block];exact Nat.ne_of_lt (Nat.lt_of_lt_of_le (by have := World.block_lt_of_cell? _ _ hw215_0;first|rwa [add_block] at this|exact this) GW216.out))|(dsimp only;exact Nat.ne_of_lt (Nat.lt_of_lt_of_le (by have := World.block_lt_of_cell? _ _ hw215_0;first|rwa [add_block] at this|exact this) GW216.out))) _).trans (hHeld.2.2.1)))))), ((cell_far (p := ⟨gb216, _, none⟩) (by first|exact Nat.ne_of_lt (Nat.lt_of_lt_of_le (by have := World.block_lt_of_cell? _ _ hw215_1;first|rwa [add_block] at this|exact this) GW216.out)|(rw [add_block];exact Nat.ne_of_lt (Nat.lt_of_lt_of_le (by have := World.block_lt_of_cell? _ _ hw215_1;first|rwa [add_block] at this|exact this) GW216.out))|(show (Addr.add _ _).block ≠ _;rw [add_block];exact Nat.ne_of_lt (Nat.lt_of_lt_of_le (by have := World.block_lt_of_cell? _ _ hw215_1;first|rwa [add_block] at this|exact this) GW216.out))|(dsimp only;exact Nat.ne_of_lt (Nat.lt_of_lt_of_le (by have := World.block_lt_of_cell? _ _ hw215_1;first|rwa [add_block] at this|exact this) GW216.out))) _).trans (((cell_far (p := ⟨gb216, _, none⟩) (by first|exact Nat.ne_of_lt (Nat.lt_of_lt_of_le (by have := World.block_lt_of_cell? _ _ hw215_1;first|rwa [add_block] at this|exact this) GW216.out)|(rw [add_block];exact Nat.ne_of_lt (Nat.lt_of_lt_of_le (by have := World.block_lt_of_cell? _ _ hw215_1;first|rwa [add_block] at this|exact this) GW216.out))|(show (Addr.add _ _).block ≠ _;rw [add_block];exact Nat.ne_of_lt (Nat.lt_of_lt_of_le (by have := World.block_lt_of_cell? _ _ hw215_1;first|rwa [add_block] at this|exact this) GW216.out))|(dsimp only;exact Nat.ne_of_lt (Nat.lt_of_lt_of_le (by have := World.block_lt_of_cell? _ _ hw215_1;first|rwa [add_block] at this|exact this) GW216.out))) _).trans (((cell_far (p := ⟨gb216, _, none⟩) (by first|exact Nat.ne_of_lt (Nat.lt_of_lt_of_le (by have := World.block_lt_of_cell? _ _ hw215_1;first|rwa [add_block] at this|exact this) GW216.out)|(rw [add_block];exact Nat.ne_of_lt (Nat.lt_of_lt_of_le (by have := World.block_lt_of_cell? _ _ hw215_1;first|rwa [add_block] at this|exact this) GW216.out))|(show (Addr.add _ _).block ≠ _;rw [add_block];exact Nat.ne_of_lt (Nat.lt_of_lt_of_le (by have := World.block_lt_of_cell? _ _ hw215_1;first|rwa [add_block] at this|exact this) GW216.out))|(dsimp only;exact Nat.ne_of_lt (Nat.lt_of_lt_of_le (by have := World.block_lt_of_cell? _ _ hw215_1;first|rwa [add_block] at this|exact this) GW216.out))) _).trans (hHeld.2.2.2.1)))))), ((cell_far (p := ⟨gb216, _, none⟩) (by first|exact Nat.ne_of_lt (Nat.lt_of_lt_of_le (by have := World.block_lt_of_cell? _ _ hw215_2;first|rwa [add_block] at this|exact this) GW216.out)|(rw [add_block];exact Nat.ne_of_lt (Nat.lt_of_lt_of_le (by have := World.block_lt_of_cell? _ _ hw215_2;first|rwa [add_block] at this|exact this) GW216.out))|(show (Addr.add _ _).block ≠ _;rw [add_block];exact Nat.ne_of_lt (Nat.lt_of_lt_of_le (by have := World.block_lt_of_cell? _ _ hw215_2;first|rwa [add_block] at this|exact this) GW216.out))|(dsimp only;exact Nat.ne_of_lt (Nat.lt_of_lt_of_le (by have := World.block_lt_of_cell? _ _ hw215_2;first|rwa [add_block] at this|exact this) GW216.out))) _).trans (((cell_far (p := ⟨gb216, _, none⟩) (by first|exact Nat.ne_of_lt (Nat.lt_of_lt_of_le (by have := World.block_lt_of_cell? _ _ hw215_2;first|rwa [add_block] at this|exact this) GW216.out)|(rw [add_block];exact Nat.ne_of_lt (Nat.lt_of_lt_of_le (by have := World.block_lt_of_cell? _ _ hw215_2;first|rwa [add_block] at this|exact this) GW216.out))|(show (Addr.add _ _).block ≠ _;rw [add_block];exact Nat.ne_of_lt (Nat.lt_of_lt_of_le (by have := World.block_lt_of_cell? _ _ hw215_2;first|rwa [add_block] at this|exact this) GW216.out))|(dsimp only;exact Nat.ne_of_lt (Nat.lt_of_lt_of_le (by have := World.block_lt_of_cell? _ _ hw215_2;first|rwa [add_block] at this|exact this) GW216.out))) _).trans (((cell_far (p := ⟨gb216, _, none⟩) (by first|exact Nat.ne_of_lt (Nat.lt_of_lt_of_le (by have := World.block_lt_of_cell? _ _ hw215_2;first|rwa [add_block] at this|exact this) GW216.out)|(rw [add_block];exact Nat.ne_of_lt (Nat.lt_of_lt_of_le (by have := World.block_lt_of_cell? _ _ hw215_2;first|rwa [add_block] at this|exact this) GW216.out))|(show (Addr.add _ _).block ≠ _;rw [add_block];exact Nat.ne_of_lt (Nat.lt_of_lt_of_le (by have := World.block_lt_of_cell? _ _ hw215_2;first|rwa [add_block] at this|exact this) GW216.out))|(dsimp only;exact Nat.ne_of_lt (Nat.lt_of_lt_of_le (by have := World.block_lt_of_cell? _ _ hw215_2;first|rwa [add_block] at this|exact this) GW216.out))) _).trans (hHeld.2.2.2.2))))))⟩ (fun hHeld => ?_)
                   clear hK K
                   refine done_ (done_of HT_.out (by kernel_rfl)) ?_
                   have hnb119 := NB214_198.out
                   have hnc119 := NB198_214.out
                   have hnb120 := NB214_199.out
                   have hnc120 := NB199_214.out
                   have hnb121 := NB214_200.out
                   have hnc121 := NB200_214.out
                   have hnb122 := NB214_209.out
                   have hnc122 := NB209_214.out
                   have hnb123 := NB214_216.out
                   have hnc123 := NB216_214.out
                   have hcz124_0 : w115.cell? ⟨gb214, 0, none⟩ = some (.int .i64 ((rd_T33 l1_1 (ji57)).f0)) := (blk_cell BK214.out 0).trans rfl
                   have hcz124_1 : w115.cell? ⟨gb214, 1, none⟩ = some (.int .i64 ((rd_T33 l1_1 (ji57)).f1)) := (blk_cell BK214.out 1).trans rfl
                   have hcz124_2 : w115.cell? ⟨gb214, 2, none⟩ = some (.slice A213_2 ((rd_T33 l1_1 (ji57)).f2).length c213_2) := (blk_cell BK214.out 2).trans rfl
                   have hfz124_0 := blk_frozen BK214.out 0
                   have hfz124_1 := blk_frozen BK214.out 1
                   have hfz124_2 := blk_frozen BK214.out 2
                   have hnb125 := NB216_198.out
                   have hnc125 := NB198_216.out
                   have hnb126 := NB216_199.out
                   have hnc126 := NB199_216.out
                   have hnb127 := NB216_200.out
                   have hnc127 := NB200_216.out
                   have hnb128 := NB216_209.out
                   have hnc128 := NB209_216.out
                   have hcz129_0 : w115.cell? ⟨gb216, 0, none⟩ = some (.int .i64 0) := (blk_cell BK216.out 0).trans rfl
                   have hcz129_1 : w115.cell? ⟨gb216, 1, none⟩ = some (.int .i64 0) := (blk_cell BK216.out 1).trans rfl
                   have hcz129_2 : w115.cell? ⟨gb216, 2, none⟩ = some (.slice none 0 0) := (blk_cell BK216.out 2).trans rfl
                   have hfz129_0 := blk_frozen BK216.out 0
                   have hfz129_1 := blk_frozen BK216.out 1
                   have hfz129_2 := blk_frozen BK216.out 2
                   try go_wp2_with (first | ((with_reducible refine gate_callee (f := 50) rfl ?_); refine goesL_ (some 92) rfl rfl Try.func50 (by kernel_rfl) rfl #[.int .i64 a0, .agg #[.int .i64 ((rd_T33 l1_1 (ji57)).f0), .int .i64 ((rd_T33 l1_1 (ji57)).f1), .slice A213_2 ((rd_T33 l1_1 (ji57)).f2).length c213_2], .agg #[.int .i64 ((rd_T33 l2_1 (ji61)).f0), .int .i64 ((rd_T33 l2_1 (ji61)).f1), .slice A215_2 ((rd_T33 l2_1 (ji61)).f2).length c215_2]] rfl (by (try simp only [List.map_toArray, List.map_cons, List.map_nil]); first | done | (simp only [hji57, hji61]; rfl) | rfl | (simp only [List.length_drop, List.length_take]; rfl)) ?_; (with_reducible refine (triglyphref04_Cell.calls a0 ((rd_T33 l1_1 (ji57)).f0) ((rd_T33 l1_1 (ji57)).f1) _ _ ((rd_T33 l1_1 (ji57)).f2) ((rd_T33 l2_1 (ji61)).f0) ((rd_T33 l2_1 (ji61)).f1) _ _ ((rd_T33 l2_1 (ji61)).f2) t217 t218 t219 t222 _ ?side1 ?side2 ?side3 ?side4 A64.out).mono ?_); (case side1 => exact Kd.C_below HR213_2.out (by repeat (first | (with_reducible first | exact HB.out | apply below_alloc | apply pw_below_drewN | apply below_drew1 | refine below_set ?_ GE198.out | refine below_set ?_ GE199.out | refine below_set ?_ GE200.out | refine below_set ?_ GE209.out | refine below_set ?_ GE214.out | refine below_set ?_ GE216.out) | exact HB.out))); (case side2 => exact HC213_2.out); (case side3 => exact Kd.C_below HR215_2.out (by repeat (first | (with_reducible first | exact HB.out | apply below_alloc | apply pw_below_drewN | apply below_drew1 | refine below_set ?_ GE198.out | refine below_set ?_ GE199.out | refine below_set ?_ GE200.out | refine below_set ?_ GE209.out | refine below_set ?_ GE214.out | refine below_set ?_ GE216.out) | exact HB.out))); (case side4 => exact HC215_2.out); rintro e w130 ⟨v220, rfl, ho0, hb⟩; refine ⟨_, rfl, ?_⟩; have n0_ := Aside0.mk (Kd.R_below (by (with_reducible repeat (first | apply Kd.R_alloc | apply Kd.R_drewN | apply Kd.R_drew)); exact (Kd.R_mono (Kd.R_far (p := ⟨gb216, 2, none⟩) (Kd.R_far (p := ⟨gb216, 1, none⟩) (Kd.R_far (p := ⟨gb216, 0, none⟩) (Kd.R_types HO_210000.out BK216.out (by decide)) (fun _ hk => hk.2) (.int .i64 ((rd_T33 l2_1 (ji61)).f0))) (fun _ hk => hk.2) (.int .i64 ((rd_T33 l2_1 (ji61)).f1))) (fun _ hk => hk.2) (.slice A215_2 ((rd_T33 l2_1 (ji61)).f2).length c215_2)) (fun _ h_ => h_.1))) hb); have n1_ := Aside0.mk (Kd.R_elder' (by (with_reducible repeat (first | apply Kd.R_alloc | apply Kd.R_drewN | apply Kd.R_drew)); exact (Kd.R_mono (Kd.R_far (p := ⟨gb216, 2, none⟩) (Kd.R_far (p := ⟨gb216, 1, none⟩) (Kd.R_far (p := ⟨gb216, 0, none⟩) (Kd.R_mono HO_210001.out (fun k_ hk => (⟨hk, hk.2⟩ : _ ∧ k_ ≠ gb216))) (fun _ hk => hk.2) (.int .i64 ((rd_T33 l2_1 (ji61)).f0))) (fun _ hk => hk.2) (.int .i64 ((rd_T33 l2_1 (ji61)).f1))) (fun _ hk => hk.2) (.slice A215_2 ((rd_T33 l2_1 (ji61)).f2).length c215_2)) (fun _ h_ => h_.1))) (Kd.R_base ho0) hb); have n2_ := Aside0.mk (Kd.R_lower (Kd.R_newB (Kd.R_newB (Kd.R_newB (Kd.R_newB (Kd.R_newB (Kd.R_newB (Kd.R_new' (Kd.R_new' ho0 (Kd.R_lt (by (with_reducible repeat (first | apply Kd.R_alloc | apply Kd.R_drewN | apply Kd.R_drew)); exact (Kd.R_mono (Kd.R_far (p := ⟨gb216, 2, none⟩) (Kd.R_far (p := ⟨gb216, 1, none⟩) (Kd.R_far (p := ⟨gb216, 0, none⟩) (Kd.R_types HO_210000.out BK216.out (by decide)) (fun _ hk => hk.2) (.int .i64 ((rd_T33 l2_1 (ji61)).f0))) (fun _ hk => hk.2) (.int .i64 ((rd_T33 l2_1 (ji61)).f1))) (fun _ hk => hk.2) (.slice A215_2 ((rd_T33 l2_1 (ji61)).f2).length c215_2)) (fun _ h_ => h_.1))))) (Kd.R_lt (by (with_reducible repeat (first | apply Kd.R_alloc | apply Kd.R_drewN | apply Kd.R_drew)); exact (Kd.R_mono (Kd.R_far (p := ⟨gb216, 2, none⟩) (Kd.R_far (p := ⟨gb216, 1, none⟩) (Kd.R_far (p := ⟨gb216, 0, none⟩) (Kd.R_mono HO_210001.out (fun k_ hk => (⟨hk, hk.2⟩ : _ ∧ k_ ≠ gb216))) (fun _ hk => hk.2) (.int .i64 ((rd_T33 l2_1 (ji61)).f0))) (fun _ hk => hk.2) (.int .i64 ((rd_T33 l2_1 (ji61)).f1))) (fun _ hk => hk.2) (.slice A215_2 ((rd_T33 l2_1 (ji61)).f2).length c215_2)) (fun _ h_ => h_.1))))) (g := gb198) (o := .cells #[.slice A1_0 l1_0.length c1_0, .slice (some ad213) l1_1.length c1_1] 25 (0, 0)) (by (with_reducible repeat (first | refine blk_drewN ?_ _ | refine blk_drew ?_ | refine blk_alloc ?_ _)); refine blk_far ?_ NB198_216.out _; (with_reducible repeat (first | refine blk_drewN ?_ _ | refine blk_drew ?_ | refine blk_alloc ?_ _)); refine blk_far ?_ NB198_216.out _; (with_reducible repeat (first | refine blk_drewN ?_ _ | refine blk_drew ?_ | refine blk_alloc ?_ _)); refine blk_far ?_ NB198_216.out _; (with_reducible repeat (first | refine blk_drewN ?_ _ | refine blk_drew ?_ | refine blk_alloc ?_ _)); exact BK198.out)) (g := gb199) (o := .cells #[.slice A2_0 l2_0.length c2_0, .slice (some ad215) l2_1.length c2_1] 25 (0, 0)) (by (with_reducible repeat (first | refine blk_drewN ?_ _ | refine blk_drew ?_ | refine blk_alloc ?_ _)); refine blk_far ?_ NB199_216.out _; (with_reducible repeat (first | refine blk_drewN ?_ _ | refine blk_drew ?_ | refine blk_alloc ?_ _)); refine blk_far ?_ NB199_216.out _; (with_reducible repeat (first | refine blk_drewN ?_ _ | refine blk_drew ?_ | refine blk_alloc ?_ _)); refine blk_far ?_ NB199_216.out _; (with_reducible repeat (first | refine blk_drewN ?_ _ | refine blk_drew ?_ | refine blk_alloc ?_ _)); exact BK199.out)) (g := gb200) (o := .cells #[.slice none 0 0, .slice none 0 0] 25 (0, 0)) (by (with_reducible repeat (first | refine blk_drewN ?_ _ | refine blk_drew ?_ | refine blk_alloc ?_ _)); refine blk_far ?_ NB200_216.out _; (with_reducible repeat (first | refine blk_drewN ?_ _ | refine blk_drew ?_ | refine blk_alloc ?_ _)); refine blk_far ?_ NB200_216.out _; (with_reducible repeat (first | refine blk_drewN ?_ _ | refine blk_drew ?_ | refine blk_alloc ?_ _)); refine blk_far ?_ NB200_216.out _; (with_reducible repeat (first | refine blk_drewN ?_ _ | refine blk_drew ?_ | refine blk_alloc ?_ _)); exact BK200.out)) (g := gb209) (o := .cells #[.slice Ao53 y210.length co53, u210001] 25 (0, 0)) (by (with_reducible repeat (first | refine blk_drewN ?_ _ | refine blk_drew ?_ | refine blk_alloc ?_ _)); refine blk_far ?_ NB209_216.out _; (with_reducible repeat (first | refine blk_drewN ?_ _ | refine blk_drew ?_ | refine blk_alloc ?_ _)); refine blk_far ?_ NB209_216.out _; (with_reducible repeat (first | refine blk_drewN ?_ _ | refine blk_drew ?_ | refine blk_alloc ?_ _)); refine blk_far ?_ NB209_216.out _; (with_reducible repeat (first | refine blk_drewN ?_ _ | refine blk_drew ?_ | refine blk_alloc ?_ _)); exact BK209.out)) (g := gb214) (o := .cells #[.int .i64 ((rd_T33 l1_1 (ji57)).f0), .int .i64 ((rd_T33 l1_1 (ji57)).f1), .slice A213_2 ((rd_T33 l1_1 (ji57)).f2).length c213_2] 33 (0, 0)) (by (with_reducible repeat (first | refine blk_drewN ?_ _ | refine blk_drew ?_ | refine blk_alloc ?_ _)); refine blk_far ?_ NB214_216.out _; (with_reducible repeat (first | refine blk_drewN ?_ _ | refine blk_drew ?_ | refine blk_alloc ?_ _)); refine blk_far ?_ NB214_216.out _; (with_reducible repeat (first | refine blk_drewN ?_ _ | refine blk_drew ?_ | refine blk_alloc ?_ _)); refine blk_far ?_ NB214_216.out _; (with_reducible repeat (first | refine blk_drewN ?_ _ | refine blk_drew ?_ | refine blk_alloc ?_ _)); exact BK214.out)) (g := gb216) (o := .cells #[.int .i64 ((rd_T33 l2_1 (ji61)).f0), .int .i64 ((rd_T33 l2_1 (ji61)).f1), .slice A215_2 ((rd_T33 l2_1 (ji61)).f2).length c215_2] 33 (0, 0)) (by (with_reducible repeat (first | refine blk_drewN ?_ _ | refine blk_drew ?_ | refine blk_alloc ?_ _)); refine blk_put (cs := #[.int .i64 ((rd_T33 l2_1 (ji61)).f0), .int .i64 ((rd_T33 l2_1 (ji61)).f1), .slice none 0 0]) ?_ 2 _ rfl; (with_reducible repeat (first | refine blk_drewN ?_ _ | refine blk_drew ?_ | refine blk_alloc ?_ _)); refine blk_put (cs := #[.int .i64 ((rd_T33 l2_1 (ji61)).f0), .int .i64 0, .slice none 0 0]) ?_ 1 _ rfl; (with_reducible repeat (first | refine blk_drewN ?_ _ | refine blk_drew ?_ | refine blk_alloc ?_ _)); refine blk_put (cs := #[.int .i64 0, .int .i64 0, .slice none 0 0]) ?_ 0 _ rfl; (with_reducible repeat (first | refine blk_drewN ?_ _ | refine blk_drew ?_ | refine blk_alloc ?_ _)); exact BK216.out)) (below_size (by repeat (first | (with_reducible first | exact HB.out | apply below_alloc | apply pw_below_drewN | apply below_drew1 | refine below_set ?_ GE198.out | refine below_set ?_ GE199.out | refine below_set ?_ GE200.out | refine below_set ?_ GE209.out | refine below_set ?_ GE214.out | refine below_set ?_ GE216.out) | exact HB.out)))); have n3_ := Aside0.mk (blk_below (g := gb198) (o := .cells #[.slice A1_0 l1_0.length c1_0, .slice (some ad213) l1_1.length c1_1] 25 (0, 0)) (by (with_reducible repeat (first | refine blk_drewN ?_ _ | refine blk_drew ?_ | refine blk_alloc ?_ _)); refine blk_far ?_ NB198_216.out _; (with_reducible repeat (first | refine blk_drewN ?_ _ | refine blk_drew ?_ | refine blk_alloc ?_ _)); refine blk_far ?_ NB198_216.out _; (with_reducible repeat (first | refine blk_drewN ?_ _ | refine blk_drew ?_ | refine blk_alloc ?_ _)); refine blk_far ?_ NB198_216.out _; (with_reducible repeat (first | refine blk_drewN ?_ _ | refine blk_drew ?_ | refine blk_alloc ?_ _)); exact BK198.out) hb); have n4_ := Aside0.mk (blk_below (g := gb199) (o := .cells #[.slice A2_0 l2_0.length c2_0, .slice (some ad215) l2_1.length c2_1] 25 (0, 0)) (by (with_reducible repeat (first | refine blk_drewN ?_ _ | refine blk_drew ?_ | refine blk_alloc ?_ _)); refine blk_far ?_ NB199_216.out _; (with_reducible repeat (first | refine blk_drewN ?_ _ | refine blk_drew ?_ | refine blk_alloc ?_ _)); refine blk_far ?_ NB199_216.out _; (with_reducible repeat (first | refine blk_drewN ?_ _ | refine blk_drew ?_ | refine blk_alloc ?_ _)); refine blk_far ?_ NB199_216.out _; (with_reducible repeat (first | refine blk_drewN ?_ _ | refine blk_drew ?_ | refine blk_alloc ?_ _)); exact BK199.out) hb); have n5_ := Aside0.mk (blk_below (g := gb200) (o := .cells #[.slice none 0 0, .slice none 0 0] 25 (0, 0)) (by (with_reducible repeat (first | refine blk_drewN ?_ _ | refine blk_drew ?_ | refine blk_alloc ?_ _)); refine blk_far ?_ NB200_216.out _; (with_reducible repeat (first | refine blk_drewN ?_ _ | refine blk_drew ?_ | refine blk_alloc ?_ _)); refine blk_far ?_ NB200_216.out _; (with_reducible repeat (first | refine blk_drewN ?_ _ | refine blk_drew ?_ | refine blk_alloc ?_ _)); refine blk_far ?_ NB200_216.out _; (with_reducible repeat (first | refine blk_drewN ?_ _ | refine blk_drew ?_ | refine blk_alloc ?_ _)); exact BK200.out) hb); have n6_ := Aside0.mk (blk_below (g := gb209) (o := .cells #[.slice Ao53 y210.length co53, u210001] 25 (0, 0)) (by (with_reducible repeat (first | refine blk_drewN ?_ _ | refine blk_drew ?_ | refine blk_alloc ?_ _)); refine blk_far ?_ NB209_216.out _; (with_reducible repeat (first | refine blk_drewN ?_ _ | refine blk_drew ?_ | refine blk_alloc ?_ _)); refine blk_far ?_ NB209_216.out _; (with_reducible repeat (first | refine blk_drewN ?_ _ | refine blk_drew ?_ | refine blk_alloc ?_ _)); refine blk_far ?_ NB209_216.out _; (with_reducible repeat (first | refine blk_drewN ?_ _ | refine blk_drew ?_ | refine blk_alloc ?_ _)); exact BK209.out) hb); have n7_ := Aside0.mk (blk_below (g := gb214) (o := .cells #[.int .i64 ((rd_T33 l1_1 (ji57)).f0), .int .i64 ((rd_T33 l1_1 (ji57)).f1), .slice A213_2 ((rd_T33 l1_1 (ji57)).f2).length c213_2] 33 (0, 0)) (by (with_reducible repeat (first | refine blk_drewN ?_ _ | refine blk_drew ?_ | refine blk_alloc ?_ _)); refine blk_far ?_ NB214_216.out _; (with_reducible repeat (first | refine blk_drewN ?_ _ | refine blk_drew ?_ | refine blk_alloc ?_ _)); refine blk_far ?_ NB214_216.out _; (with_reducible repeat (first | refine blk_drewN ?_ _ | refine blk_drew ?_ | refine blk_alloc ?_ _)); refine blk_far ?_ NB214_216.out _; (with_reducible repeat (first | refine blk_drewN ?_ _ | refine blk_drew ?_ | refine blk_alloc ?_ _)); exact BK214.out) hb); have n8_ := Aside0.mk (blk_below (g := gb216) (o := .cells #[.int .i64 ((rd_T33 l2_1 (ji61)).f0), .int .i64 ((rd_T33 l2_1 (ji61)).f1), .slice A215_2 ((rd_T33 l2_1 (ji61)).f2).length c215_2] 33 (0, 0)) (by (with_reducible repeat (first | refine blk_drewN ?_ _ | refine blk_drew ?_ | refine blk_alloc ?_ _)); refine blk_put (cs := #[.int .i64 ((rd_T33 l2_1 (ji61)).f0), .int .i64 ((rd_T33 l2_1 (ji61)).f1), .slice none 0 0]) ?_ 2 _ rfl; (with_reducible repeat (first | refine blk_drewN ?_ _ | refine blk_drew ?_ | refine blk_alloc ?_ _)); refine blk_put (cs := #[.int .i64 ((rd_T33 l2_1 (ji61)).f0), .int .i64 0, .slice none 0 0]) ?_ 1 _ rfl; (with_reducible repeat (first | refine blk_drewN ?_ _ | refine blk_drew ?_ | refine blk_alloc ?_ _)); refine blk_put (cs := #[.int .i64 0, .int .i64 0, .slice none 0 0]) ?_ 0 _ rfl; (with_reducible repeat (first | refine blk_drewN ?_ _ | refine blk_drew ?_ | refine blk_alloc ?_ _)); exact BK216.out) hb); have n9_ := Aside0.mk (below_step (by repeat (first | (with_reducible first | exact HB.out | apply below_alloc | apply pw_below_drewN | apply below_drew1 | refine below_set ?_ GE198.out | refine below_set ?_ GE199.out | refine below_set ?_ GE200.out | refine below_set ?_ GE209.out | refine below_set ?_ GE214.out | refine below_set ?_ GE216.out) | exact HB.out)) hb); clear HO_210000; clear HO_210001; clear BK198; clear BK199; clear BK200; clear BK209; clear BK214; clear BK216; clear HB; have HO_210000 := n0_; have HO_210001 := n1_; have HO221 := n2_; have BK198 := n3_; have BK199 := n4_; have BK200 := n5_; have BK209 := n6_; have BK214 := n7_; have BK216 := n8_; have HB := n9_; clear n0_ n1_ n2_ n3_ n4_ n5_ n6_ n7_ n8_ n9_; (try clear hb); (try clear hb2); (try clear hk); (try clear hi); (try clear ho0)) | ((with_reducible refine gate_dst (N := 18) rfl ?_); refine box_event ?hg (N := 18) ?hd (cs := #[.int .i64 0, .int .i64 0, .slice none 0 0]) (t := 33) ?hr ?_; (case hd => rfl); (case hg => rfl); (case hr => first | (go_simp; done) | (go_simp; rfl)); intro gb223 hg w131 hbox hb; have n0_ := Aside0.mk (Kd.R_below (by (with_reducible repeat (first | apply Kd.R_alloc | apply Kd.R_drewN | apply Kd.R_drew)); exact HO_210000.out) hb); have n1_ := Aside0.mk (Kd.R_below (Kd.R_elderB (by (with_reducible repeat (first | apply Kd.R_alloc | apply Kd.R_drewN | apply Kd.R_drew)); exact HO_210001.out) gb223 (Nat.le_of_eq hg.symm)) hb); have n2_ := Aside0.mk (Kd.R_below (Kd.R_elderB (by (with_reducible repeat (first | apply Kd.R_alloc | apply Kd.R_drewN | apply Kd.R_drew)); exact HO221.out) gb223 (Nat.le_of_eq hg.symm)) hb); have n3_ := Aside0.mk (blk_below (g := gb198) (o := .cells #[.slice A1_0 l1_0.length c1_0, .slice (some ad213) l1_1.length c1_1] 25 (0, 0)) (by (with_reducible repeat (first | refine blk_drewN ?_ _ | refine blk_drew ?_ | refine blk_alloc ?_ _)); exact BK198.out) hb); have n4_ := Aside0.mk (blk_below (g := gb199) (o := .cells #[.slice A2_0 l2_0.length c2_0, .slice (some ad215) l2_1.length c2_1] 25 (0, 0)) (by (with_reducible repeat (first | refine blk_drewN ?_ _ | refine blk_drew ?_ | refine blk_alloc ?_ _)); exact BK199.out) hb); have n5_ := Aside0.mk (blk_below (g := gb200) (o := .cells #[.slice none 0 0, .slice none 0 0] 25 (0, 0)) (by (with_reducible repeat (first | refine blk_drewN ?_ _ | refine blk_drew ?_ | refine blk_alloc ?_ _)); exact BK200.out) hb); have n6_ := Aside0.mk (blk_below (g := gb209) (o := .cells #[.slice Ao53 y210.length co53, u210001] 25 (0, 0)) (by (with_reducible repeat (first | refine blk_drewN ?_ _ | refine blk_drew ?_ | refine blk_alloc ?_ _)); exact BK209.out) hb); have n7_ := Aside0.mk (blk_below (g := gb214) (o := .cells #[.int .i64 ((rd_T33 l1_1 (ji57)).f0), .int .i64 ((rd_T33 l1_1 (ji57)).f1), .slice A213_2 ((rd_T33 l1_1 (ji57)).f2).length c213_2] 33 (0, 0)) (by (with_reducible repeat (first | refine blk_drewN ?_ _ | refine blk_drew ?_ | refine blk_alloc ?_ _)); exact BK214.out) hb); have n8_ := Aside0.mk (blk_below (g := gb216) (o := .cells #[.int .i64 ((rd_T33 l2_1 (ji61)).f0), .int .i64 ((rd_T33 l2_1 (ji61)).f1), .slice A215_2 ((rd_T33 l2_1 (ji61)).f2).length c215_2] 33 (0, 0)) (by (with_reducible repeat (first | refine blk_drewN ?_ _ | refine blk_drew ?_ | refine blk_alloc ?_ _)); exact BK216.out) hb); have n9_ := Aside0.mk (below_step (by repeat (first | (with_reducible first | exact HB.out | apply below_alloc | apply pw_below_drewN | apply below_drew1 | refine below_set ?_ GE198.out | refine below_set ?_ GE199.out | refine below_set ?_ GE200.out | refine below_set ?_ GE209.out | refine below_set ?_ GE214.out | refine below_set ?_ GE216.out) | exact HB.out)) hb); have n10_ := Aside0.mk (hbox); have n11_ := Aside0.mk ((by rw [hg]; exact (below_size (by repeat (first | (with_reducible first | exact HB.out | apply below_alloc | apply pw_below_drewN | apply below_drew1 | refine below_set ?_ GE198.out | refine below_set ?_ GE199.out | refine below_set ?_ GE200.out | refine below_set ?_ GE209.out | refine below_set ?_ GE214.out | refine below_set ?_ GE216.out) | exact HB.out))) : w.heap.size ≤ gb223)); have n12_ := Aside0.mk ((by rw [hg]; exact (below_size (by repeat (first | (with_reducible first | exact HB.out | apply below_alloc | apply pw_below_drewN | apply below_drew1 | refine below_set ?_ GE198.out | refine below_set ?_ GE199.out | refine below_set ?_ GE200.out | refine below_set ?_ GE209.out | refine below_set ?_ GE214.out | refine below_set ?_ GE216.out) | exact HB.out))) : w.heap.size ≤ gb223)); have n13_ := Aside0.mk ((by rw [hg]; exact Nat.ne_of_lt (blk_lt (g := gb198) (o := .cells #[.slice A1_0 l1_0.length c1_0, .slice (some ad213) l1_1.length c1_1] 25 (0, 0)) (by (with_reducible repeat (first | refine blk_drewN ?_ _ | refine blk_drew ?_ | refine blk_alloc ?_ _)); exact BK198.out)) : gb198 ≠ gb223)); have n14_ := Aside0.mk ((by rw [hg]; exact Nat.ne_of_gt (blk_lt (g := gb198) (o := .cells #[.slice A1_0 l1_0.length c1_0, .slice (some ad213) l1_1.length c1_1] 25 (0, 0)) (by (with_reducible repeat (first | refine blk_drewN ?_ _ | refine blk_drew ?_ | refine blk_alloc ?_ _)); exact BK198.out)) : gb223 ≠ gb198)); have n15_ := Aside0.mk ((by rw [hg]; exact Nat.ne_of_lt (blk_lt (g := gb199) (o := .cells #[.slice A2_0 l2_0.length c2_0, .slice (some ad215) l2_1.length c2_1] 25 (0, 0)) (by (with_reducible repeat (first | refine blk_drewN ?_ _ | refine blk_drew ?_ | refine blk_alloc ?_ _)); exact BK199.out)) : gb199 ≠ gb223)); have n16_ := Aside0.mk ((by rw [hg]; exact Nat.ne_of_gt (blk_lt (g := gb199) (o := .cells #[.slice A2_0 l2_0.length c2_0, .slice (some ad215) l2_1.length c2_1] 25 (0, 0)) (by (with_reducible repeat (first | refine blk_drewN ?_ _ | refine blk_drew ?_ | refine blk_alloc ?_ _)); exact BK199.out)) : gb223 ≠ gb199)); have n17_ := Aside0.mk ((by rw [hg]; exact Nat.ne_of_lt (blk_lt (g := gb200) (o := .cells #[.slice none 0 0, .slice none 0 0] 25 (0, 0)) (by (with_reducible repeat (first | refine blk_drewN ?_ _ | refine blk_drew ?_ | refine blk_alloc ?_ _)); exact BK200.out)) : gb200 ≠ gb223)); have n18_ := Aside0.mk ((by rw [hg]; exact Nat.ne_of_gt (blk_lt (g := gb200) (o := .cells #[.slice none 0 0, .slice none 0 0] 25 (0, 0)) (by (with_reducible repeat (first | refine blk_drewN ?_ _ | refine blk_drew ?_ | refine blk_alloc ?_ _)); exact BK200.out)) : gb223 ≠ gb200)); have n19_ := Aside0.mk ((by rw [hg]; exact Nat.ne_of_lt (blk_lt (g := gb209) (o := .cells #[.slice Ao53 y210.length co53, u210001] 25 (0, 0)) (by (with_reducible repeat (first | refine blk_drewN ?_ _ | refine blk_drew ?_ | refine blk_alloc ?_ _)); exact BK209.out)) : gb209 ≠ gb223)); have n20_ := Aside0.mk ((by rw [hg]; exact Nat.ne_of_gt (blk_lt (g := gb209) (o := .cells #[.slice Ao53 y210.length co53, u210001] 25 (0, 0)) (by (with_reducible repeat (first | refine blk_drewN ?_ _ | refine blk_drew ?_ | refine blk_alloc ?_ _)); exact BK209.out)) : gb223 ≠ gb209)); have n21_ := Aside0.mk ((by rw [hg]; exact Nat.ne_of_lt (blk_lt (g := gb214) (o := .cells #[.int .i64 ((rd_T33 l1_1 (ji57)).f0), .int .i64 ((rd_T33 l1_1 (ji57)).f1), .slice A213_2 ((rd_T33 l1_1 (ji57)).f2).length c213_2] 33 (0, 0)) (by (with_reducible repeat (first | refine blk_drewN ?_ _ | refine blk_drew ?_ | refine blk_alloc ?_ _)); exact BK214.out)) : gb214 ≠ gb223)); have n22_ := Aside0.mk ((by rw [hg]; exact Nat.ne_of_gt (blk_lt (g := gb214) (o := .cells #[.int .i64 ((rd_T33 l1_1 (ji57)).f0), .int .i64 ((rd_T33 l1_1 (ji57)).f1), .slice A213_2 ((rd_T33 l1_1 (ji57)).f2).length c213_2] 33 (0, 0)) (by (with_reducible repeat (first | refine blk_drewN ?_ _ | refine blk_drew ?_ | refine blk_alloc ?_ _)); exact BK214.out)) : gb223 ≠ gb214)); have n23_ := Aside0.mk ((by rw [hg]; exact Nat.ne_of_lt (blk_lt (g := gb216) (o := .cells #[.int .i64 ((rd_T33 l2_1 (ji61)).f0), .int .i64 ((rd_T33 l2_1 (ji61)).f1), .slice A215_2 ((rd_T33 l2_1 (ji61)).f2).length c215_2] 33 (0, 0)) (by (with_reducible repeat (first | refine blk_drewN ?_ _ | refine blk_drew ?_ | refine blk_alloc ?_ _)); exact BK216.out)) : gb216 ≠ gb223)); have n24_ := Aside0.mk ((by rw [hg]; exact Nat.ne_of_gt (blk_lt (g := gb216) (o := .cells #[.int .i64 ((rd_T33 l2_1 (ji61)).f0), .int .i64 ((rd_T33 l2_1 (ji61)).f1), .slice A215_2 ((rd_T33 l2_1 (ji61)).f2).length c215_2] 33 (0, 0)) (by (with_reducible repeat (first | refine blk_drewN ?_ _ | refine blk_drew ?_ | refine blk_alloc ?_ _)); exact BK216.out)) : gb223 ≠ gb216)); clear HO_210000; clear HO_210001; clear HO221; clear BK198; clear BK199; clear BK200; clear BK209; clear BK214; clear BK216; clear HB; have HO_210000 := n0_; have HO_210001 := n1_; have HO221 := n2_; have BK198 := n3_; have BK199 := n4_; have BK200 := n5_; have BK209 := n6_; have BK214 := n7_; have BK216 := n8_; have HB := n9_; have BK223 := n10_; have GW223 := n11_; have GE223 := n12_; have NB198_223 := n13_; have NB223_198 := n14_; have NB199_223 := n15_; have NB223_199 := n16_; have NB200_223 := n17_; have NB223_200 := n18_; have NB209_223 := n19_; have NB223_209 := n20_; have NB214_223 := n21_; have NB223_214 := n22_; have NB216_223 := n23_; have NB223_216 := n24_; clear n0_ n1_ n2_ n3_ n4_ n5_ n6_ n7_ n8_ n9_ n10_ n11_ n12_ n13_ n14_ n15_ n16_ n17_ n18_ n19_ n20_ n21_ n22_ n23_ n24_; clear hb hbox hg; have hnb132 := NB223_198.out; have hnc132 := NB198_223.out; have hnb133 := NB223_199.out; have hnc133 := NB199_223.out; have hnb134 := NB223_200.out; have hnc134 := NB200_223.out; have hnb135 := NB223_209.out; have hnc135 := NB209_223.out; have hnb136 := NB223_214.out; have hnc136 := NB214_223.out; have hnb137 := NB223_216.out; have hnc137 := NB216_223.out; have hcz138_0 : w131.cell? ⟨gb223, 0, none⟩ = some (.int .i64 0) := (blk_cell BK223.out 0).trans rfl; have hcz138_1 : w131.cell? ⟨gb223, 1, none⟩ = some (.int .i64 0) := (blk_cell BK223.out 1).trans rfl; have hcz138_2 : w131.cell? ⟨gb223, 2, none⟩ = some (.slice none 0 0) := (blk_cell BK223.out 2).trans rfl; have hfz138_0 := blk_frozen BK223.out 0; have hfz138_1 := blk_frozen BK223.out 1; have hfz138_2 := blk_frozen BK223.out 2; obtain ⟨Ao139, co139, eo139⟩ := Kd.R_slice HO221.out; subst eo139; have hnb140 := NB200_198.out; have hnc140 := NB198_200.out; have hnb141 := NB200_199.out; have hnc141 := NB199_200.out; have hnb142 := NB200_209.out; have hnc142 := NB209_200.out; have hcz143_0 : w131.cell? ⟨gb200, 0, none⟩ = some (.slice none 0 0) := (blk_cell BK200.out 0).trans rfl; have hcz143_1 : w131.cell? ⟨gb200, 1, none⟩ = some (.slice none 0 0) := (blk_cell BK200.out 1).trans rfl; have hfz143_0 := blk_frozen BK200.out 0; have hfz143_1 := blk_frozen BK200.out 1))
                   refine bodyPost_ret (results_ct rfl _ _ gb200 25 #[.slice none 0 0, .slice none 0 0] (0, 0) _ rfl (by (with_reducible repeat (first|refine blk_drewN ?_ _|refine blk_drew ?_|refine blk_alloc ?_ _));refine blk_put (cs := #[.slice none 0 0, .slice none 0 0]) ?_ 1 _ rfl;(with_reducible repeat (first|refine blk_drewN ?_ _|refine blk_drew ?_|refine blk_alloc ?_ _));refine blk_put (cs := #[.slice none 0 0, .slice none 0 0]) ?_ 0 _ rfl;(with_reducible repeat (first|refine blk_drewN ?_ _|refine blk_drew ?_|refine blk_alloc ?_ _));refine blk_far ?_ NB200_223.out _;(with_reducible repeat (first|refine blk_drewN ?_ _|refine blk_drew ?_|refine blk_alloc ?_ _));refine blk_far ?_ NB200_223.out _;(with_reducible repeat (first|refine blk_drewN ?_ _|refine blk_drew ?_|refine blk_alloc ?_ _));refine blk_far ?_ NB200_223.out _;(with_reducible repeat (first|refine blk_drewN ?_ _|refine blk_drew ?_|refine blk_alloc ?_ _));exact BK200.out) Try.underlying25 rfl (by kernel_rfl)) rfl ?_
                   exact ⟨_, _, by first|rfl|(simp [errW_none, errW_some] <;> rfl)|(simp only [← hji57, ← hji61];first|rfl|(simp [errW_none, errW_some] <;> rfl))|(simp [*, errW_none, errW_some] <;> rfl), by first|exact Kd.R_nil _ _ _ _ _|exact Kd.N_nil _ _ _ _ _|exact Kd.V_nil _ _ _ _ _|exact Kd.Q_nil _ _ _ _ _|exact Kd.S_nil _ _ _ _ _, by first|exact Kd.R_nil _ _ _ _ _|exact Kd.N_nil _ _ _ _ _|exact Kd.V_nil _ _ _ _ _|exact Kd.Q_nil _ _ _ _ _|exact Kd.S_nil _ _ _ _ _, by repeat (first|(with_reducible first|exact HB.out|apply below_alloc|apply pw_below_drewN|apply below_drew1|refine below_set ?_ GE198.out|refine below_set ?_ GE199.out|refine below_set ?_ GE200.out|refine below_set ?_ GE209.out|refine below_set ?_ GE214.out|refine below_set ?_ GE216.out|refine below_set ?_ GE223.out)|exact HB.out)⟩
                 ·rw [if_neg c63] at H
                  exact absurd H (by simp)
                ·rw [if_neg c62] at H
                 exact absurd H (by simp)
              ·rw [if_neg c59] at H
               exact absurd H (by simp)
             ·rw [if_neg c58] at H
              exact absurd H (by simp)
           ·rw [if_neg c55] at H
            have c55b0 : decide (x15_2 < t207) = false := decide_eq_false c55
            clear c55
            simp only [Option.some.injEq, Prod.mk.injEq] at H
            obtain ⟨rfl, rfl, rfl⟩ := H
            have hnb144 := NB209_198.out
            have hnc144 := NB198_209.out
            have hnb145 := NB209_199.out
            have hnc145 := NB199_209.out
            have hnb146 := NB209_200.out
            have hnc146 := NB200_209.out
            have hcz147_0 : wr.cell? ⟨gb209, 0, none⟩ = some (.slice Ao53 y210.length co53) := (blk_cell BK209.out 0).trans rfl
            have hcz147_1 : wr.cell? ⟨gb209, 1, none⟩ = some (u210001) := (blk_cell BK209.out 1).trans rfl
            have hfz147_0 := blk_frozen BK209.out 0
            have hfz147_1 := blk_frozen BK209.out 1
            have hnb148 := NB200_198.out
            have hnc148 := NB198_200.out
            have hnb149 := NB200_199.out
            have hnc149 := NB199_200.out
            have hcz150_0 : wr.cell? ⟨gb200, 0, none⟩ = some (.slice none 0 0) := (blk_cell BK200.out 0).trans rfl
            have hcz150_1 : wr.cell? ⟨gb200, 1, none⟩ = some (.slice none 0 0) := (blk_cell BK200.out 1).trans rfl
            have hfz150_0 := blk_frozen BK200.out 0
            have hfz150_1 := blk_frozen BK200.out 1
            obtain ⟨Ao151, co151, eo151⟩ := Kd.R_slice HO_210001.out
            subst eo151
            go_wp2
            refine bodyPost_ret (results_ct rfl _ _ gb200 25 #[.slice Ao53 y210.length co53, .slice Ao151 x210001_2.length co151] (0, 0) _ rfl (by (with_reducible repeat (first|refine blk_drewN ?_ _|refine blk_drew ?_|refine blk_alloc ?_ _));refine blk_put (cs := #[.slice Ao53 y210.length co53, .slice none 0 0]) ?_ 1 _ rfl;(with_reducible repeat (first|refine blk_drewN ?_ _|refine blk_drew ?_|refine blk_alloc ?_ _));refine blk_put (cs := #[.slice none 0 0, .slice none 0 0]) ?_ 0 _ rfl;(with_reducible repeat (first|refine blk_drewN ?_ _|refine blk_drew ?_|refine blk_alloc ?_ _));exact BK200.out) Try.underlying25 rfl (by kernel_rfl)) rfl ?_
            exact ⟨_, _, by first|rfl|(simp [errW_none, errW_some] <;> rfl)|(simp [*, errW_none, errW_some] <;> rfl), by (with_reducible repeat (first|apply Kd.R_alloc|apply Kd.R_drewN|apply Kd.R_drew));exact Kd.R_mono (Kd.R_far (p := ⟨gb200, 1, none⟩) (Kd.R_far (p := ⟨gb200, 0, none⟩) (Kd.R_types HO_210000.out BK200.out (by decide)) (fun _ hk => hk.2) (.slice Ao53 y210.length co53)) (fun _ hk => hk.2) (.slice Ao151 x210001_2.length co151)) (fun _ hk => trivial), by (with_reducible repeat (first|apply Kd.R_alloc|apply Kd.R_drewN|apply Kd.R_drew));exact Kd.R_mono (Kd.R_far (p := ⟨gb200, 1, none⟩) (Kd.R_far (p := ⟨gb200, 0, none⟩) (Kd.R_mono HO_210001.out (fun k_ hk => (⟨hk, hk.2.2.2.1⟩ : _ ∧ k_ ≠ gb200))) (fun _ hk => hk.2) (.slice Ao53 y210.length co53)) (fun _ hk => hk.2) (.slice Ao151 x210001_2.length co151)) (fun _ hk => hk.1.1), by repeat (first|(with_reducible first|exact HB.out|apply below_alloc|apply pw_below_drewN|apply below_drew1|refine below_set ?_ GE198.out|refine below_set ?_ GE199.out|refine below_set ?_ GE200.out|refine below_set ?_ GE209.out)|exact HB.out)⟩
        ·rw [if_neg c39] at H
         exact absurd H (by simp)
       ·rw [if_neg c37] at H
        have c37b0 : (t206 == 0) = false := beq_eq_false_iff_ne.mpr c37
        have c37b1 : (t206 != 0) = true := bne_iff_ne.mpr c37
        simp only [Option.some.injEq, Prod.mk.injEq] at H
        obtain ⟨rfl, rfl, rfl⟩ := H
        have hnb152 := NB198_199.out
        have hnc152 := NB199_198.out
        have hnb153 := NB198_200.out
        have hnc153 := NB200_198.out
        have hcz154_0 : wc.cell? ⟨gb198, 0, none⟩ = some (.slice A1_0 l1_0.length c1_0) := (blk_cell BK198.out 0).trans rfl
        have hcz154_1 : wc.cell? ⟨gb198, 1, none⟩ = some (.slice A1_1 l1_1.length c1_1) := (blk_cell BK198.out 1).trans rfl
        have hfz154_0 := blk_frozen BK198.out 0
        have hfz154_1 := blk_frozen BK198.out 1
        have hnb155 := NB199_200.out
        have hnc155 := NB200_199.out
        have hcz156_0 : wc.cell? ⟨gb199, 0, none⟩ = some (.slice A2_0 l2_0.length c2_0) := (blk_cell BK199.out 0).trans rfl
        have hcz156_1 : wc.cell? ⟨gb199, 1, none⟩ = some (.slice A2_1 l2_1.length c2_1) := (blk_cell BK199.out 1).trans rfl
        have hfz156_0 := blk_frozen BK199.out 0
        have hfz156_1 := blk_frozen BK199.out 1
        go_wp2_with (first|((with_reducible refine gate_callee (f := 56) rfl ?_);refine goesL_ (some 47) rfl rfl Try.func56 (by kernel_rfl) rfl #[.slice A1_0 l1_0.length c1_0, .slice A2_0 l2_0.length c2_0] rfl (by (try simp only [List.map_toArray, List.map_cons, List.map_nil]);first|done|rfl|(simp only [List.length_drop, List.length_take];rfl)) ?_;(with_reducible refine (triglyphref04_Agree.calls (fun k_ => k_ < w.heap.size) _ _ l1_0 (fun k_ => k_ < w.heap.size) _ _ l2_0 t203 t206 _ ?side1 ?side2 A36.out).mono ?_);(case side1 => exact Kd.V_mk HC1_0.out (Kd.F_below (Kd.C_F (Kd.heap_int .i64) HR1_0.out) (by repeat (first|(with_reducible first|exact HB.out|apply below_alloc|apply pw_below_drewN|apply below_drew1|refine below_set ?_ GE198.out|refine below_set ?_ GE199.out|refine below_set ?_ GE200.out)|exact HB.out))));(case side2 => exact Kd.V_mk HC2_0.out (Kd.F_below (Kd.C_F (Kd.heap_int .i64) HR2_0.out) (by repeat (first|(with_reducible first|exact HB.out|apply below_alloc|apply pw_below_drewN|apply below_drew1|refine below_set ?_ GE198.out|refine below_set ?_ GE199.out|refine below_set ?_ GE200.out)|exact HB.out))));rintro e w157 ⟨v204, rfl, ho0, hb⟩;refine ⟨_, rfl, ?_⟩;have n0_ := Aside0.mk (Kd.V_lower (Kd.V_mono (ok' := fun k_ => k_ ≠ gb198 ∧ k_ ≠ gb199 ∧ k_ ≠ gb200) ho0 (fun k_ hk_ => ⟨Or.elim hk_ (fun hs_ => Or.elim hs_ (fun hs_ => fun e_ => Nat.not_le.2 hs_ (by rw [e_];exact GW198.out)) (fun hs_ => fun e_ => Nat.not_le.2 hs_ (by rw [e_];exact GW198.out))) (fun hn_ => (Kd.freshB (g := gb198) (o := .cells #[.slice A1_0 l1_0.length c1_0, .slice A1_1 l1_1.length c1_1] 25 (0, 0)) (by (with_reducible repeat (first|refine blk_drewN ?_ _|refine blk_drew ?_|refine blk_alloc ?_ _));exact BK198.out) k_ hn_)), Or.elim hk_ (fun hs_ => Or.elim hs_ (fun hs_ => fun e_ => Nat.not_le.2 hs_ (by rw [e_];exact GW199.out)) (fun hs_ => fun e_ => Nat.not_le.2 hs_ (by rw [e_];exact GW199.out))) (fun hn_ => (Kd.freshB (g := gb199) (o := .cells #[.slice A2_0 l2_0.length c2_0, .slice A2_1 l2_1.length c2_1] 25 (0, 0)) (by (with_reducible repeat (first|refine blk_drewN ?_ _|refine blk_drew ?_|refine blk_alloc ?_ _));exact BK199.out) k_ hn_)), Or.elim hk_ (fun hs_ => Or.elim hs_ (fun hs_ => fun e_ => Nat.not_le.2 hs_ (by rw [e_];exact GW200.out)) (fun hs_ => fun e_ => Nat.not_le.2 hs_ (by rw [e_];exact GW200.out))) (fun hn_ => (Kd.freshB (g := gb200) (o := .cells #[.slice none 0 0, .slice none 0 0] 25 (0, 0)) (by (with_reducible repeat (first|refine blk_drewN ?_ _|refine blk_drew ?_|refine blk_alloc ?_ _));exact BK200.out) k_ hn_))⟩)) (below_size (by repeat (first|(with_reducible first|exact HB.out|apply below_alloc|apply pw_below_drewN|apply below_drew1|refine below_set ?_ GE198.out|refine below_set ?_ GE199.out|refine below_set ?_ GE200.out)|exact HB.out))));have n1_ := Aside0.mk (blk_below (g := gb198) (o := .cells #[.slice A1_0 l1_0.length c1_0, .slice A1_1 l1_1.length c1_1] 25 (0, 0)) (by (with_reducible repeat (first|refine blk_drewN ?_ _|refine blk_drew ?_|refine blk_alloc ?_ _));exact BK198.out) hb);have n2_ := Aside0.mk (blk_below (g := gb199) (o := .cells #[.slice A2_0 l2_0.length c2_0, .slice A2_1 l2_1.length c2_1] 25 (0, 0)) (by (with_reducible repeat (first|refine blk_drewN ?_ _|refine blk_drew ?_|refine blk_alloc ?_ _));exact BK199.out) hb);have n3_ := Aside0.mk (blk_below (g := gb200) (o := .cells #[.slice none 0 0, .slice none 0 0] 25 (0, 0)) (by (with_reducible repeat (first|refine blk_drewN ?_ _|refine blk_drew ?_|refine blk_alloc ?_ _));exact BK200.out) hb);have n4_ := Aside0.mk (below_step (by repeat (first|(with_reducible first|exact HB.out|apply below_alloc|apply pw_below_drewN|apply below_drew1|refine below_set ?_ GE198.out|refine below_set ?_ GE199.out|refine below_set ?_ GE200.out)|exact HB.out)) hb);clear BK198;clear BK199;clear BK200;clear HB;have HO205 := n0_;have BK198 := n1_;have BK199 := n2_;have BK200 := n3_;have HB := n4_;clear n0_ n1_ n2_ n3_ n4_;(try clear hb);(try clear hb2);(try clear hk);(try clear hi);(try clear ho0);have hcz158_0 : w157.cell? ⟨gb200, 0, none⟩ = some (.slice none 0 0) := (blk_cell BK200.out 0).trans rfl;have hcz158_1 : w157.cell? ⟨gb200, 1, none⟩ = some (.slice none 0 0) := (blk_cell BK200.out 1).trans rfl;have hfz158_0 := blk_frozen BK200.out 0;have hfz158_1 := blk_frozen BK200.out 1))
        refine bodyPost_ret (results_ct rfl _ _ gb200 25 #[.slice none 0 0, .slice none 0 0] (0, 0) _ rfl (by (with_reducible repeat (first|refine blk_drewN ?_ _|refine blk_drew ?_|refine blk_alloc ?_ _));refine blk_put (cs := #[.slice none 0 0, .slice none 0 0]) ?_ 1 _ rfl;(with_reducible repeat (first|refine blk_drewN ?_ _|refine blk_drew ?_|refine blk_alloc ?_ _));refine blk_put (cs := #[.slice none 0 0, .slice none 0 0]) ?_ 0 _ rfl;(with_reducible repeat (first|refine blk_drewN ?_ _|refine blk_drew ?_|refine blk_alloc ?_ _));exact BK200.out) Try.underlying25 rfl (by kernel_rfl)) rfl ?_
        exact ⟨_, _, by first|rfl|(simp [errW_none, errW_some] <;> rfl)|(simp [*, errW_none, errW_some] <;> rfl), by first|exact Kd.R_nil _ _ _ _ _|exact Kd.N_nil _ _ _ _ _|exact Kd.V_nil _ _ _ _ _|exact Kd.Q_nil _ _ _ _ _|exact Kd.S_nil _ _ _ _ _, by first|exact Kd.R_nil _ _ _ _ _|exact Kd.N_nil _ _ _ _ _|exact Kd.V_nil _ _ _ _ _|exact Kd.Q_nil _ _ _ _ _|exact Kd.S_nil _ _ _ _ _, by repeat (first|(with_reducible first|exact HB.out|apply below_alloc|apply pw_below_drewN|apply below_drew1|refine below_set ?_ GE198.out|refine below_set ?_ GE199.out|refine below_set ?_ GE200.out)|exact HB.out)⟩
  ·rw [if_neg c7] at H
   have c7b0 : (t202 == 0) = false := beq_eq_false_iff_ne.mpr c7
   have c7b1 : (t202 != 0) = true := bne_iff_ne.mpr c7
   simp only [Option.some.injEq, Prod.mk.injEq] at H
   obtain ⟨rfl, rfl, rfl⟩ := H
   go_enter Try.func54, Try.ntmps54
   go_wp2_with (first|((with_reducible refine gate_dst (N := 4) rfl ?_);refine box_event ?hg (N := 4) ?hd (cs := #[.slice A1_0 l1_0.length c1_0, .slice A1_1 l1_1.length c1_1]) (t := 25) ?hr ?_;(case hd => rfl);(case hg => rfl);(case hr => first|(go_simp;done)|(go_simp;rfl));intro gb198 hg w159 hbox hb;have n0_ := Aside0.mk (below_step (by repeat (first|(with_reducible first|exact HB.out|apply below_alloc|apply pw_below_drewN|apply below_drew1)|exact HB.out)) hb);have n1_ := Aside0.mk (hbox);have n2_ := Aside0.mk ((by rw [hg];exact (below_size (by repeat (first|(with_reducible first|exact HB.out|apply below_alloc|apply pw_below_drewN|apply below_drew1)|exact HB.out))) : w.heap.size ≤ gb198));have n3_ := Aside0.mk ((by rw [hg];exact (below_size (by repeat (first|(with_reducible first|exact HB.out|apply below_alloc|apply pw_below_drewN|apply below_drew1)|exact HB.out))) : w.heap.size ≤ gb198));clear HB;have HB := n0_;have BK198 := n1_;have GW198 := n2_;have GE198 := n3_;clear n0_ n1_ n2_ n3_;clear hb hbox hg)|((with_reducible refine gate_dst (N := 5) rfl ?_);refine box_event ?hg (N := 5) ?hd (cs := #[.slice A2_0 l2_0.length c2_0, .slice A2_1 l2_1.length c2_1]) (t := 25) ?hr ?_;(case hd => rfl);(case hg => rfl);(case hr => first|(go_simp;done)|(go_simp;rfl));intro gb199 hg w160 hbox hb;have n0_ := Aside0.mk (blk_below (g := gb198) (o := .cells #[.slice A1_0 l1_0.length c1_0, .slice A1_1 l1_1.length c1_1] 25 (0, 0)) (by (with_reducible repeat (first|refine blk_drewN ?_ _|refine blk_drew ?_|refine blk_alloc ?_ _));exact BK198.out) hb);have n1_ := Aside0.mk (below_step (by repeat (first|(with_reducible first|exact HB.out|apply below_alloc|apply pw_below_drewN|apply below_drew1|refine below_set ?_ GE198.out)|exact HB.out)) hb);have n2_ := Aside0.mk (hbox);have n3_ := Aside0.mk ((by rw [hg];exact (below_size (by repeat (first|(with_reducible first|exact HB.out|apply below_alloc|apply pw_below_drewN|apply below_drew1|refine below_set ?_ GE198.out)|exact HB.out))) : w.heap.size ≤ gb199));have n4_ := Aside0.mk ((by rw [hg];exact (below_size (by repeat (first|(with_reducible first|exact HB.out|apply below_alloc|apply pw_below_drewN|apply below_drew1|refine below_set ?_ GE198.out)|exact HB.out))) : w.heap.size ≤ gb199));have n5_ := Aside0.mk ((by rw [hg];exact Nat.ne_of_lt (blk_lt (g := gb198) (o := .cells #[.slice A1_0 l1_0.length c1_0, .slice A1_1 l1_1.length c1_1] 25 (0, 0)) (by (with_reducible repeat (first|refine blk_drewN ?_ _|refine blk_drew ?_|refine blk_alloc ?_ _));exact BK198.out)) : gb198 ≠ gb199));have n6_ := Aside0.mk ((by rw [hg];exact Nat.ne_of_gt (blk_lt (g := gb198) (o := .cells #[.slice A1_0 l1_0.length c1_0, .slice A1_1 l1_1.length c1_1] 25 (0, 0)) (by (with_reducible repeat (first|refine blk_drewN ?_ _|refine blk_drew ?_|refine blk_alloc ?_ _));exact BK198.out)) : gb199 ≠ gb198));clear BK198;clear HB;have BK198 := n0_;have HB := n1_;have BK199 := n2_;have GW199 := n3_;have GE199 := n4_;have NB198_199 := n5_;have NB199_198 := n6_;clear n0_ n1_ n2_ n3_ n4_ n5_ n6_;clear hb hbox hg)|((with_reducible refine gate_dst (N := 6) rfl ?_);refine box_event ?hg (N := 6) ?hd (cs := #[.slice none 0 0, .slice none 0 0]) (t := 25) ?hr ?_;(case hd => rfl);(case hg => rfl);(case hr => first|(go_simp;done)|(go_simp;rfl));intro gb200 hg w161 hbox hb;have n0_ := Aside0.mk (blk_below (g := gb198) (o := .cells #[.slice A1_0 l1_0.length c1_0, .slice A1_1 l1_1.length c1_1] 25 (0, 0)) (by (with_reducible repeat (first|refine blk_drewN ?_ _|refine blk_drew ?_|refine blk_alloc ?_ _));exact BK198.out) hb);have n1_ := Aside0.mk (blk_below (g := gb199) (o := .cells #[.slice A2_0 l2_0.length c2_0, .slice A2_1 l2_1.length c2_1] 25 (0, 0)) (by (with_reducible repeat (first|refine blk_drewN ?_ _|refine blk_drew ?_|refine blk_alloc ?_ _));exact BK199.out) hb);have n2_ := Aside0.mk (below_step (by repeat (first|(with_reducible first|exact HB.out|apply below_alloc|apply pw_below_drewN|apply below_drew1|refine below_set ?_ GE198.out|refine below_set ?_ GE199.out)|exact HB.out)) hb);have n3_ := Aside0.mk (hbox);have n4_ := Aside0.mk ((by rw [hg];exact (below_size (by repeat (first|(with_reducible first|exact HB.out|apply below_alloc|apply pw_below_drewN|apply below_drew1|refine below_set ?_ GE198.out|refine below_set ?_ GE199.out)|exact HB.out))) : w.heap.size ≤ gb200));have n5_ := Aside0.mk ((by rw [hg];exact (below_size (by repeat (first|(with_reducible first|exact HB.out|apply below_alloc|apply pw_below_drewN|apply below_drew1|refine below_set ?_ GE198.out|refine below_set ?_ GE199.out)|exact HB.out))) : w.heap.size ≤ gb200));have n6_ := Aside0.mk ((by rw [hg];exact Nat.ne_of_lt (blk_lt (g := gb198) (o := .cells #[.slice A1_0 l1_0.length c1_0, .slice A1_1 l1_1.length c1_1] 25 (0, 0)) (by (with_reducible repeat (first|refine blk_drewN ?_ _|refine blk_drew ?_|refine blk_alloc ?_ _));exact BK198.out)) : gb198 ≠ gb200));have n7_ := Aside0.mk ((by rw [hg];exact Nat.ne_of_gt (blk_lt (g := gb198) (o := .cells #[.slice A1_0 l1_0.length c1_0, .slice A1_1 l1_1.length c1_1] 25 (0, 0)) (by (with_reducible repeat (first|refine blk_drewN ?_ _|refine blk_drew ?_|refine blk_alloc ?_ _));exact BK198.out)) : gb200 ≠ gb198));have n8_ := Aside0.mk ((by rw [hg];exact Nat.ne_of_lt (blk_lt (g := gb199) (o := .cells #[.slice A2_0 l2_0.length c2_0, .slice A2_1 l2_1.length c2_1] 25 (0, 0)) (by (with_reducible repeat (first|refine blk_drewN ?_ _|refine blk_drew ?_|refine blk_alloc ?_ _));exact BK199.out)) : gb199 ≠ gb200));have n9_ := Aside0.mk ((by rw [hg];exact Nat.ne_of_gt (blk_lt (g := gb199) (o := .cells #[.slice A2_0 l2_0.length c2_0, .slice A2_1 l2_1.length c2_1] 25 (0, 0)) (by (with_reducible repeat (first|refine blk_drewN ?_ _|refine blk_drew ?_|refine blk_alloc ?_ _));exact BK199.out)) : gb200 ≠ gb199));clear BK198;clear BK199;clear HB;have BK198 := n0_;have BK199 := n1_;have HB := n2_;have BK200 := n3_;have GW200 := n4_;have GE200 := n5_;have NB198_200 := n6_;have NB200_198 := n7_;have NB199_200 := n8_;have NB200_199 := n9_;clear n0_ n1_ n2_ n3_ n4_ n5_ n6_ n7_ n8_ n9_;clear hb hbox hg;have hnb162 := NB198_199.out;have hnc162 := NB199_198.out;have hnb163 := NB198_200.out;have hnc163 := NB200_198.out;have hcz164_0 : w161.cell? ⟨gb198, 0, none⟩ = some (.slice A1_0 l1_0.length c1_0) := (blk_cell BK198.out 0).trans rfl;have hcz164_1 : w161.cell? ⟨gb198, 1, none⟩ = some (.slice A1_1 l1_1.length c1_1) := (blk_cell BK198.out 1).trans rfl;have hfz164_0 := blk_frozen BK198.out 0;have hfz164_1 := blk_frozen BK198.out 1)|((with_reducible refine gate_callee (f := 19) rfl ?_);refine goesL_ (some 21) rfl rfl Try.func19 (by kernel_rfl) rfl #[.agg #[.slice A1_0 l1_0.length c1_0, .slice A1_1 l1_1.length c1_1]] rfl (by (try simp only [List.map_toArray, List.map_cons, List.map_nil]);first|done|rfl|(simp only [List.length_drop, List.length_take];rfl)) ?_;(with_reducible refine (triglyphref03_Check.calls _ _ l1_0 _ _ l1_1 t201 _ ?side1 ?side2 ?side3 ?side4 A4.out).mono ?_);(case side1 => repeat (first|exact (Kd.C_below HR1_0.out HB.out)|(with_reducible refine Kd.C_alloc ?_ _)|(with_reducible refine Kd.C_drewN ?_ _)|(with_reducible refine Kd.C_drew ?_)));(case side2 => exact HC1_0.out);(case side3 => repeat (first|exact (Kd.C_below HR1_1.out HB.out)|(with_reducible refine Kd.C_alloc ?_ _)|(with_reducible refine Kd.C_drewN ?_ _)|(with_reducible refine Kd.C_drew ?_)));(case side4 => exact HC1_1.out);rintro e w165 ⟨rfl, hb⟩;refine ⟨_, rfl, ?_⟩;have n0_ := Aside0.mk (blk_below (g := gb198) (o := .cells #[.slice A1_0 l1_0.length c1_0, .slice A1_1 l1_1.length c1_1] 25 (0, 0)) (by (with_reducible repeat (first|refine blk_drewN ?_ _|refine blk_drew ?_|refine blk_alloc ?_ _));exact BK198.out) hb);have n1_ := Aside0.mk (blk_below (g := gb199) (o := .cells #[.slice A2_0 l2_0.length c2_0, .slice A2_1 l2_1.length c2_1] 25 (0, 0)) (by (with_reducible repeat (first|refine blk_drewN ?_ _|refine blk_drew ?_|refine blk_alloc ?_ _));exact BK199.out) hb);have n2_ := Aside0.mk (blk_below (g := gb200) (o := .cells #[.slice none 0 0, .slice none 0 0] 25 (0, 0)) (by (with_reducible repeat (first|refine blk_drewN ?_ _|refine blk_drew ?_|refine blk_alloc ?_ _));exact BK200.out) hb);have n3_ := Aside0.mk (below_step (by repeat (first|(with_reducible first|exact HB.out|apply below_alloc|apply pw_below_drewN|apply below_drew1|refine below_set ?_ GE198.out|refine below_set ?_ GE199.out|refine below_set ?_ GE200.out)|exact HB.out)) hb);clear BK198;clear BK199;clear BK200;clear HB;have BK198 := n0_;have BK199 := n1_;have BK200 := n2_;have HB := n3_;clear n0_ n1_ n2_ n3_;(try clear hb);(try clear hb2);(try clear hk);(try clear hi);have hnb166 := NB199_200.out;have hnc166 := NB200_199.out;have hcz167_0 : w165.cell? ⟨gb199, 0, none⟩ = some (.slice A2_0 l2_0.length c2_0) := (blk_cell BK199.out 0).trans rfl;have hcz167_1 : w165.cell? ⟨gb199, 1, none⟩ = some (.slice A2_1 l2_1.length c2_1) := (blk_cell BK199.out 1).trans rfl;have hfz167_0 := blk_frozen BK199.out 0;have hfz167_1 := blk_frozen BK199.out 1)|((with_reducible refine gate_callee (f := 19) rfl ?_);refine goesL_ (some 27) rfl rfl Try.func19 (by kernel_rfl) rfl #[.agg #[.slice A2_0 l2_0.length c2_0, .slice A2_1 l2_1.length c2_1]] rfl (by (try simp only [List.map_toArray, List.map_cons, List.map_nil]);first|done|rfl|(simp only [List.length_drop, List.length_take];rfl)) ?_;(with_reducible refine (triglyphref03_Check.calls _ _ l2_0 _ _ l2_1 t202 _ ?side1 ?side2 ?side3 ?side4 A6.out).mono ?_);(case side1 => repeat (first|exact (Kd.C_below HR2_0.out HB.out)|(with_reducible refine Kd.C_alloc ?_ _)|(with_reducible refine Kd.C_drewN ?_ _)|(with_reducible refine Kd.C_drew ?_)));(case side2 => exact HC2_0.out);(case side3 => repeat (first|exact (Kd.C_below HR2_1.out HB.out)|(with_reducible refine Kd.C_alloc ?_ _)|(with_reducible refine Kd.C_drewN ?_ _)|(with_reducible refine Kd.C_drew ?_)));(case side4 => exact HC2_1.out);rintro e w168 ⟨rfl, hb⟩;refine ⟨_, rfl, ?_⟩;have n0_ := Aside0.mk (blk_below (g := gb198) (o := .cells #[.slice A1_0 l1_0.length c1_0, .slice A1_1 l1_1.length c1_1] 25 (0, 0)) (by (with_reducible repeat (first|refine blk_drewN ?_ _|refine blk_drew ?_|refine blk_alloc ?_ _));exact BK198.out) hb);have n1_ := Aside0.mk (blk_below (g := gb199) (o := .cells #[.slice A2_0 l2_0.length c2_0, .slice A2_1 l2_1.length c2_1] 25 (0, 0)) (by (with_reducible repeat (first|refine blk_drewN ?_ _|refine blk_drew ?_|refine blk_alloc ?_ _));exact BK199.out) hb);have n2_ := Aside0.mk (blk_below (g := gb200) (o := .cells #[.slice none 0 0, .slice none 0 0] 25 (0, 0)) (by (with_reducible repeat (first|refine blk_drewN ?_ _|refine blk_drew ?_|refine blk_alloc ?_ _));exact BK200.out) hb);have n3_ := Aside0.mk (below_step (by repeat (first|(with_reducible first|exact HB.out|apply below_alloc|apply pw_below_drewN|apply below_drew1|refine below_set ?_ GE198.out|refine below_set ?_ GE199.out|refine below_set ?_ GE200.out)|exact HB.out)) hb);clear BK198;clear BK199;clear BK200;clear HB;have BK198 := n0_;have BK199 := n1_;have BK200 := n2_;have HB := n3_;clear n0_ n1_ n2_ n3_;(try clear hb);(try clear hb2);(try clear hk);(try clear hi);have hcz169_0 : w168.cell? ⟨gb200, 0, none⟩ = some (.slice none 0 0) := (blk_cell BK200.out 0).trans rfl;have hcz169_1 : w168.cell? ⟨gb200, 1, none⟩ = some (.slice none 0 0) := (blk_cell BK200.out 1).trans rfl;have hfz169_0 := blk_frozen BK200.out 0;have hfz169_1 := blk_frozen BK200.out 1))
   refine bodyPost_ret (results_ct rfl _ _ gb200 25 #[.slice none 0 0, .slice none 0 0] (0, 0) _ rfl (by (with_reducible repeat (first|refine blk_drewN ?_ _|refine blk_drew ?_|refine blk_alloc ?_ _));refine blk_put (cs := #[.slice none 0 0, .slice none 0 0]) ?_ 1 _ rfl;(with_reducible repeat (first|refine blk_drewN ?_ _|refine blk_drew ?_|refine blk_alloc ?_ _));refine blk_put (cs := #[.slice none 0 0, .slice none 0 0]) ?_ 0 _ rfl;(with_reducible repeat (first|refine blk_drewN ?_ _|refine blk_drew ?_|refine blk_alloc ?_ _));exact BK200.out) Try.underlying25 rfl (by kernel_rfl)) rfl ?_
   exact ⟨_, _, by first|rfl|(simp [errW_none, errW_some] <;> rfl)|(simp [*, errW_none, errW_some] <;> rfl), by first|exact Kd.R_nil _ _ _ _ _|exact Kd.N_nil _ _ _ _ _|exact Kd.V_nil _ _ _ _ _|exact Kd.Q_nil _ _ _ _ _|exact Kd.S_nil _ _ _ _ _, by first|exact Kd.R_nil _ _ _ _ _|exact Kd.N_nil _ _ _ _ _|exact Kd.V_nil _ _ _ _ _|exact Kd.Q_nil _ _ _ _ _|exact Kd.S_nil _ _ _ _ _, by repeat (first|(with_reducible first|exact HB.out|apply below_alloc|apply pw_below_drewN|apply below_drew1|refine below_set ?_ GE198.out|refine below_set ?_ GE199.out|refine below_set ?_ GE200.out)|exact HB.out)⟩
 ·rw [if_neg c5] at H
  have c5b0 : (t201 == 0) = false := beq_eq_false_iff_ne.mpr c5
  have c5b1 : (t201 != 0) = true := bne_iff_ne.mpr c5
  simp only [Option.some.injEq, Prod.mk.injEq] at H
  obtain ⟨rfl, rfl, rfl⟩ := H
  go_enter Try.func54, Try.ntmps54
  go_wp2_with (first|((with_reducible refine gate_dst (N := 4) rfl ?_);refine box_event ?hg (N := 4) ?hd (cs := #[.slice A1_0 l1_0.length c1_0, .slice A1_1 l1_1.length c1_1]) (t := 25) ?hr ?_;(case hd => rfl);(case hg => rfl);(case hr => first|(go_simp;done)|(go_simp;rfl));intro gb198 hg w170 hbox hb;have n0_ := Aside0.mk (below_step (by repeat (first|(with_reducible first|exact HB.out|apply below_alloc|apply pw_below_drewN|apply below_drew1)|exact HB.out)) hb);have n1_ := Aside0.mk (hbox);have n2_ := Aside0.mk ((by rw [hg];exact (below_size (by repeat (first|(with_reducible first|exact HB.out|apply below_alloc|apply pw_below_drewN|apply below_drew1)|exact HB.out))) : w.heap.size ≤ gb198));have n3_ := Aside0.mk ((by rw [hg];exact (below_size (by repeat (first|(with_reducible first|exact HB.out|apply below_alloc|apply pw_below_drewN|apply below_drew1)|exact HB.out))) : w.heap.size ≤ gb198));clear HB;have HB := n0_;have BK198 := n1_;have GW198 := n2_;have GE198 := n3_;clear n0_ n1_ n2_ n3_;clear hb hbox hg)|((with_reducible refine gate_dst (N := 5) rfl ?_);refine box_event ?hg (N := 5) ?hd (cs := #[.slice A2_0 l2_0.length c2_0, .slice A2_1 l2_1.length c2_1]) (t := 25) ?hr ?_;(case hd => rfl);(case hg => rfl);(case hr => first|(go_simp;done)|(go_simp;rfl));intro gb199 hg w171 hbox hb;have n0_ := Aside0.mk (blk_below (g := gb198) (o := .cells #[.slice A1_0 l1_0.length c1_0, .slice A1_1 l1_1.length c1_1] 25 (0, 0)) (by (with_reducible repeat (first|refine blk_drewN ?_ _|refine blk_drew ?_|refine blk_alloc ?_ _));exact BK198.out) hb);have n1_ := Aside0.mk (below_step (by repeat (first|(with_reducible first|exact HB.out|apply below_alloc|apply pw_below_drewN|apply below_drew1|refine below_set ?_ GE198.out)|exact HB.out)) hb);have n2_ := Aside0.mk (hbox);have n3_ := Aside0.mk ((by rw [hg];exact (below_size (by repeat (first|(with_reducible first|exact HB.out|apply below_alloc|apply pw_below_drewN|apply below_drew1|refine below_set ?_ GE198.out)|exact HB.out))) : w.heap.size ≤ gb199));have n4_ := Aside0.mk ((by rw [hg];exact (below_size (by repeat (first|(with_reducible first|exact HB.out|apply below_alloc|apply pw_below_drewN|apply below_drew1|refine below_set ?_ GE198.out)|exact HB.out))) : w.heap.size ≤ gb199));have n5_ := Aside0.mk ((by rw [hg];exact Nat.ne_of_lt (blk_lt (g := gb198) (o := .cells #[.slice A1_0 l1_0.length c1_0, .slice A1_1 l1_1.length c1_1] 25 (0, 0)) (by (with_reducible repeat (first|refine blk_drewN ?_ _|refine blk_drew ?_|refine blk_alloc ?_ _));exact BK198.out)) : gb198 ≠ gb199));have n6_ := Aside0.mk ((by rw [hg];exact Nat.ne_of_gt (blk_lt (g := gb198) (o := .cells #[.slice A1_0 l1_0.length c1_0, .slice A1_1 l1_1.length c1_1] 25 (0, 0)) (by (with_reducible repeat (first|refine blk_drewN ?_ _|refine blk_drew ?_|refine blk_alloc ?_ _));exact BK198.out)) : gb199 ≠ gb198));clear BK198;clear HB;have BK198 := n0_;have HB := n1_;have BK199 := n2_;have GW199 := n3_;have GE199 := n4_;have NB198_199 := n5_;have NB199_198 := n6_;clear n0_ n1_ n2_ n3_ n4_ n5_ n6_;clear hb hbox hg)|((with_reducible refine gate_dst (N := 6) rfl ?_);refine box_event ?hg (N := 6) ?hd (cs := #[.slice none 0 0, .slice none 0 0]) (t := 25) ?hr ?_;(case hd => rfl);(case hg => rfl);(case hr => first|(go_simp;done)|(go_simp;rfl));intro gb200 hg w172 hbox hb;have n0_ := Aside0.mk (blk_below (g := gb198) (o := .cells #[.slice A1_0 l1_0.length c1_0, .slice A1_1 l1_1.length c1_1] 25 (0, 0)) (by (with_reducible repeat (first|refine blk_drewN ?_ _|refine blk_drew ?_|refine blk_alloc ?_ _));exact BK198.out) hb);have n1_ := Aside0.mk (blk_below (g := gb199) (o := .cells #[.slice A2_0 l2_0.length c2_0, .slice A2_1 l2_1.length c2_1] 25 (0, 0)) (by (with_reducible repeat (first|refine blk_drewN ?_ _|refine blk_drew ?_|refine blk_alloc ?_ _));exact BK199.out) hb);have n2_ := Aside0.mk (below_step (by repeat (first|(with_reducible first|exact HB.out|apply below_alloc|apply pw_below_drewN|apply below_drew1|refine below_set ?_ GE198.out|refine below_set ?_ GE199.out)|exact HB.out)) hb);have n3_ := Aside0.mk (hbox);have n4_ := Aside0.mk ((by rw [hg];exact (below_size (by repeat (first|(with_reducible first|exact HB.out|apply below_alloc|apply pw_below_drewN|apply below_drew1|refine below_set ?_ GE198.out|refine below_set ?_ GE199.out)|exact HB.out))) : w.heap.size ≤ gb200));have n5_ := Aside0.mk ((by rw [hg];exact (below_size (by repeat (first|(with_reducible first|exact HB.out|apply below_alloc|apply pw_below_drewN|apply below_drew1|refine below_set ?_ GE198.out|refine below_set ?_ GE199.out)|exact HB.out))) : w.heap.size ≤ gb200));have n6_ := Aside0.mk ((by rw [hg];exact Nat.ne_of_lt (blk_lt (g := gb198) (o := .cells #[.slice A1_0 l1_0.length c1_0, .slice A1_1 l1_1.length c1_1] 25 (0, 0)) (by (with_reducible repeat (first|refine blk_drewN ?_ _|refine blk_drew ?_|refine blk_alloc ?_ _));exact BK198.out)) : gb198 ≠ gb200));have n7_ := Aside0.mk ((by rw [hg];exact Nat.ne_of_gt (blk_lt (g := gb198) (o := .cells #[.slice A1_0 l1_0.length c1_0, .slice A1_1 l1_1.length c1_1] 25 (0, 0)) (by (with_reducible repeat (first|refine blk_drewN ?_ _|refine blk_drew ?_|refine blk_alloc ?_ _));exact BK198.out)) : gb200 ≠ gb198));have n8_ := Aside0.mk ((by rw [hg];exact Nat.ne_of_lt (blk_lt (g := gb199) (o := .cells #[.slice A2_0 l2_0.length c2_0, .slice A2_1 l2_1.length c2_1] 25 (0, 0)) (by (with_reducible repeat (first|refine blk_drewN ?_ _|refine blk_drew ?_|refine blk_alloc ?_ _));exact BK199.out)) : gb199 ≠ gb200));have n9_ := Aside0.mk ((by rw [hg];exact Nat.ne_of_gt (blk_lt (g := gb199) (o := .cells #[.slice A2_0 l2_0.length c2_0, .slice A2_1 l2_1.length c2_1] 25 (0, 0)) (by (with_reducible repeat (first|refine blk_drewN ?_ _|refine blk_drew ?_|refine blk_alloc ?_ _));exact BK199.out)) : gb200 ≠ gb199));clear BK198;clear BK199;clear HB;have BK198 := n0_;have BK199 := n1_;have HB := n2_;have BK200 := n3_;have GW200 := n4_;have GE200 := n5_;have NB198_200 := n6_;have NB200_198 := n7_;have NB199_200 := n8_;have NB200_199 := n9_;clear n0_ n1_ n2_ n3_ n4_ n5_ n6_ n7_ n8_ n9_;clear hb hbox hg;have hnb173 := NB198_199.out;have hnc173 := NB199_198.out;have hnb174 := NB198_200.out;have hnc174 := NB200_198.out;have hcz175_0 : w172.cell? ⟨gb198, 0, none⟩ = some (.slice A1_0 l1_0.length c1_0) := (blk_cell BK198.out 0).trans rfl;have hcz175_1 : w172.cell? ⟨gb198, 1, none⟩ = some (.slice A1_1 l1_1.length c1_1) := (blk_cell BK198.out 1).trans rfl;have hfz175_0 := blk_frozen BK198.out 0;have hfz175_1 := blk_frozen BK198.out 1)|((with_reducible refine gate_callee (f := 19) rfl ?_);refine goesL_ (some 21) rfl rfl Try.func19 (by kernel_rfl) rfl #[.agg #[.slice A1_0 l1_0.length c1_0, .slice A1_1 l1_1.length c1_1]] rfl (by (try simp only [List.map_toArray, List.map_cons, List.map_nil]);first|done|rfl|(simp only [List.length_drop, List.length_take];rfl)) ?_;(with_reducible refine (triglyphref03_Check.calls _ _ l1_0 _ _ l1_1 t201 _ ?side1 ?side2 ?side3 ?side4 A4.out).mono ?_);(case side1 => repeat (first|exact (Kd.C_below HR1_0.out HB.out)|(with_reducible refine Kd.C_alloc ?_ _)|(with_reducible refine Kd.C_drewN ?_ _)|(with_reducible refine Kd.C_drew ?_)));(case side2 => exact HC1_0.out);(case side3 => repeat (first|exact (Kd.C_below HR1_1.out HB.out)|(with_reducible refine Kd.C_alloc ?_ _)|(with_reducible refine Kd.C_drewN ?_ _)|(with_reducible refine Kd.C_drew ?_)));(case side4 => exact HC1_1.out);rintro e w176 ⟨rfl, hb⟩;refine ⟨_, rfl, ?_⟩;have n0_ := Aside0.mk (blk_below (g := gb198) (o := .cells #[.slice A1_0 l1_0.length c1_0, .slice A1_1 l1_1.length c1_1] 25 (0, 0)) (by (with_reducible repeat (first|refine blk_drewN ?_ _|refine blk_drew ?_|refine blk_alloc ?_ _));exact BK198.out) hb);have n1_ := Aside0.mk (blk_below (g := gb199) (o := .cells #[.slice A2_0 l2_0.length c2_0, .slice A2_1 l2_1.length c2_1] 25 (0, 0)) (by (with_reducible repeat (first|refine blk_drewN ?_ _|refine blk_drew ?_|refine blk_alloc ?_ _));exact BK199.out) hb);have n2_ := Aside0.mk (blk_below (g := gb200) (o := .cells #[.slice none 0 0, .slice none 0 0] 25 (0, 0)) (by (with_reducible repeat (first|refine blk_drewN ?_ _|refine blk_drew ?_|refine blk_alloc ?_ _));exact BK200.out) hb);have n3_ := Aside0.mk (below_step (by repeat (first|(with_reducible first|exact HB.out|apply below_alloc|apply pw_below_drewN|apply below_drew1|refine below_set ?_ GE198.out|refine below_set ?_ GE199.out|refine below_set ?_ GE200.out)|exact HB.out)) hb);clear BK198;clear BK199;clear BK200;clear HB;have BK198 := n0_;have BK199 := n1_;have BK200 := n2_;have HB := n3_;clear n0_ n1_ n2_ n3_;(try clear hb);(try clear hb2);(try clear hk);(try clear hi);have hnb177 := NB200_199.out;have hnc177 := NB199_200.out;have hcz178_0 : w176.cell? ⟨gb200, 0, none⟩ = some (.slice none 0 0) := (blk_cell BK200.out 0).trans rfl;have hcz178_1 : w176.cell? ⟨gb200, 1, none⟩ = some (.slice none 0 0) := (blk_cell BK200.out 1).trans rfl;have hfz178_0 := blk_frozen BK200.out 0;have hfz178_1 := blk_frozen BK200.out 1))
  refine bodyPost_ret (results_ct rfl _ _ gb200 25 #[.slice none 0 0, .slice none 0 0] (0, 0) _ rfl (by (with_reducible repeat (first|refine blk_drewN ?_ _|refine blk_drew ?_|refine blk_alloc ?_ _));refine blk_put (cs := #[.slice none 0 0, .slice none 0 0]) ?_ 1 _ rfl;(with_reducible repeat (first|refine blk_drewN ?_ _|refine blk_drew ?_|refine blk_alloc ?_ _));refine blk_put (cs := #[.slice none 0 0, .slice none 0 0]) ?_ 0 _ rfl;(with_reducible repeat (first|refine blk_drewN ?_ _|refine blk_drew ?_|refine blk_alloc ?_ _));exact BK200.out) Try.underlying25 rfl (by kernel_rfl)) rfl ?_
  exact ⟨_, _, by first|rfl|(simp [errW_none, errW_some] <;> rfl)|(simp [*, errW_none, errW_some] <;> rfl), by first|exact Kd.R_nil _ _ _ _ _|exact Kd.N_nil _ _ _ _ _|exact Kd.V_nil _ _ _ _ _|exact Kd.Q_nil _ _ _ _ _|exact Kd.S_nil _ _ _ _ _, by first|exact Kd.R_nil _ _ _ _ _|exact Kd.N_nil _ _ _ _ _|exact Kd.V_nil _ _ _ _ _|exact Kd.Q_nil _ _ _ _ _|exact Kd.S_nil _ _ _ _ _, by repeat (first|(with_reducible first|exact HB.out|apply below_alloc|apply pw_below_drewN|apply below_drew1|refine below_set ?_ GE198.out|refine below_set ?_ GE199.out|refine below_set ?_ GE200.out)|exact HB.out)⟩

end Go.Proofs.Ytdfijdajkdkkfaa.XU
