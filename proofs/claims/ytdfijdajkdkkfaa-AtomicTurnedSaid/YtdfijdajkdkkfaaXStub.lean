-- Laid by wip/bin/xprint.sh out of wip/xp/stubs.py: contracts of this session, told as the printed ones are.
import Derived.Test.YtdfijdajkdkkfaaXU0
import Derived.Test.YtdfijdajkdkkfaaXHand
namespace Go.Proofs.Ytdfijdajkdkkfaa.XU
open Go.RowKit Go.Proofs.YtdfijdajkdkkfaaW.PrintWords Go.Proofs.YtdfijdajkdkkfaaW.PrintLast Go.Proofs.YtdfijdajkdkkfaaW.PrintMore
set_option linter.unusedVariables false
set_option linter.unusedSimpArgs false

open Go.Proofs.Ytdfijdajkdkkfaa
open T
def triglyphref03_Same.f (l0_0 : List Int) (l0_1 : List (S33)) (l1_0 : List Int) (l1_1 : List (S33)) : Option (Bool) := some (decide (T.cmpA ⟨l0_0, T.ofL l0_1⟩ ⟨l1_0, T.ofL l1_1⟩ = 0))
theorem triglyphref03_Same.calls (A0_0 : Option Addr) (c0_0 : Nat) (l0_0 : List Int) (A0_1 : Option Addr) (c0_1 : Nat) (l0_1 : List (S33)) (A1_0 : Option Addr) (c1_0 : Nat) (l1_0 : List Int) (A1_1 : Option Addr) (c1_1 : Nat) (l1_1 : List (S33)) (r : Bool) (w : World) (hr0_0 : Kd.C (Kd.int .i64) w A0_0 l0_0.length l0_0) (hc0_0 : l0_0.length ≤ c0_0) (hr0_1 : Kd.C k33 w A0_1 l0_1.length l0_1) (hc0_1 : l0_1.length ≤ c0_1) (hr1_0 : Kd.C (Kd.int .i64) w A1_0 l1_0.length l1_0) (hc1_0 : l1_0.length ≤ c1_0) (hr1_1 : Kd.C k33 w A1_1 l1_1.length l1_1) (hc1_1 : l1_1.length ≤ c1_1) (h : triglyphref03_Same.f l0_0 l0_1 l1_0 l1_1 = some r) :
    Calls Try.prog 22 #[.agg #[.slice A0_0 l0_0.length c0_0, .slice A0_1 l0_1.length c0_1], .agg #[.slice A1_0 l1_0.length c1_0, .slice A1_1 l1_1.length c1_1]] w fun e w' => e = .returned (.bool r) ∧ Below w.heap.size w w' := by
  unfold triglyphref03_Same.f at h
  have q := refSame_calls ⟨l0_0, T.ofL l0_1⟩ ⟨l1_0, T.ofL l1_1⟩ A0_0 A0_1 A1_0 A1_1 c0_0 c0_1 c1_0 c1_1 w hc0_0 (by simpa using hc0_1) hc1_0 (by simpa using hc1_1) hr0_0 (CC_of hr0_1) hr1_0 (CC_of hr1_1)
  simp only [Arr.shape_mk, Arr.cells_mk, ofL_length] at q
  obtain rfl := Option.some.inj h
  exact q.mono fun e w' hq => hq

def atomic_Dy.f (a0 : Int) (l1_0 : List Int) (l1_1 : List (S33)) (l2_0 : List Int) (l2_1 : List (S33)) : Option (List Int × (List (S33)) × Int) := if T.wfbA ⟨l1_0, T.ofL l1_1⟩ = true ∧ T.wfbA ⟨l2_0, T.ofL l2_1⟩ = true then some ((T.dyS a0 ⟨l1_0, T.ofL l1_1⟩ ⟨l2_0, T.ofL l2_1⟩).1.shape, T.toL (T.dyS a0 ⟨l1_0, T.ofL l1_1⟩ ⟨l2_0, T.ofL l2_1⟩).1.cells, (T.dyS a0 ⟨l1_0, T.ofL l1_1⟩ ⟨l2_0, T.ofL l2_1⟩).2) else none
theorem atomic_Dy.calls (a0 : Int) (A1_0 : Option Addr) (c1_0 : Nat) (l1_0 : List Int) (A1_1 : Option Addr) (c1_1 : Nat) (l1_1 : List (S33)) (A2_0 : Option Addr) (c2_0 : Nat) (l2_0 : List Int) (A2_1 : Option Addr) (c2_1 : Nat) (l2_1 : List (S33)) (r1 : List Int) (r2 : List (S33)) (r3 : Int) (w : World) (hr1_0 : Kd.C (Kd.int .i64) w A1_0 l1_0.length l1_0) (hc1_0 : l1_0.length ≤ c1_0) (hr1_1 : Kd.C k33 w A1_1 l1_1.length l1_1) (hc1_1 : l1_1.length ≤ c1_1) (hr2_0 : Kd.C (Kd.int .i64) w A2_0 l2_0.length l2_0) (hc2_0 : l2_0.length ≤ c2_0) (hr2_1 : Kd.C k33 w A2_1 l2_1.length l2_1) (hc2_1 : l2_1.length ≤ c2_1) (h : atomic_Dy.f a0 l1_0 l1_1 l2_0 l2_1 = some (r1, r2, r3)) :
    Calls Try.prog 53 #[.int .i64 a0, .agg #[.slice A1_0 l1_0.length c1_0, .slice A1_1 l1_1.length c1_1], .agg #[.slice A2_0 l2_0.length c2_0, .slice A2_1 l2_1.length c2_1]] w fun e w' => ∃ v0_ v1_ : Value, e = .returned (.tuple #[.agg #[v0_, v1_], .int .i64 r3]) ∧ Kd.V (Kd.int .i64) 3 w' w.heap.size (fun k_ => (w.heap.size ≤ k_)) v0_ r1 ∧ Kd.V k33 33 w' w.heap.size (fun k_ => (w.heap.size ≤ k_)) v1_ r2 ∧ Below w.heap.size w w' := by
  unfold atomic_Dy.f at h
  exact dy_shared a0 A1_0 A1_1 A2_0 A2_1 c1_0 c1_1 c2_0 c2_1 w hr1_0 hc1_0 hr1_1 hc1_1 hr2_0 hc2_0 hr2_1 hc2_1 h

def arr_Check.f (l0_0 : List Int) (l0_1 : List (S33)) : Option (Int) := some (T.chk 8 ⟨l0_0, T.ofL l0_1⟩)
theorem arr_Check.calls (A0_0 : Option Addr) (c0_0 : Nat) (l0_0 : List Int) (A0_1 : Option Addr) (c0_1 : Nat) (l0_1 : List (S33)) (r : Int) (w : World) (hr0_0 : Kd.C (Kd.int .i64) w A0_0 l0_0.length l0_0) (hc0_0 : l0_0.length ≤ c0_0) (hr0_1 : Kd.C k33 w A0_1 l0_1.length l0_1) (hc0_1 : l0_1.length ≤ c0_1) (h : arr_Check.f l0_0 l0_1 = some r) :
    Calls Try.prog 63 #[.agg #[.slice A0_0 l0_0.length c0_0, .slice A0_1 l0_1.length c0_1]] w fun e w' => e = .returned (.int .i64 r) ∧ Below w.heap.size w w' := by
  unfold arr_Check.f at h
  have q := arrCheck_calls ⟨l0_0, T.ofL l0_1⟩ A0_0 A0_1 c0_0 c0_1 w hc0_0 (by simpa using hc0_1) hr0_0 (CC_of hr0_1)
  simp only [Arr.shape_mk, Arr.cells_mk, ofL_length] at q
  obtain rfl := Option.some.inj h
  exact q.mono fun e w' hq => hq

def num_Sub.f (a0 : Int) (a1 : Int) : Option (Int × Int) := if T.in64 a0 ∧ T.in64 a1 then some (T.fit (a0 - a1)) else none
theorem num_Sub.calls (a0 : Int) (a1 : Int) (r1 : Int) (r2 : Int) (w : World) (h : num_Sub.f a0 a1 = some (r1, r2)) :
    Calls Try.prog 136 #[.int .i64 a0, .int .i64 a1] w fun e w' => e = .returned (.tuple #[.int .i64 r1, .int .i64 r2]) ∧ Below w.heap.size w w' := by
  unfold num_Sub.f at h
  by_cases hi : T.in64 a0 ∧ T.in64 a1
  · rw [if_pos hi] at h
    have e := Option.some.inj h
    refine (numSub_calls a0 a1 w hi.1 hi.2).mono ?_
    rintro e w' ⟨rfl, hb⟩
    exact ⟨by rw [e], by first | exact hb | (subst hb; exact Below.refl _ _)⟩
  · rw [if_neg hi] at h; cases h

def triglyphref03_Check.f (l0_0 : List Int) (l0_1 : List (S33)) : Option (Int) := some (T.chk 8 ⟨l0_0, T.ofL l0_1⟩)
theorem triglyphref03_Check.calls (A0_0 : Option Addr) (c0_0 : Nat) (l0_0 : List Int) (A0_1 : Option Addr) (c0_1 : Nat) (l0_1 : List (S33)) (r : Int) (w : World) (hr0_0 : Kd.C (Kd.int .i64) w A0_0 l0_0.length l0_0) (hc0_0 : l0_0.length ≤ c0_0) (hr0_1 : Kd.C k33 w A0_1 l0_1.length l0_1) (hc0_1 : l0_1.length ≤ c0_1) (h : triglyphref03_Check.f l0_0 l0_1 = some r) :
    Calls Try.prog 19 #[.agg #[.slice A0_0 l0_0.length c0_0, .slice A0_1 l0_1.length c0_1]] w fun e w' => e = .returned (.int .i64 r) ∧ Below w.heap.size w w' := by
  unfold triglyphref03_Check.f at h
  have q := refCheck_calls ⟨l0_0, T.ofL l0_1⟩ A0_0 A0_1 c0_0 c0_1 w hc0_0 (by simpa using hc0_1) hr0_0 (CC_of hr0_1)
  simp only [Arr.shape_mk, Arr.cells_mk, ofL_length] at q
  obtain rfl := Option.some.inj h
  exact q.mono fun e w' hq => hq

def triglyphref04_Cell.f (a0 : Int) (a1_0 : Int) (a1_1 : Int) (l1_2 : List (S25)) (a2_0 : Int) (a2_1 : Int) (l2_2 : List (S25)) : Option (Int × Int × (List (S25)) × Int) := if T.in64 a1_1 ∧ T.in64 a2_1 then some (0, (T.dyC a0 a1_0 a1_1 a2_0 a2_1).1, [], (T.dyC a0 a1_0 a1_1 a2_0 a2_1).2) else none
theorem triglyphref04_Cell.calls (a0 : Int) (a1_0 : Int) (a1_1 : Int) (A1_2 : Option Addr) (c1_2 : Nat) (l1_2 : List (S25)) (a2_0 : Int) (a2_1 : Int) (A2_2 : Option Addr) (c2_2 : Nat) (l2_2 : List (S25)) (r1 : Int) (r2 : Int) (r3 : List (S25)) (r4 : Int) (w : World) (hr1_2 : Kd.C k25 w A1_2 l1_2.length l1_2) (hc1_2 : l1_2.length ≤ c1_2) (hr2_2 : Kd.C k25 w A2_2 l2_2.length l2_2) (hc2_2 : l2_2.length ≤ c2_2) (h : triglyphref04_Cell.f a0 a1_0 a1_1 l1_2 a2_0 a2_1 l2_2 = some (r1, r2, r3, r4)) :
    Calls Try.prog 50 #[.int .i64 a0, .agg #[.int .i64 a1_0, .int .i64 a1_1, .slice A1_2 l1_2.length c1_2], .agg #[.int .i64 a2_0, .int .i64 a2_1, .slice A2_2 l2_2.length c2_2]] w fun e w' => ∃ v2_ : Value, e = .returned (.tuple #[.agg #[.int .i64 r1, .int .i64 r2, v2_], .int .i64 r4]) ∧ Kd.R k25 25 w' w.heap.size (fun _ => True) v2_ r3 ∧ Below w.heap.size w w' := by
  unfold triglyphref04_Cell.f at h
  by_cases hi : T.in64 a1_1 ∧ T.in64 a2_1
  · rw [if_pos hi] at h
    have e := Option.some.inj h
    simp only [Prod.mk.injEq] at e
    obtain ⟨rfl, rfl, rfl, rfl⟩ := e
    refine (refDyCell_calls a0 a1_0 a1_1 a2_0 a2_1 _ _ w hi.1 hi.2).mono ?_
    rintro e w' ⟨rfl, hb⟩
    exact ⟨_, rfl, Kd.R_nil _ _ _ _ _, hb⟩
  · rw [if_neg hi] at h; cases h

def triglyphref03_Ints.f (l0 : List Int) (l1 : List Int) : Option (Bool) := some (decide (l0 = l1))
theorem triglyphref03_Ints.calls (A0 : Option Addr) (c0 : Nat) (l0 : List Int) (A1 : Option Addr) (c1 : Nat) (l1 : List Int) (r : Bool) (w : World) (hr0 : Kd.C (Kd.int .i64) w A0 l0.length l0) (hc0 : l0.length ≤ c0) (hr1 : Kd.C (Kd.int .i64) w A1 l1.length l1) (hc1 : l1.length ≤ c1) (h : triglyphref03_Ints.f l0 l1 = some r) :
    Calls Try.prog 57 #[.slice A0 l0.length c0, .slice A1 l1.length c1] w fun e w' => e = .returned (.bool r) ∧ Below w.heap.size w w' := by
  unfold triglyphref03_Ints.f at h
  obtain rfl := Option.some.inj h
  exact refInts_calls l0 l1 A0 A1 c0 c1 w hc0 hc1 hr0 hr1

def triglyphref03_Size.f (l0 : List Int) : Option (Int × Int) := some (T.size l0)
theorem triglyphref03_Size.calls (A0 : Option Addr) (c0 : Nat) (l0 : List Int) (r1 : Int) (r2 : Int) (w : World) (hr0 : Kd.C (Kd.int .i64) w A0 l0.length l0) (hc0 : l0.length ≤ c0) (h : triglyphref03_Size.f l0 = some (r1, r2)) :
    Calls Try.prog 91 #[.slice A0 l0.length c0] w fun e w' => e = .returned (.tuple #[.int .i64 r1, .int .i64 r2]) ∧ Drawn0 w w' := by
  unfold triglyphref03_Size.f at h
  have e := Option.some.inj h
  refine (refSize_calls A0 c0 l0 w hr0 hc0).mono ?_
  rintro e w' ⟨rfl, rfl⟩
  exact ⟨by rw [e], Drawn0.refl _⟩

def arr_Same.f (l0_0 : List Int) (l0_1 : List (S33)) (l1_0 : List Int) (l1_1 : List (S33)) : Option (Bool) := some (decide (T.cmpA ⟨l0_0, T.ofL l0_1⟩ ⟨l1_0, T.ofL l1_1⟩ = 0))
theorem arr_Same.calls (A0_0 : Option Addr) (c0_0 : Nat) (l0_0 : List Int) (A0_1 : Option Addr) (c0_1 : Nat) (l0_1 : List (S33)) (A1_0 : Option Addr) (c1_0 : Nat) (l1_0 : List Int) (A1_1 : Option Addr) (c1_1 : Nat) (l1_1 : List (S33)) (r : Bool) (w : World) (hr0_0 : Kd.C (Kd.int .i64) w A0_0 l0_0.length l0_0) (hc0_0 : l0_0.length ≤ c0_0) (hr0_1 : Kd.C k33 w A0_1 l0_1.length l0_1) (hc0_1 : l0_1.length ≤ c0_1) (hr1_0 : Kd.C (Kd.int .i64) w A1_0 l1_0.length l1_0) (hc1_0 : l1_0.length ≤ c1_0) (hr1_1 : Kd.C k33 w A1_1 l1_1.length l1_1) (hc1_1 : l1_1.length ≤ c1_1) (h : arr_Same.f l0_0 l0_1 l1_0 l1_1 = some r) :
    Calls Try.prog 73 #[.agg #[.slice A0_0 l0_0.length c0_0, .slice A0_1 l0_1.length c0_1], .agg #[.slice A1_0 l1_0.length c1_0, .slice A1_1 l1_1.length c1_1]] w fun e w' => e = .returned (.bool r) ∧ Below w.heap.size w w' := by
  unfold arr_Same.f at h
  have q := arrSame_calls ⟨l0_0, T.ofL l0_1⟩ ⟨l1_0, T.ofL l1_1⟩ A0_0 A0_1 A1_0 A1_1 c0_0 c0_1 c1_0 c1_1 w hc0_0 (by simpa using hc0_1) hc1_0 (by simpa using hc1_1) hr0_0 (CC_of hr0_1) hr1_0 (CC_of hr1_1)
  simp only [Arr.shape_mk, Arr.cells_mk, ofL_length] at q
  obtain rfl := Option.some.inj h
  exact q.mono fun e w' hq => hq

def arr_Copy.f (l0_0 : List Int) (l0_1 : List (S33)) : Option (List Int × (List (S33))) := if T.chk 8 ⟨l0_0, T.ofL l0_1⟩ = 0 then some (l0_0, l0_1) else none
theorem arr_Copy.calls (A0_0 : Option Addr) (c0_0 : Nat) (l0_0 : List Int) (A0_1 : Option Addr) (c0_1 : Nat) (l0_1 : List (S33)) (r1 : List Int) (r2 : List (S33)) (w : World) (hr0_0 : Kd.C (Kd.int .i64) w A0_0 l0_0.length l0_0) (hc0_0 : l0_0.length ≤ c0_0) (hr0_1 : Kd.C k33 w A0_1 l0_1.length l0_1) (hc0_1 : l0_1.length ≤ c0_1) (h : arr_Copy.f l0_0 l0_1 = some (r1, r2)) :
    Calls Try.prog 21 #[.agg #[.slice A0_0 l0_0.length c0_0, .slice A0_1 l0_1.length c0_1]] w fun e w' => ∃ v0_ v1_ : Value, e = .returned (.agg #[v0_, v1_]) ∧ Kd.V (Kd.int .i64) 3 w' w.heap.size (fun k_ => (w.heap.size ≤ k_)) v0_ r1 ∧ Kd.V k33 33 w' w.heap.size (fun k_ => (w.heap.size ≤ k_)) v1_ r2 ∧ Below w.heap.size w w' := by
  unfold arr_Copy.f at h
  exact copy_shared A0_0 A0_1 c0_0 c0_1 w hr0_0 hc0_0 hr0_1 hc0_1 h

def arr_Size.f (l0 : List Int) : Option (Int × Int) := some (T.size l0)
theorem arr_Size.calls (A0 : Option Addr) (c0 : Nat) (l0 : List Int) (r1 : Int) (r2 : Int) (w : World) (hr0 : Kd.C (Kd.int .i64) w A0 l0.length l0) (hc0 : l0.length ≤ c0) (h : arr_Size.f l0 = some (r1, r2)) :
    Calls Try.prog 61 #[.slice A0 l0.length c0] w fun e w' => e = .returned (.tuple #[.int .i64 r1, .int .i64 r2]) ∧ Drawn0 w w' := by
  unfold arr_Size.f at h
  have e := Option.some.inj h
  refine (arrSize_calls A0 c0 l0 w hr0 hc0).mono ?_
  rintro e w' ⟨rfl, rfl⟩
  exact ⟨by rw [e], Drawn0.refl _⟩

end Go.Proofs.Ytdfijdajkdkkfaa.XU
