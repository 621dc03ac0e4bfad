/-
  Walk: the law AtomicCells.
-/
import Derived.Test.YtdfijdajkdkkfaaA8
set_option linter.unusedVariables false
set_option linter.unusedSimpArgs false
namespace Go.Proofs.Ytdfijdajkdkkfaa
open Go.RowKit Go.Proofs.YtdfijdajkdkkfaaW.PrintWords Go.Proofs.YtdfijdajkdkkfaaW.PrintLast
open T
/-- A row of two cells that was just made. -/
theorem lit_cells2 (w : World) (a b : T.Cell) (A B : Option Addr) (c d : Nat) (g : Nat) (hg : g = w.heap.size) (hc : a.box.length ≤ c) (hd : b.box.length ≤ d) (ga : CA w A a.box) (gb : CA w B b.box) :
    CC (w.alloc (.cells #[.int .i64 a.kind, .int .i64 a.n, .slice A a.box.length c, .int .i64 b.kind, .int .i64 b.n, .slice B b.box.length d] 33)) (some ⟨g, 0, none⟩) [a, b] := by
  subst hg
  refine ⟨rfl, by simp, fun _ => ⟨_, rfl, fun j p hj => ?_⟩⟩
  have hb0 : Below w.heap.size w (w.alloc (.cells #[.int .i64 a.kind, .int .i64 a.n, .slice A a.box.length c, .int .i64 b.kind, .int .i64 b.n, .slice B b.box.length d] 33)) := below_alloc (Below.refl _ _) _
  match j with
  | 0 =>
    have hp : a = p := by simpa using hj
    subst hp
    refine ⟨_, rfl, kC_mk hc (Kd.C_below ga hb0), fun i u hu => ?_⟩
    match i with
    | 0 => simp at hu; subst hu; simp [Addr.add]
    | 1 => simp at hu; subst hu; simp [Addr.add]
    | 2 => simp at hu; subst hu; simp [Addr.add]
    | i + 3 => simp at hu
  | 1 =>
    have hp : b = p := by simpa using hj
    subst hp
    refine ⟨_, rfl, kC_mk hd (Kd.C_below gb hb0), fun i u hu => ?_⟩
    match i with
    | 0 => simp at hu; subst hu; simp [Addr.add, show kC.sz = 3 from rfl]
    | 1 => simp at hu; subst hu; simp [Addr.add, show kC.sz = 3 from rfl]
    | 2 => simp at hu; subst hu; simp [Addr.add, show kC.sz = 3 from rfl]
    | i + 3 => simp at hu
  | j + 2 => simp at hj
set_option maxHeartbeats 8000000 in
set_option maxRecDepth 100000 in
theorem atomicCells_calls (op : Int) (a b : T.Cell) (A B : Option Addr) (c d : Nat) (w : World) (hwa : wfC a) (hwb : wfC b) (hc : a.box.length ≤ c) (hd : b.box.length ≤ d) (ga : CA w A a.box) (gb : CA w B b.box) :
    Calls Try.prog 14 #[.int .i64 op, .agg #[.int .i64 a.kind, .int .i64 a.n, .slice A a.box.length c], .agg #[.int .i64 b.kind, .int .i64 b.n, .slice B b.box.length d]] w fun e w' => e = .returned (.bool true) ∧ Below w.heap.size w w' := by
  have GA := Aside0.mk ga
  have GB := Aside0.mk gb
  have HWA := Aside0.mk hwa
  have HWB := Aside0.mk hwb
  have HL := Aside0.mk (fun (W : World) (h : Below w.heap.size w W) (g : Nat) (hg : g = W.heap.size) => lit_cells2 W a b A B c d g hg hc hd (Kd.C_below ga h) (Kd.C_below gb h))
  have ia := (wfC_iff.1 hwa).2.1
  have ib := (wfC_iff.1 hwb).2.1
  have HP1 := Aside0.mk (fun (W : World) => atCell_calls op a.kind a.n b.kind b.n (.slice A a.box.length c) (.slice B b.box.length d) W ia ib)
  have HP2 := Aside0.mk (fun (W : World) => refDyCell_calls op a.kind a.n b.kind b.n (.slice A a.box.length c) (.slice B b.box.length d) W ia ib)
  have HWL : Aside0 (wfA ⟨[], [a, b]⟩) := ⟨wfA_iff.2 ⟨by simp, by simp, by simp, fun x hx => by simp at hx; rcases hx with rfl | rfl <;> assumption⟩⟩
  clear ga gb hwa hwb ia ib
  generalize T.dyC op a.kind a.n b.kind b.n = p at HP1 HP2
  go_enter Try.func14, Try.ntmps14
  go_wp2_with fail
  refine (light4_calls ⟨[], [a, b]⟩ none (some ⟨w.heap.size + 1 + 1, 0, none⟩) 0 2 _ HWL.out (by simp) (by simp) (Kd.C_nil _ _) (HL.out _ (by (repeat (first | exact Below.refl _ _ | apply below_alloc | apply below_drew | apply pw_below_drewN))) _ (by simp))).mono ?_
  rintro e w1 ⟨t1, rfl, -, hb⟩
  have hb1 := Aside0.mk (show Below w.heap.size w w1 from then_below (by (repeat (first | exact Below.refl _ _ | apply below_alloc | apply below_drew | apply pw_below_drewN))) hb)
  have x00 : w1.cell? ⟨w.heap.size, 0, none⟩ = some (.int .i64 a.kind) := (hb.cell (p := ⟨w.heap.size, 0, none⟩) (by simp; omega)).trans (by go_simp)
  have x01 : w1.cell? ⟨w.heap.size, 1, none⟩ = some (.int .i64 a.n) := (hb.cell (p := ⟨w.heap.size, 1, none⟩) (by simp; omega)).trans (by go_simp)
  have x02 : w1.cell? ⟨w.heap.size, 2, none⟩ = some (.slice A a.box.length c) := (hb.cell (p := ⟨w.heap.size, 2, none⟩) (by simp; omega)).trans (by go_simp)
  have x10 : w1.cell? ⟨w.heap.size + 1, 0, none⟩ = some (.int .i64 b.kind) := (hb.cell (p := ⟨w.heap.size + 1, 0, none⟩) (by first | (simp; done) | (simp; omega))).trans (by go_simp)
  have x11 : w1.cell? ⟨w.heap.size + 1, 1, none⟩ = some (.int .i64 b.n) := (hb.cell (p := ⟨w.heap.size + 1, 1, none⟩) (by first | (simp; done) | (simp; omega))).trans (by go_simp)
  have x12 : w1.cell? ⟨w.heap.size + 1, 2, none⟩ = some (.slice B b.box.length d) := (hb.cell (p := ⟨w.heap.size + 1, 2, none⟩) (by first | (simp; done) | (simp; omega))).trans (by go_simp)
  have hz1 : w.heap.size + 2 ≤ w1.heap.size := by have := hb.size; simp at this; omega
  clear hb HL HWL
  cases t1 with
  | false =>
    go_wp2_with fail
    refine (works4_calls _).mono ?_; rintro e w2 ⟨rfl, hb⟩
    go_wp2_with fail
    go_ret
    exact ret_below rfl (then_below hb1.out hb)
  | true =>
    go_wp2_with fail
    refine (HP1.out _).mono ?_
    rintro e w2 ⟨rfl, hb⟩
    have hb2 := Aside0.mk (then_below hb1.out hb)
    have y00 : ∀ o, (w2.alloc o).cell? ⟨w.heap.size, 0, none⟩ = some (.int .i64 a.kind) := fun o => later ((hb.cell (p := ⟨w.heap.size, 0, none⟩) (by simp; omega)).trans x00) o
    have y01 : ∀ o, (w2.alloc o).cell? ⟨w.heap.size, 1, none⟩ = some (.int .i64 a.n) := fun o => later ((hb.cell (p := ⟨w.heap.size, 1, none⟩) (by simp; omega)).trans x01) o
    have y02 : ∀ o, (w2.alloc o).cell? ⟨w.heap.size, 2, none⟩ = some (.slice A a.box.length c) := fun o => later ((hb.cell (p := ⟨w.heap.size, 2, none⟩) (by simp; omega)).trans x02) o
    have y10 : ∀ o, (w2.alloc o).cell? ⟨w.heap.size + 1, 0, none⟩ = some (.int .i64 b.kind) := fun o => later ((hb.cell (p := ⟨w.heap.size + 1, 0, none⟩) (by simp; omega)).trans x10) o
    have y11 : ∀ o, (w2.alloc o).cell? ⟨w.heap.size + 1, 1, none⟩ = some (.int .i64 b.n) := fun o => later ((hb.cell (p := ⟨w.heap.size + 1, 1, none⟩) (by simp; omega)).trans x11) o
    have y12 : ∀ o, (w2.alloc o).cell? ⟨w.heap.size + 1, 2, none⟩ = some (.slice B b.box.length d) := fun o => later ((hb.cell (p := ⟨w.heap.size + 1, 2, none⟩) (by simp; omega)).trans x12) o
    have hz2 : w.heap.size + 2 ≤ w2.heap.size := by have := hb.size; omega
    clear hb x00 x01 x02 x10 x11 x12
    go_wp2_with fail
    refine (HP2.out _).mono ?_
    rintro e w3 ⟨rfl, hb⟩
    have hb3 := Aside0.mk (then_below (by apply below_alloc; exact hb2.out) hb)
    obtain ⟨pn, pe⟩ := p
    have v0 : ∀ o, (w3.alloc o).cell? ⟨w2.heap.size, 0, none⟩ = some (.int .i64 0) := fun o => later ((hb.cell (p := ⟨w2.heap.size, 0, none⟩) (by simp)).trans (by go_simp)) o
    have v1 : ∀ o, (w3.alloc o).cell? ⟨w2.heap.size, 1, none⟩ = some (.int .i64 pn) := fun o => later ((hb.cell (p := ⟨w2.heap.size, 1, none⟩) (by simp)).trans (by go_simp)) o
    have v2 : ∀ o, (w3.alloc o).cell? ⟨w2.heap.size, 2, none⟩ = some (.slice none 0 0) := fun o => later ((hb.cell (p := ⟨w2.heap.size, 2, none⟩) (by simp)).trans (by go_simp)) o
    have hz3 : w2.heap.size < w3.heap.size := by have := hb.size; simp at this; omega
    have hxx : (pe == pe) = true := by simp
    clear hb y00 y01 y02 y10 y11 y12
    go_wp2_with fail
    refine ((refCmp_all _).2 ⟨0, pn, []⟩ ⟨0, pn, []⟩ none none 0 0 _ (Nat.lt_succ_self _) (by simp) (by simp) (Kd.C_nil _ _) (Kd.C_nil _ _)).mono ?_
    rintro e w4 ⟨rfl, hb⟩
    rw [cmpC_self]
    have hb4 := Aside0.mk (then_below (by apply below_alloc; exact hb3.out) hb)
    clear hb
    go_wp2_with fail
    refine (atIs_calls op _).mono ?_
    rintro e w' ⟨rfl, rfl⟩
    by_cases h21 : 21 ≤ op
    · by_cases h32 : op ≤ 32
      · rw [show (decide (21 ≤ op) && decide (op ≤ 32)) = true by simp [h21, h32]]
        go_wp2_with fail
        refine (works4_calls _).mono ?_; rintro e w5 ⟨rfl, hb⟩
        go_wp2_with fail
        go_ret
        exact ret_below (by first | rfl | (congr 2; simp [h21]; done) | (congr 2; simp [h21, h32]; done) | (simp [h21]; done)) (then_below hb4.out hb)
      · rw [show (decide (21 ≤ op) && decide (op ≤ 32)) = false by simp [h21, h32]]
        go_wp2_with fail
        refine (works4_calls _).mono ?_; rintro e w5 ⟨rfl, hb⟩
        go_wp2_with fail
        go_ret
        exact ret_below (by first | rfl | (congr 2; simp [h21]; done) | (congr 2; simp [h21, h32]; done) | (simp [h21]; done)) (then_below hb4.out hb)
    · rw [show (decide (21 ≤ op) && decide (op ≤ 32)) = false by simp [h21]]
      go_wp2_with fail
      refine (works4_calls _).mono ?_; rintro e w5 ⟨rfl, hb⟩
      go_wp2_with fail
      go_ret
      exact ret_below (by first | rfl | (congr 2; simp [h21]; done) | (congr 2; simp [h21, h32]; done) | (simp [h21]; done)) (then_below hb4.out hb)
end Go.Proofs.Ytdfijdajkdkkfaa
