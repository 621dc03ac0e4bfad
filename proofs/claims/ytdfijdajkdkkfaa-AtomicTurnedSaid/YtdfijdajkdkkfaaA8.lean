/-
  Walks: the law AtomicTwo.
-/
import Derived.Test.YtdfijdajkdkkfaaA7
set_option linter.unusedVariables false
set_option linter.unusedSimpArgs false
namespace Go.Proofs.Ytdfijdajkdkkfaa
open Go.RowKit Go.Proofs.YtdfijdajkdkkfaaW.PrintWords Go.Proofs.YtdfijdajkdkkfaaW.PrintLast
open T
theorem newArr_at {s : List Int} {cs : List T.Cell} {x : Int} {w : World} {e : Ending} {w' : World} (h : NewArr (⟨s, cs⟩, x) w e w') : ∃ A0 c0 A1 c1, e = .returned (.tuple #[.agg #[.slice A0 s.length c0, .slice A1 cs.length c1], .int .i64 x]) ∧ s.length ≤ c0 ∧ cs.length ≤ c1 ∧ Kd.F (Kd.int .i64) w' (fun k => w.heap.size ≤ k) A0 s.length s ∧ Kd.F kC w' (fun k => w.heap.size ≤ k) A1 cs.length cs ∧ Below w.heap.size w w' := h
theorem someArr_at {s : List Int} {cs : List T.Cell} {x : Int} {w : World} {e : Ending} {w' : World} (h : SomeArr (⟨s, cs⟩, x) w e w') : ∃ A0 c0 A1 c1, e = .returned (.tuple #[.agg #[.slice A0 s.length c0, .slice A1 cs.length c1], .int .i64 x]) ∧ s.length ≤ c0 ∧ cs.length ≤ c1 ∧ Cint w' A0 s ∧ CC w' A1 cs ∧ Below w.heap.size w w' := h
set_option maxHeartbeats 8000000 in
set_option maxRecDepth 100000 in
theorem atomicTwo_calls (op : Int) (a b : Arr) (A0 A1 B0 B1 : Option Addr) (c0 c1 d0 d1 : Nat) (w : World) (hwa : wfA a) (hwb : wfA b) (l0 : a.shape.length ≤ c0) (l1 : a.cells.length ≤ c1) (m0 : b.shape.length ≤ d0) (m1 : b.cells.length ≤ d1) (g0 : Cint w A0 a.shape) (g1 : CC w A1 a.cells) (z0 : Cint w B0 b.shape) (z1 : CC w B1 b.cells) :
    Calls Try.prog 15 #[.int .i64 op, .agg #[.slice A0 a.shape.length c0, .slice A1 a.cells.length c1], .agg #[.slice B0 b.shape.length d0, .slice B1 b.cells.length d1]] w fun e w' => e = .returned (.bool true) ∧ Below w.heap.size w w' := by
  have G0 := Aside0.mk g0
  have G1 := Aside0.mk g1
  have Z0 := Aside0.mk z0
  have Z1 := Aside0.mk z1
  have HWA := Aside0.mk hwa
  have HWB := Aside0.mk hwb
  have HP1 := Aside0.mk (fun (W : World) (h : Below w.heap.size w W) => atDy_calls op a b A0 A1 B0 B1 c0 c1 d0 d1 W hwa hwb l0 l1 m0 m1 (Kd.C_below g0 h) (Kd.C_below g1 h) (Kd.C_below z0 h) (Kd.C_below z1 h))
  have HP2 := Aside0.mk (fun (W : World) (h : Below w.heap.size w W) => refDy_calls op a b A0 A1 B0 B1 c0 c1 d0 d1 W hwa hwb l0 l1 m0 m1 (Kd.C_below g0 h) (Kd.C_below g1 h) (Kd.C_below z0 h) (Kd.C_below z1 h))
  clear g0 g1 z0 z1 hwa hwb
  generalize T.dyS op a b = p at HP1 HP2
  obtain ⟨⟨s, cs⟩, x⟩ := p
  go_enter Try.func15, Try.ntmps15
  go_wp2_with fail
  refine (light4_calls a A0 A1 c0 c1 _ HWA.out l0 l1 (Kd.C_below G0.out ?hb) (Kd.C_below G1.out ?hb)).mono ?_; (case hb => (repeat (first | exact Below.refl _ _ | apply below_alloc | apply below_drew | apply pw_below_drewN)))
  rintro e w1 ⟨t1, rfl, -, hb⟩
  have hb1 := Aside0.mk (show Below w.heap.size w w1 from (then_below (by (repeat (first | exact Below.refl _ _ | apply below_alloc | apply below_drew | apply pw_below_drewN))) hb))
  have x00 : w1.cell? ⟨w.heap.size, 0, none⟩ = some (.slice A0 a.shape.length c0) := (hb.cell (p := ⟨w.heap.size, 0, none⟩) (by simp; omega)).trans (by go_simp)
  have x01 : w1.cell? ⟨w.heap.size, 1, none⟩ = some (.slice A1 a.cells.length c1) := (hb.cell (p := ⟨w.heap.size, 1, none⟩) (by simp; omega)).trans (by go_simp)
  have x10 : w1.cell? ⟨w.heap.size + 1, 0, none⟩ = some (.slice B0 b.shape.length d0) := (hb.cell (p := ⟨w.heap.size + 1, 0, none⟩) (by simp)).trans (by go_simp)
  have x11 : w1.cell? ⟨w.heap.size + 1, 1, none⟩ = some (.slice B1 b.cells.length d1) := (hb.cell (p := ⟨w.heap.size + 1, 1, none⟩) (by simp)).trans (by go_simp)
  have hz1 : w.heap.size + 2 ≤ w1.heap.size := by have := hb.size; simp at this; omega
  clear hb
  cases t1 with
  | false =>
    go_wp2_with fail
    refine (works4_calls _).mono ?_; rintro e w2 ⟨rfl, hb⟩
    go_wp2_with fail
    go_ret
    exact ret_below rfl (then_below hb1.out hb)
  | true =>
    go_wp2_with fail
    refine (light4_calls b B0 B1 d0 d1 _ HWB.out m0 m1 (Kd.C_below Z0.out hb1.out) (Kd.C_below Z1.out hb1.out)).mono ?_
    rintro e w2 ⟨t2, rfl, -, hb⟩
    have hb2 := Aside0.mk (then_below hb1.out hb)
    have y00 : w2.cell? ⟨w.heap.size, 0, none⟩ = some (.slice A0 a.shape.length c0) := (hb.cell (p := ⟨w.heap.size, 0, none⟩) (by simp; omega)).trans x00
    have y01 : w2.cell? ⟨w.heap.size, 1, none⟩ = some (.slice A1 a.cells.length c1) := (hb.cell (p := ⟨w.heap.size, 1, none⟩) (by simp; omega)).trans x01
    have y10 : w2.cell? ⟨w.heap.size + 1, 0, none⟩ = some (.slice B0 b.shape.length d0) := (hb.cell (p := ⟨w.heap.size + 1, 0, none⟩) (by simp; omega)).trans x10
    have y11 : w2.cell? ⟨w.heap.size + 1, 1, none⟩ = some (.slice B1 b.cells.length d1) := (hb.cell (p := ⟨w.heap.size + 1, 1, none⟩) (by simp; omega)).trans x11
    have hz2 : w.heap.size + 2 ≤ w2.heap.size := by have := hb.size; omega
    clear hb x00 x01 x10 x11
    cases t2 with
    | false =>
      go_wp2_with fail
      refine (works4_calls _).mono ?_; rintro e w3 ⟨rfl, hb⟩
      go_wp2_with fail
      go_ret
      exact ret_below rfl (then_below hb2.out hb)
    | true =>
      go_wp2_with fail
      refine (HP1.out _ hb2.out).mono ?_
      intro e w3 hq
      obtain ⟨S0, e0, S1, e1, rfl, k0, k1, f0, f1, hb⟩ := newArr_at hq
      clear hq
      have hb3 := Aside0.mk (then_below hb2.out hb)
      have HF0 := Aside0.mk (Kd.F_now f0)
      have HF1 := Aside0.mk (Kd.F_now f1)
      have x00 : ∀ o, (w3.alloc o).cell? ⟨w.heap.size, 0, none⟩ = some (.slice A0 a.shape.length c0) := fun o => later ((hb.cell (p := ⟨w.heap.size, 0, none⟩) (by simp; omega)).trans y00) o
      have x01 : ∀ o, (w3.alloc o).cell? ⟨w.heap.size, 1, none⟩ = some (.slice A1 a.cells.length c1) := fun o => later ((hb.cell (p := ⟨w.heap.size, 1, none⟩) (by simp; omega)).trans y01) o
      have x10 : ∀ o, (w3.alloc o).cell? ⟨w.heap.size + 1, 0, none⟩ = some (.slice B0 b.shape.length d0) := fun o => later ((hb.cell (p := ⟨w.heap.size + 1, 0, none⟩) (by simp; omega)).trans y10) o
      have x11 : ∀ o, (w3.alloc o).cell? ⟨w.heap.size + 1, 1, none⟩ = some (.slice B1 b.cells.length d1) := fun o => later ((hb.cell (p := ⟨w.heap.size + 1, 1, none⟩) (by simp; omega)).trans y11) o
      have hz3 : w.heap.size + 2 ≤ w3.heap.size := by have := hb.size; omega
      clear hb y00 y01 y10 y11 f0 f1
      go_wp2_with fail
      refine (HP2.out _ (by apply below_alloc; exact hb3.out)).mono ?_
      intro e w4 hq
      obtain ⟨R0, n0, R1, n1, rfl, q0, q1, h0, h1, hb⟩ := someArr_at hq
      clear hq
      have hb4 := Aside0.mk (then_below (by apply below_alloc; exact hb3.out) hb)
      have HG0 := Aside0.mk h0
      have HG1 := Aside0.mk h1
      have HE0 := Aside0.mk (Kd.C_below (Kd.C_below HF0.out (by apply below_alloc; exact Below.refl _ _)) hb)
      have HE1 := Aside0.mk (Kd.C_below (Kd.C_below HF1.out (by apply below_alloc; exact Below.refl _ _)) hb)
      have v0 : ∀ o, (w4.alloc o).cell? ⟨w3.heap.size, 0, none⟩ = some (.slice S0 s.length e0) := fun o => later ((hb.cell (p := ⟨w3.heap.size, 0, none⟩) (by simp)).trans (by go_simp)) o
      have v1 : ∀ o, (w4.alloc o).cell? ⟨w3.heap.size, 1, none⟩ = some (.slice S1 cs.length e1) := fun o => later ((hb.cell (p := ⟨w3.heap.size, 1, none⟩) (by simp)).trans (by go_simp)) o
      have hz4 : w3.heap.size < w4.heap.size := by have := hb.size; simp at this; omega
      have hxx : (x == x) = true := by simp
      clear hb x00 x01 x10 x11 h0 h1
      go_wp2_with fail
      refine (refSame_calls ⟨s, cs⟩ ⟨s, cs⟩ S0 S1 R0 R1 e0 e1 n0 n1 _ k0 k1 q0 q1 (Kd.C_below HE0.out (by apply below_alloc; exact Below.refl _ _)) (Kd.C_below HE1.out (by apply below_alloc; exact Below.refl _ _)) (Kd.C_below HG0.out (by apply below_alloc; exact Below.refl _ _)) (Kd.C_below HG1.out (by apply below_alloc; exact Below.refl _ _))).mono ?_
      rintro e w5 ⟨rfl, hb⟩
      rw [cmpA_self]
      have hb5 := Aside0.mk (then_below (by apply below_alloc; exact hb4.out) hb)
      clear hb
      go_wp2_with fail
      refine (works4_calls _).mono ?_; rintro e w6 ⟨rfl, hb⟩
      go_wp2_with fail
      go_ret
      exact ret_below rfl (then_below hb5.out hb)
end Go.Proofs.Ytdfijdajkdkkfaa
