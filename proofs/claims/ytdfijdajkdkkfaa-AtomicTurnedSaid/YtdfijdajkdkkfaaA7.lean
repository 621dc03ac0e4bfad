/-
  Walk: works, of layer 4.
-/
import Derived.Test.YtdfijdajkdkkfaaA6
set_option linter.unusedVariables false
set_option linter.unusedSimpArgs false
namespace Go.Proofs.Ytdfijdajkdkkfaa
open Go.RowKit Go.Proofs.YtdfijdajkdkkfaaW.PrintWords Go.Proofs.YtdfijdajkdkkfaaW.PrintLast
open T
set_option maxHeartbeats 8000000 in
set_option maxRecDepth 100000 in
theorem works4_calls (w : World) : Calls Try.prog 48 #[] w fun e w' => e = .returned (.bool true) ∧ Below w.heap.size w w' := by
  go_enter Try.func48, Try.ntmps48
  go_wp2_with fail
  refine (refNums_calls [1, 2, 3] _ 3 _ (by decide) (by decide) (lit_ints w [1, 2, 3] 2 (by decide))).mono ?_
  rintro e w1 hm
  obtain ⟨A0, c0, A1, c1, rfl, l0, l1, g0, g1, hb⟩ : ∃ A0 c0 A1 c1, e = .returned (.agg #[.slice A0 1 c0, .slice A1 3 c1]) ∧ 1 ≤ c0 ∧ 3 ≤ c1 ∧ Cint w1 A0 [3] ∧ CC w1 A1 [T.numc 1, T.numc 2, T.numc 3] ∧ Below (w.alloc (.cells #[.int .i64 1, .int .i64 2, .int .i64 3] 2)).heap.size (w.alloc (.cells #[.int .i64 1, .int .i64 2, .int .i64 3] 2)) w1 := hm.open_
  have HG0 := Aside0.mk g0
  have HG1 := Aside0.mk g1
  have hw1 : Aside0 (Below w.heap.size w w1) := ⟨then_below (by (repeat (first | exact Below.refl _ _ | apply below_alloc | apply below_drew | apply pw_below_drewN))) hb⟩
  clear hm g0 g1 hb
  go_upto_region 2 with (fail)
  have q0 : (w1.alloc (.cells #[.slice A0 1 c0, .slice A1 3 c1] 25)).cell? ⟨w1.heap.size, 0, none⟩ = some (.slice A0 1 c0) := by go_simp
  have q1 : (w1.alloc (.cells #[.slice A0 1 c0, .slice A1 3 c1] 25)).cell? ⟨w1.heap.size, 1, none⟩ = some (.slice A1 3 c1) := by go_simp
  have qb : Aside0 (Below w1.heap.size w1 (w1.alloc (.cells #[.slice A0 1 c0, .slice A1 3 c1] 25))) := ⟨by (repeat (first | exact Below.refl _ _ | apply below_alloc | apply below_drew | apply pw_below_drewN))⟩
  have qz : w1.heap.size < (w1.alloc (.cells #[.slice A0 1 c0, .slice A1 3 c1] 25)).heap.size := by simp
  generalize (w1.alloc (.cells #[.slice A0 1 c0, .slice A1 3 c1] 25)) = w2 at q0 q1 qb qz ⊢
  have hw2 : Aside0 (Below w.heap.size w w2) := ⟨then_below hw1.out qb.out⟩
  have K0 := Aside0.mk (Kd.C_below HG0.out qb.out)
  have K1 := Aside0.mk (Kd.C_below HG1.out qb.out)
  have qz1 : w1.heap.size < w2.heap.size + 1 := by omega
  clear HG0 HG1 hw1 qb
  go_cut [2, 3] (fun s2 s3 wc => ∃ (g : Nat) (S0 S1 : Option Addr) (e0 e1 : Nat), s2 = .pointer (some ⟨g, 0, none⟩) ∧ s3 = .int .i64 0 ∧ wc.cell? ⟨g, 0, none⟩ = some (.slice S0 1 e0) ∧ wc.cell? ⟨g, 1, none⟩ = some (.slice S1 3 e1) ∧ Aside0 (CC wc S1 [T.numc 6, T.numc 7, T.numc 8]) ∧ Aside0 (Below w2.heap.size w2 wc) ∧ Aside0 (g < wc.heap.size))
  case first =>
    go_region_held3 (fun w' => w'.cell? ⟨w1.heap.size, 0, none⟩ = some (.slice A0 1 c0) ∧ w'.cell? ⟨w1.heap.size, 1, none⟩ = some (.slice A1 3 c1)) (first | go_keep | (constructor <;> ((repeat (first | (refine later ?_ _) | (refine cell_set ?_ (by first | (simp; done) | (simp; omega) | omega)) | (rw [hc5 _ _ (by first | omega | (simp; omega))]) | (rw [hc4 _ _ (by first | omega | (simp; omega))]))); (simp [*]; done))))
      (first
        | (go_at_call 70; refine (refAtom_calls 5 _).mono ?_; rintro e w4 hm; obtain ⟨B0, d0, B1, d1, rfl, m0, m1, z0, z1, hb4⟩ : ∃ B0 d0 B1 d1, e = .returned (.agg #[.slice B0 0 d0, .slice B1 1 d1]) ∧ 0 ≤ d0 ∧ 1 ≤ d1 ∧ Cint w4 B0 [] ∧ CC w4 B1 [T.numc 5] ∧ Below _ _ w4 := hm.open_; clear hm; obtain ⟨hc4, hf4⟩ := bcell hb4; have hz4 := hb4.size; (try simp at hz4); (try (have hlt4 : w2.heap.size < w4.heap.size := by omega)); have Z0 := Aside0.mk z0; have Z1 := Aside0.mk z1; clear z0 z1)
        | (go_at_call 53; refine (dy_sum_calls A0 A1 B0 B1 c0 c1 d0 d1 _ l0 l1 m0 m1 (Kd.C_below K0.out (by (repeat (first | (refine Below.setCell ?_ (by first | (simp; done) | (simp <;> omega) | omega) _) | apply below_alloc | apply below_drew | exact Below.refl _ _ | (refine then_below ?_ hb4) | (refine then_below ?_ hb5))))) (Kd.C_below K1.out (by (repeat (first | (refine Below.setCell ?_ (by first | (simp; done) | (simp <;> omega) | omega) _) | apply below_alloc | apply below_drew | exact Below.refl _ _ | (refine then_below ?_ hb4) | (refine then_below ?_ hb5))))) (Kd.C_below Z0.out (by (repeat (first | (refine Below.setCell ?_ (by first | (simp; done) | (simp <;> omega) | omega) _) | apply below_alloc | apply below_drew | exact Below.refl _ _ | (refine then_below ?_ hb4) | (refine then_below ?_ hb5))))) (Kd.C_below Z1.out (by (repeat (first | (refine Below.setCell ?_ (by first | (simp; done) | (simp <;> omega) | omega) _) | apply below_alloc | apply below_drew | exact Below.refl _ _ | (refine then_below ?_ hb4) | (refine then_below ?_ hb5)))))).mono ?_; rintro e w5 ⟨S0, e0, S1, e1, rfl, hS, hb5⟩; obtain ⟨hc5, hf5⟩ := bcell hb5; have hz5 := hb5.size; (try simp at hz5); have HS := Aside0.mk hS; clear hS))
    all_goals (go_wp2_with fail; go_meet; refine ⟨_, S0, S1, e0, e1, rfl, rfl, by go_simp, by go_simp, ⟨?_⟩, ⟨by (repeat (first | (refine Below.setCell ?_ (by first | (simp; done) | (simp <;> omega) | omega) _) | apply below_alloc | apply below_drew | exact Below.refl _ _ | (refine then_below ?_ hb4) | (refine then_below ?_ hb5)))⟩, ⟨by first | (simp; done) | (simp; omega)⟩⟩; first | exact Kd.F_now (Kd.F_alloc HS.out _) | exact Kd.F_now (Kd.F_far (Kd.F_far HS.out (fun k hk => by simp at hk ⊢; omega) _) (fun k hk => by simp at hk ⊢; omega) _))
  case rest =>
    obtain ⟨g, S0, S1, e0, e1, rfl, rfl, u0, u1, hS, hb5, hg⟩ := hcut
    have p0 : wc.cell? ⟨w1.heap.size, 0, none⟩ = some (.slice A0 1 c0) := (hb5.out.cell (p := ⟨w1.heap.size, 0, none⟩) qz).trans q0
    have p1 : wc.cell? ⟨w1.heap.size, 1, none⟩ = some (.slice A1 3 c1) := (hb5.out.cell (p := ⟨w1.heap.size, 1, none⟩) qz).trans q1
    have hw3 : Aside0 (Below w.heap.size w wc) := ⟨then_below hw2.out hb5.out⟩
    have L0 := Aside0.mk (Kd.C_below K0.out hb5.out)
    have L1 := Aside0.mk (Kd.C_below K1.out hb5.out)
    have hz3 : w1.heap.size < wc.heap.size := by have := hb5.out.size; omega
    clear q0 q1 hb5 hw2 K0 K1 qz qz1
    go_wp2_with fail
    refine (mo_neg_calls A0 A1 c0 c1 _ l0 l1 L0.out L1.out).mono ?_
    rintro e w6 ⟨M0, n0, M1, n1, rfl, hM, hb6⟩
    have hg6 := hg.out
    have hz6 := hb6.size
    have p0' : ∀ o, (w6.alloc o).cell? ⟨w1.heap.size, 0, none⟩ = some (.slice A0 1 c0) := fun o => later ((hb6.cell (p := ⟨w1.heap.size, 0, none⟩) hz3).trans p0) o
    have p1' : ∀ o, (w6.alloc o).cell? ⟨w1.heap.size, 1, none⟩ = some (.slice A1 3 c1) := fun o => later ((hb6.cell (p := ⟨w1.heap.size, 1, none⟩) hz3).trans p1) o
    have r0 : ∀ o, (w6.alloc o).cell? ⟨g, 0, none⟩ = some (.slice S0 1 e0) := fun o => later ((hb6.cell (p := ⟨g, 0, none⟩) hg6).trans u0) o
    have r1 : ∀ o, (w6.alloc o).cell? ⟨g, 1, none⟩ = some (.slice S1 3 e1) := fun o => later ((hb6.cell (p := ⟨g, 1, none⟩) hg6).trans u1) o
    have hS6 := Aside0.mk (Kd.C_below hS.out hb6)
    have hM6 := Aside0.mk hM
    have hw6 := Aside0.mk (then_below hw3.out hb6)
    have L06 := Aside0.mk (Kd.C_below L0.out hb6)
    have L16 := Aside0.mk (Kd.C_below L1.out hb6)
    clear hb6 hM hS L0 L1 p0 p1 u0 u1 hw3
    go_upto_region 4 with (fail)
    have q0 := p0' (.cells #[.slice M0 1 n0, .slice M1 3 n1] 25)
    have q1 := p1' (.cells #[.slice M0 1 n0, .slice M1 3 n1] 25)
    have t0 := r0 (.cells #[.slice M0 1 n0, .slice M1 3 n1] 25)
    have t1 := r1 (.cells #[.slice M0 1 n0, .slice M1 3 n1] 25)
    have v0 : (w6.alloc (.cells #[.slice M0 1 n0, .slice M1 3 n1] 25)).cell? ⟨w6.heap.size, 0, none⟩ = some (.slice M0 1 n0) := by go_simp
    have v1 : (w6.alloc (.cells #[.slice M0 1 n0, .slice M1 3 n1] 25)).cell? ⟨w6.heap.size, 1, none⟩ = some (.slice M1 3 n1) := by go_simp
    have hz7 : w6.heap.size < (w6.alloc (.cells #[.slice M0 1 n0, .slice M1 3 n1] 25)).heap.size := by simp
    have hb7 : Aside0 (Below w6.heap.size w6 (w6.alloc (.cells #[.slice M0 1 n0, .slice M1 3 n1] 25))) := ⟨by (repeat (first | exact Below.refl _ _ | apply below_alloc | apply below_drew | apply pw_below_drewN))⟩
    clear p0' p1' r0 r1
    generalize (w6.alloc (.cells #[.slice M0 1 n0, .slice M1 3 n1] 25)) = w2 at q0 q1 t0 t1 v0 v1 hz7 hb7 ⊢
    have hw2 : Aside0 (Below w.heap.size w w2) := ⟨then_below hw6.out hb7.out⟩
    have K0 := Aside0.mk (Kd.C_below L06.out hb7.out)
    have K1 := Aside0.mk (Kd.C_below L16.out hb7.out)
    have hS7 := Aside0.mk (Kd.C_below hS6.out hb7.out)
    have hM7 := Aside0.mk (Kd.C_below hM6.out hb7.out)
    have qz : w1.heap.size < w2.heap.size := by omega
    have qz1 : w1.heap.size < w2.heap.size + 1 := by omega
    have qz2 : w1.heap.size < w2.heap.size + 1 + 1 := by omega
    clear hb7 hw6 L06 L16 hS6 hM6
    have LA : Aside0 (Cint (w2.alloc (.cells #[.int .i64 1, .int .i64 2] 2)).drew (some ⟨w2.heap.size, 0, none⟩) [1, 2]) := ⟨Kd.C_below (lit_ints w2 [1, 2] 2 (by decide)) (below_drew (Below.refl _ _))⟩
    have LB : Aside0 (∀ o, Cint ((w2.alloc (.cells #[.int .i64 1, .int .i64 2] 2)).alloc o).drew (some ⟨w2.heap.size, 0, none⟩) [1, 2]) := ⟨fun o => Kd.C_below (lit_ints w2 [1, 2] 2 (by decide)) (below_drew (below_alloc (Below.refl _ _) o))⟩
    have LC : Aside0 (∀ o, Cint ((w2.alloc o).alloc (.cells #[.int .i64 1, .int .i64 2] 2)).drew (some ⟨w2.heap.size + 1, 0, none⟩) [1, 2]) := ⟨fun o => Kd.C_below (lit_ints' (w2.alloc o) [1, 2] 2 _ (by simp) (by decide)) (below_drew (Below.refl _ _))⟩
    go_cut [6, 7] (fun s6 s7 wc => s7 = .int .i64 7 ∧ Aside0 (Below w2.heap.size w2 wc))
    case first =>
      go_region_held3 (fun w' => w'.cell? ⟨w1.heap.size, 0, none⟩ = some (.slice A0 1 c0) ∧ w'.cell? ⟨w1.heap.size, 1, none⟩ = some (.slice A1 3 c1)) (first | go_keep | (constructor <;> ((repeat (first | (refine later ?_ _) | (refine cell_set ?_ (by first | (simp; done) | (simp; omega) | omega)) | (rw [hc5 _ _ (by first | omega | (simp; omega))]) | (rw [hc4 _ _ (by first | omega | (simp; omega))]))); (simp [*]; done))))
        (first
          | (go_at_call 76; refine (nums2_calls _ _ (by first | exact LA.out | exact LB.out _ | exact LC.out _)).mono ?_; rintro e w4 ⟨B0, d0, B1, d1, rfl, m0, m1, z0, z1, hb4⟩; obtain ⟨hc4, hf4⟩ := bcell hb4; have hz4 := hb4.size; (try simp at hz4); (try (have hlt4 : w2.heap.size < w4.heap.size := by omega)); (try (have hlt5 : w2.heap.size + 1 < w4.heap.size := by omega)); have Z0 := Aside0.mk z0; have Z1 := Aside0.mk z1; clear z0 z1)
          | (go_at_call 53; refine (dy_not_calls A0 A1 B0 B1 c0 c1 d0 d1 _ l0 l1 m0 m1 (Kd.C_below K0.out (by (repeat (first | (refine Below.setCell ?_ (by first | (simp; done) | (simp <;> omega) | omega) _) | apply below_alloc | apply below_drew | exact Below.refl _ _ | (refine then_below ?_ hb4) | (refine then_below ?_ hb5))))) (Kd.C_below K1.out (by (repeat (first | (refine Below.setCell ?_ (by first | (simp; done) | (simp <;> omega) | omega) _) | apply below_alloc | apply below_drew | exact Below.refl _ _ | (refine then_below ?_ hb4) | (refine then_below ?_ hb5))))) (Kd.C_below Z0.out (by (repeat (first | (refine Below.setCell ?_ (by first | (simp; done) | (simp <;> omega) | omega) _) | apply below_alloc | apply below_drew | exact Below.refl _ _ | (refine then_below ?_ hb4) | (refine then_below ?_ hb5))))) (Kd.C_below Z1.out (by (repeat (first | (refine Below.setCell ?_ (by first | (simp; done) | (simp <;> omega) | omega) _) | apply below_alloc | apply below_drew | exact Below.refl _ _ | (refine then_below ?_ hb4) | (refine then_below ?_ hb5)))))).mono ?_; rintro e w5 ⟨X0, x0, X1, x1, rfl, hb5⟩; obtain ⟨hc5, hf5⟩ := bcell hb5; have hz5 := hb5.size; (try simp at hz5)))
      all_goals (go_wp2_with fail; go_meet; exact ⟨rfl, ⟨by (repeat (first | (refine Below.setCell ?_ (by first | (simp; done) | (simp <;> omega) | omega) _) | apply below_alloc | apply below_drew | exact Below.refl _ _ | (refine then_below ?_ hb4) | (refine then_below ?_ hb5)))⟩⟩)
    case rest =>
      obtain ⟨rfl, hb8⟩ := hcut
      have hzg : g < w2.heap.size := by omega
      have e0_ : wc.cell? ⟨g, 0, none⟩ = some (.slice S0 1 e0) := (hb8.out.cell (p := ⟨g, 0, none⟩) hzg).trans t0
      have e1_ : wc.cell? ⟨g, 1, none⟩ = some (.slice S1 3 e1) := (hb8.out.cell (p := ⟨g, 1, none⟩) hzg).trans t1
      have e2_ : wc.cell? ⟨w6.heap.size, 0, none⟩ = some (.slice M0 1 n0) := (hb8.out.cell (p := ⟨w6.heap.size, 0, none⟩) hz7).trans v0
      have e3_ : wc.cell? ⟨w6.heap.size, 1, none⟩ = some (.slice M1 3 n1) := (hb8.out.cell (p := ⟨w6.heap.size, 1, none⟩) hz7).trans v1
      obtain ⟨ad, X, d, ea, h0, h1, -, -, -⟩ := at_cell (Kd.C_below hS7.out hb8.out) 2 (by decide)
      obtain ⟨ad2, X2, d2, ea2, k0, k1, -, -, -⟩ := at_cell (Kd.C_below hM7.out hb8.out) 0 (by decide)
      subst ea ea2
      have h1' : wc.cell? ⟨ad.block, ad.off + 6 + 1, none⟩ = some (.int .i64 8) := h1
      have k1' : wc.cell? ⟨(ad2.add (0 * 3)).block, (ad2.add (0 * 3)).off + 1, none⟩ = some (.int .i64 (-1)) := k1
      rw [Nat.zero_mul, add_zero] at k1'
      clear h0 h1 k0 k1 q0 q1 t0 t1 v0 v1
      go_wp2_with fail
      go_ret
      exact ret_below rfl (then_below hw2.out hb8.out)
end Go.Proofs.Ytdfijdajkdkkfaa
