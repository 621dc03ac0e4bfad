/-
  Walk: Weight of the reference: an array that is not too heavy has few cells.
-/
import Derived.Test.YtdfijdajkdkkfaaW3
set_option linter.unusedVariables false
set_option linter.unusedSimpArgs false
namespace Go.Proofs.Ytdfijdajkdkkfaa
open Go.RowKit Go.Proofs.YtdfijdajkdkkfaaW.PrintWords
open T
/-- What a weight says. -/
def Weighs (a : Arr) (most d : Int) (e : Ending) : Prop := ∃ r : Int, e = .returned (.int .i64 r) ∧ 0 ≤ r ∧ r ≤ 70368744177664 + d * 2199023255552 ∧ (r ≤ most → (tot a : Int) ≤ r)
def RefWeight (D : Nat) : Prop := ∀ (a : Arr) (most : Int) (d : Int) (A0 A1 : Option Addr) (c0 c1 : Nat) (w : World), d = D → d ≤ 16 → 0 ≤ most → most ≤ 1099511627776 → wfA a → a.shape.length ≤ c0 → a.cells.length ≤ c1 → Cint w A0 a.shape → CC w A1 a.cells →
  Calls Try.prog 105 #[.agg #[.slice A0 a.shape.length c0, .slice A1 a.cells.length c1], .int .i64 most, .int .i64 d] w fun e w' => Weighs a most d e ∧ Below w.heap.size w w'
set_option maxHeartbeats 8000000 in
set_option maxRecDepth 100000 in
theorem refWeight_of {D : Nat} (h : ∀ D', D' < D → RefWeight D') : RefWeight D := by
  rintro a most d A0 A1 c0 c1 w hd hd16 hm0 hm1 hwf l0 l1 g0 g1
  have HA := Aside0.mk (tot_eq a)
  obtain ⟨w1, w2, w3, w4⟩ := wfA_iff.1 hwf
  have HW := Aside0.mk w4
  have d0 : 0 ≤ d := by omega
  have HD := Aside0.mk hd
  have HS := Aside0.mk g0
  have HC := Aside0.mk g1
  clear hd g0 g1 hwf w2 w4
  generalize a.shape = s at *
  generalize a.cells = cs at *
  go_enter Try.func105, Try.ntmps105
  go_wp2_with fail
  go_loopw [7, 8] (fun n i W => ∃ (k : Nat) (v : Int), k ≤ cs.length ∧ i = .int .i64 k ∧ n = .int .i64 v ∧ 0 ≤ v ∧ v ≤ 70368744177664 + d * 2199023255552 ∧ Aside0 (v ≤ most → (tot a : Int) ≤ v + totL (cs.drop k)) ∧ Aside0 (Below (w.heap.size + 1) (w.alloc (.cells #[.slice A0 s.length c0, .slice A1 cs.length c1] 25)) W)) (fun _ i _ => cs.length - (intOf i).toNat)
  case atStart => exact ⟨0, _, by omega, rfl, rfl, by omega, by omega, ⟨fun _ => by have := HA.out; simp; omega⟩, ⟨Below.refl _ _⟩⟩
  case round =>
    obtain ⟨k, v, hk, rfl, rfl, hv0, hv1, hinv, hbl⟩ := hrel
    have hb1 : wr.cell? ⟨w.heap.size, 1, none⟩ = some (.slice A1 cs.length c1) := (hbl.out.cell (p := ⟨w.heap.size, 1, none⟩) (by simp)).trans (by simp)
    by_cases hlt : k < cs.length
    · by_cases hvm : v ≤ most
      · have hstep := Aside0.mk (totL_at hlt)
        have hwx := HW.out _ (getD_mem zc hlt)
        obtain ⟨x, hx⟩ : ∃ x, cs.getD k zc = x := ⟨_, rfl⟩
        rw [hx] at hwx hstep
        obtain ⟨_, _, b1, hwb⟩ := wfC_iff.1 hwx
        have HX := Aside0.mk hx
        have HWB := Aside0.mk hwb
        clear hx hwx hwb
        go_wp2_with fail
        go_loopw [7, 9] (fun n i W => ∃ (q : Nat) (v : Int), q ≤ x.box.length ∧ i = .int .i64 q ∧ n = .int .i64 v ∧ 0 ≤ v ∧ v ≤ 70368744177664 + d * 2199023255552 ∧ Aside0 (v ≤ most → (tot a : Int) ≤ v + totB (x.box.drop q) + totL (cs.drop (k + 1))) ∧ Aside0 (Below (w.heap.size + 1) (w.alloc (.cells #[.slice A0 s.length c0, .slice A1 cs.length c1] 25)) W)) (fun _ i _ => x.box.length - (intOf i).toNat)
        case atStart => exact ⟨0, v, by omega, rfl, rfl, hv0, hv1, ⟨fun hq => by have h1 := hinv.out hq; rw [hstep.out] at h1; simp at h1 ⊢; omega⟩, hbl⟩
        case round =>
          clear hb1 hinv hbl
          obtain ⟨q, v', hq, rfl, rfl, hv0', hv1', hinv, hbl⟩ := hrel
          have hb1 : wr.cell? ⟨w.heap.size, 1, none⟩ = some (.slice A1 cs.length c1) := (hbl.out.cell (p := ⟨w.heap.size, 1, none⟩) (by simp)).trans (by simp)
          obtain ⟨ad, A2, m, ea, x0, x1, x2, l2, g2⟩ := at_cell (Kd.C_below HC.out (from_box hbl.out)) k hlt
          rw [HX.out] at x0 x1 x2 l2 g2
          clear x0 x1
          subst ea
          by_cases hqt : q < x.box.length
          · obtain ⟨ad2, B0, e0, B1, e1, ea, y0, y1, m0, m1, z0, z1⟩ := at_arr g2 q hqt
            subst ea
            have hst2 := Aside0.mk (totB_at hqt)
            have hwy := Aside0.mk (HWB.out _ (getD_mem za hqt))
            generalize x.box.getD q za = y at y0 y1 m0 m1 z0 z1 hst2 hwy
            clear g2
            have Z0 := Aside0.mk z0
            have Z1 := Aside0.mk z1
            clear z0 z1
            by_cases hvm' : v' ≤ most
            · by_cases hd0 : d = 0
              · have hd0' : (d == 0) = true := by simpa using hd0
                go_wp2_with fail
                go_ret
                exact ⟨⟨most + 1, rfl, by omega, by omega, fun h => by omega⟩, from_box hbl.out⟩
              · have hd0' : (d == 0) = false := by simpa using hd0
                have hd1 : 1 ≤ d := by omega
                go_wp2_with (go_at_call 105; refine (h (D - 1) ?h0 y (most - v') (d - 1) B0 B1 e0 e1 _ ?h1 ?h2 ?h3 ?h4 hwy.out m0 m1 Z0.out Z1.out).mono ?_; (case h0 => have := HD.out; omega); (case h1 => have := HD.out; omega); (case h2 => omega); (case h3 => omega); (case h4 => omega); rintro e w2 ⟨⟨r, rfl, hr0, hr1, hr2⟩, hb⟩; replace hr2 := Aside0.mk hr2)
                refine ⟨⟨q + 1, v' + 1 + r, by omega, by go_num, rfl, by omega, by omega, ⟨fun hq' => ?_⟩, ⟨hbl.out.trans (hb.mono (by have := hbl.out.size; simp at this; omega))⟩⟩, by simp [intOf]; omega⟩
                have h1 := hinv.out hvm'
                have h2 := hr2.out (by omega)
                rw [hst2.out] at h1
                go_light
                simp only [Int.natCast_add] at h1
                omega
            · go_wp2_with fail
              exact ⟨⟨k + 1, v', by omega, by go_num, rfl, hv0', hv1', ⟨fun hq' => absurd hq' (by omega)⟩, hbl⟩, by simp [intOf]; omega⟩
          · go_wp2_with fail
            refine ⟨⟨k + 1, v', by omega, by go_num, rfl, hv0', hv1', ⟨fun hq' => ?_⟩, hbl⟩, by simp [intOf]; omega⟩
            have h1 := hinv.out hq'
            rw [List.drop_of_length_le (by omega), totB] at h1
            simpa using h1
      · go_wp2_with fail
        go_ret
        refine ⟨⟨v, rfl, hv0, hv1, fun h => by omega⟩, from_box hbl.out⟩
    · go_wp2_with fail
      go_ret
      refine ⟨⟨v, rfl, hv0, hv1, fun h => ?_⟩, from_box hbl.out⟩
      have := hinv.out h
      rw [List.drop_of_length_le (by omega), totL] at this
      simpa using this
theorem refWeight_all (D : Nat) : RefWeight D := by
  induction D using Nat.strongRecOn with
  | _ D ih => exact refWeight_of ih
/-- ref03.Weight. -/
theorem refWeigh_calls (a : Arr) (most : Int) (A0 A1 : Option Addr) (c0 c1 : Nat) (w : World) (hm0 : 0 ≤ most) (hm1 : most ≤ 1099511627776) (hwf : wfA a) (l0 : a.shape.length ≤ c0) (l1 : a.cells.length ≤ c1) (g0 : Cint w A0 a.shape) (g1 : CC w A1 a.cells) :
    Calls Try.prog 58 #[.agg #[.slice A0 a.shape.length c0, .slice A1 a.cells.length c1], .int .i64 most] w fun e w' => Weighs a most 16 e ∧ Below w.heap.size w w' := by
  have HS := Aside0.mk g0
  have HC := Aside0.mk g1
  clear g0 g1
  go_enter Try.func58, Try.ntmps58
  go_wp2_with (go_at_call 105; refine (refWeight_all 16 a most 16 A0 A1 c0 c1 _ rfl (by omega) hm0 hm1 hwf l0 l1 (Cint_alloc HS.out _) (CC_alloc HC.out _)).mono ?_; rintro e w1 ⟨⟨r, rfl, hr⟩, hb⟩)
  go_ret
  exact ⟨⟨r, rfl, hr⟩, ((Below.refl _ _).alloc (Nat.le_refl _) _).trans (hb.mono (by simp))⟩
end Go.Proofs.Ytdfijdajkdkkfaa
