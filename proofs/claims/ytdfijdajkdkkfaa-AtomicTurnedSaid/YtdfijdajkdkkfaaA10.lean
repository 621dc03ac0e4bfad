/-
  Walk: the law AtomicTurned.
-/
import Derived.Test.YtdfijdajkdkkfaaA8
set_option linter.unusedVariables false
set_option linter.unusedSimpArgs false
namespace Go.Proofs.Ytdfijdajkdkkfaa
open Go.RowKit Go.Proofs.YtdfijdajkdkkfaaW.PrintWords Go.Proofs.YtdfijdajkdkkfaaW.PrintLast
open T
theorem pairs_turn {op op' : Int} (a b : Arr) (h : (op' = op ∧ (op = 21 ∨ op = 23 ∨ op = 24 ∨ op = 25 ∨ op = 27 ∨ op = 28)) ∨ (op = 29 ∧ op' = 30) ∨ (op = 30 ∧ op' = 29) ∨ (op = 31 ∧ op' = 32) ∨ (op = 32 ∧ op' = 31)) : T.pairs op a b = T.pairs op' b a := by
  funext i
  unfold T.pairs
  exact pair_turn op op' _ _ _ _ h
theorem agree_eq (s t : List Int) : T.agree s t = T.agree t s := by rcases agree_turn s t with h | h <;> exact h
theorem dyS_turn {op op' : Int} {a b : Arr} (ha : chk 8 a = 0) (hb : chk 8 b = 0) (h : (op' = op ∧ (op = 21 ∨ op = 23 ∨ op = 24 ∨ op = 25 ∨ op = 27 ∨ op = 28)) ∨ (op = 29 ∧ op' = 30) ∨ (op = 30 ∧ op' = 29) ∨ (op = 31 ∧ op' = 32) ∨ (op = 32 ∧ op' = 31)) : T.dyS op a b = T.dyS op' b a := by
  have h3 : ¬ op = 54 := by omega
  have h4 : ¬ (op < 21 ∨ 32 < op) := by omega
  have h3' : ¬ op' = 54 := by omega
  have h4' : ¬ (op' < 21 ∨ 32 < op') := by omega
  by_cases h7 : (T.agree a.shape b.shape).2 = 0
  · have h7' : (T.agree b.shape a.shape).2 = 0 := by rw [agree_eq]; exact h7
    have hN : (if b.shape.length = 0 then a.cells.length else b.cells.length) = (if a.shape.length = 0 then b.cells.length else a.cells.length) := by
      by_cases e1 : a.shape.length = 0
      · by_cases e2 : b.shape.length = 0
        · rw [if_pos e1, if_pos e2, chk_nil ha e1, chk_nil hb e2]
        · rw [if_pos e1, if_neg e2]
      · by_cases e2 : b.shape.length = 0
        · rw [if_neg e1, if_pos e2]
        · rw [if_neg e1, if_neg e2, same_count ha hb h7 e1 e2]
    rw [dyS_6 (not_not_intro ha) (not_not_intro hb) h3 h4 (not_not_intro h7) rfl, dyS_6 (not_not_intro hb) (not_not_intro ha) h3' h4' (not_not_intro h7') hN, pairs_turn a b h, agree_eq]
  · have h7' : (T.agree b.shape a.shape).2 ≠ 0 := by rw [agree_eq]; exact h7
    rw [dyS_5 (not_not_intro ha) (not_not_intro hb) h3 h4 h7, dyS_5 (not_not_intro hb) (not_not_intro ha) h3' h4' h7', agree_eq]
set_option maxHeartbeats 8000000 in
set_option maxRecDepth 100000 in
theorem atomicTurned_calls (op : Int) (a b : Arr) (A0 A1 B0 B1 : Option Addr) (c0 c1 d0 d1 : Nat) (w : World) (hwa : wfA a) (hwb : wfA b) (l0 : a.shape.length ≤ c0) (l1 : a.cells.length ≤ c1) (m0 : b.shape.length ≤ d0) (m1 : b.cells.length ≤ d1) (g0 : Cint w A0 a.shape) (g1 : CC w A1 a.cells) (z0 : Cint w B0 b.shape) (z1 : CC w B1 b.cells) :
    Calls Try.prog 17 #[.int .i64 op, .agg #[.slice A0 a.shape.length c0, .slice A1 a.cells.length c1], .agg #[.slice B0 b.shape.length d0, .slice B1 b.cells.length d1]] w fun e w' => e = .returned (.bool true) ∧ Below w.heap.size w w' := by
  have G0 := Aside0.mk g0
  have G1 := Aside0.mk g1
  have Z0 := Aside0.mk z0
  have Z1 := Aside0.mk z1
  have HWA := Aside0.mk hwa
  have HWB := Aside0.mk hwb
  obtain ⟨ca, hca⟩ : ∃ x, chk 8 a = x := ⟨_, rfl⟩
  obtain ⟨cb, hcb⟩ : ∃ x, chk 8 b = x := ⟨_, rfl⟩
  have HCA := Aside0.mk hca
  have HCB := Aside0.mk hcb
  have HKA := Aside0.mk (fun (W : World) (h : Below w.heap.size w W) => calls_val (v' := ca) (refCheck_calls a A0 A1 c0 c1 W l0 l1 (Kd.C_below g0 h) (Kd.C_below g1 h)) hca)
  have HKB := Aside0.mk (fun (W : World) (h : Below w.heap.size w W) => calls_val (v' := cb) (refCheck_calls b B0 B1 d0 d1 W m0 m1 (Kd.C_below z0 h) (Kd.C_below z1 h)) hcb)
  have HP1 := Aside0.mk (fun (o : Int) (W : World) (h : Below w.heap.size w W) => atDy_calls o a b A0 A1 B0 B1 c0 c1 d0 d1 W hwa hwb l0 l1 m0 m1 (Kd.C_below g0 h) (Kd.C_below g1 h) (Kd.C_below z0 h) (Kd.C_below z1 h))
  have HP2 := Aside0.mk (fun (o : Int) (W : World) (h : Below w.heap.size w W) => atDy_calls o b a B0 B1 A0 A1 d0 d1 c0 c1 W hwb hwa m0 m1 l0 l1 (Kd.C_below z0 h) (Kd.C_below z1 h) (Kd.C_below g0 h) (Kd.C_below g1 h))
  clear g0 g1 z0 z1 hwa hwb hca hcb
  go_enter Try.func17, Try.ntmps17
  go_wp2_with fail
  refine (light4_calls a A0 A1 c0 c1 _ HWA.out l0 l1 (Kd.C_below G0.out ?hb) (Kd.C_below G1.out ?hb)).mono ?_; (case hb => (repeat (first | exact Below.refl _ _ | apply below_alloc | apply below_drew | apply pw_below_drewN)))
  rintro e w1 ⟨t1, rfl, -, hb⟩
  have hb1 := Aside0.mk (show Below w.heap.size w w1 from (then_below (by (repeat (first | exact Below.refl _ _ | apply below_alloc | apply below_drew | apply pw_below_drewN))) hb))
  have x00 : w1.cell? ⟨w.heap.size, 0, none⟩ = some (.slice A0 a.shape.length c0) := (hb.cell (p := ⟨w.heap.size, 0, none⟩) (by simp; omega)).trans (by go_simp)
  have x01 : w1.cell? ⟨w.heap.size, 1, none⟩ = some (.slice A1 a.cells.length c1) := (hb.cell (p := ⟨w.heap.size, 1, none⟩) (by simp; omega)).trans (by go_simp)
  have x10 : w1.cell? ⟨w.heap.size + 1, 0, none⟩ = some (.slice B0 b.shape.length d0) := (hb.cell (p := ⟨w.heap.size + 1, 0, none⟩) (by simp)).trans (by go_simp)
  have x11 : w1.cell? ⟨w.heap.size + 1, 1, none⟩ = some (.slice B1 b.cells.length d1) := (hb.cell (p := ⟨w.heap.size + 1, 1, none⟩) (by simp)).trans (by go_simp)
  have hz1 : w.heap.size + 2 ≤ w1.heap.size := by have := hb.size; simp at this; omega
  clear hb
  cases t1 with
  | false =>
    go_wp2_with fail
    refine (works4_calls _).mono ?_; rintro e w2 ⟨rfl, hb⟩
    go_wp2_with fail
    go_ret
    exact ret_below rfl (then_below hb1.out hb)
  | true =>
    go_wp2_with fail
    refine (light4_calls b B0 B1 d0 d1 _ HWB.out m0 m1 (Kd.C_below Z0.out hb1.out) (Kd.C_below Z1.out hb1.out)).mono ?_
    rintro e w2 ⟨t2, rfl, -, hb⟩
    have hb2 := Aside0.mk (then_below hb1.out hb)
    have y00 : w2.cell? ⟨w.heap.size, 0, none⟩ = some (.slice A0 a.shape.length c0) := (hb.cell (p := ⟨w.heap.size, 0, none⟩) (by simp; omega)).trans x00
    have y01 : w2.cell? ⟨w.heap.size, 1, none⟩ = some (.slice A1 a.cells.length c1) := (hb.cell (p := ⟨w.heap.size, 1, none⟩) (by simp; omega)).trans x01
    have y10 : w2.cell? ⟨w.heap.size + 1, 0, none⟩ = some (.slice B0 b.shape.length d0) := (hb.cell (p := ⟨w.heap.size + 1, 0, none⟩) (by simp; omega)).trans x10
    have y11 : w2.cell? ⟨w.heap.size + 1, 1, none⟩ = some (.slice B1 b.cells.length d1) := (hb.cell (p := ⟨w.heap.size + 1, 1, none⟩) (by simp; omega)).trans x11
    have hz2 : w.heap.size + 2 ≤ w2.heap.size := by have := hb.size; omega
    clear hb x00 x01 x10 x11
    cases t2 with
    | false =>
      go_wp2_with fail
      refine (works4_calls _).mono ?_; rintro e w3 ⟨rfl, hb⟩
      go_wp2_with fail
      go_ret
      exact ret_below rfl (then_below hb2.out hb)
    | true =>
      go_wp2_with fail
      refine (HKA.out _ hb2.out).mono ?_
      rintro e w3 ⟨rfl, hb⟩
      have hb3 := Aside0.mk (then_below hb2.out hb)
      have x00 : w3.cell? ⟨w.heap.size, 0, none⟩ = some (.slice A0 a.shape.length c0) := (hb.cell (p := ⟨w.heap.size, 0, none⟩) (by simp; omega)).trans y00
      have x01 : w3.cell? ⟨w.heap.size, 1, none⟩ = some (.slice A1 a.cells.length c1) := (hb.cell (p := ⟨w.heap.size, 1, none⟩) (by simp; omega)).trans y01
      have x10 : w3.cell? ⟨w.heap.size + 1, 0, none⟩ = some (.slice B0 b.shape.length d0) := (hb.cell (p := ⟨w.heap.size + 1, 0, none⟩) (by simp; omega)).trans y10
      have x11 : w3.cell? ⟨w.heap.size + 1, 1, none⟩ = some (.slice B1 b.cells.length d1) := (hb.cell (p := ⟨w.heap.size + 1, 1, none⟩) (by simp; omega)).trans y11
      have hz3 : w.heap.size + 2 ≤ w3.heap.size := by have := hb.size; omega
      clear hb y00 y01 y10 y11
      by_cases hc : ca = 0
      case neg =>
        have n1 : (ca == 0) = false := by rw [beq_eq_false_iff_ne]; exact hc
        have n2 : (ca != 0) = true := by rw [bne_iff_ne]; exact hc
        clear hc
        go_wp2_with fail
        refine (works4_calls _).mono ?_; rintro e w4 ⟨rfl, hb⟩
        go_wp2_with fail
        go_ret
        exact ret_below rfl (then_below hb3.out hb)
      subst hc
      go_wp2_with fail
      refine (HKB.out _ hb3.out).mono ?_
      rintro e w4 ⟨rfl, hb⟩
      have hb4 := Aside0.mk (then_below hb3.out hb)
      have y00 : w4.cell? ⟨w.heap.size, 0, none⟩ = some (.slice A0 a.shape.length c0) := (hb.cell (p := ⟨w.heap.size, 0, none⟩) (by simp; omega)).trans x00
      have y01 : w4.cell? ⟨w.heap.size, 1, none⟩ = some (.slice A1 a.cells.length c1) := (hb.cell (p := ⟨w.heap.size, 1, none⟩) (by simp; omega)).trans x01
      have y10 : w4.cell? ⟨w.heap.size + 1, 0, none⟩ = some (.slice B0 b.shape.length d0) := (hb.cell (p := ⟨w.heap.size + 1, 0, none⟩) (by simp; omega)).trans x10
      have y11 : w4.cell? ⟨w.heap.size + 1, 1, none⟩ = some (.slice B1 b.cells.length d1) := (hb.cell (p := ⟨w.heap.size + 1, 1, none⟩) (by simp; omega)).trans x11
      have hz4 : w.heap.size + 2 ≤ w4.heap.size := by have := hb.size; omega
      clear hb x00 x01 x10 x11
      by_cases hc : cb = 0
      case neg =>
        have n1 : (cb == 0) = false := by rw [beq_eq_false_iff_ne]; exact hc
        have n2 : (cb != 0) = true := by rw [bne_iff_ne]; exact hc
        clear hc
        go_wp2_with fail
        refine (works4_calls _).mono ?_; rintro e w5 ⟨rfl, hb⟩
        go_wp2_with fail
        go_ret
        exact ret_below rfl (then_below hb4.out hb)
      subst hc
      have HT := Aside0.mk (fun op op' h => dyS_turn (op := op) (op' := op') HCA.out HCB.out h)
      clear HKA HKB HCA HCB
      by_cases hop : op = 21 ∨ op = 23 ∨ op = 24 ∨ op = 25 ∨ op = 27 ∨ op = 28 ∨ op = 29 ∨ op = 30 ∨ op = 31 ∨ op = 32
      case neg =>
        have n1 : (op == 21) = false := by rw [beq_eq_false_iff_ne]; omega
        have n2 : (op == 23) = false := by rw [beq_eq_false_iff_ne]; omega
        have n3 : (op == 24) = false := by rw [beq_eq_false_iff_ne]; omega
        have n4 : (op == 25) = false := by rw [beq_eq_false_iff_ne]; omega
        have n5 : (op == 27) = false := by rw [beq_eq_false_iff_ne]; omega
        have n6 : (op == 28) = false := by rw [beq_eq_false_iff_ne]; omega
        have n7 : (op == 29) = false := by rw [beq_eq_false_iff_ne]; omega
        have n8 : (op == 30) = false := by rw [beq_eq_false_iff_ne]; omega
        have n9 : (op == 31) = false := by rw [beq_eq_false_iff_ne]; omega
        have n10 : (op == 32) = false := by rw [beq_eq_false_iff_ne]; omega
        clear hop
        go_wp2_with fail
        refine (works4_calls _).mono ?_; rintro e w5 ⟨rfl, hb⟩
        go_wp2_with fail
        go_ret
        exact ret_below rfl (then_below hb4.out hb)
      obtain ⟨oq, hoq⟩ : ∃ oq, (oq = op ∧ (op = 21 ∨ op = 23 ∨ op = 24 ∨ op = 25 ∨ op = 27 ∨ op = 28)) ∨ (op = 29 ∧ oq = 30) ∨ (op = 30 ∧ oq = 29) ∨ (op = 31 ∧ oq = 32) ∨ (op = 32 ∧ oq = 31) := by
        rcases hop with rfl | rfl | rfl | rfl | rfl | rfl | rfl | rfl | rfl | rfl
        · exact ⟨21, by decide⟩
        · exact ⟨23, by decide⟩
        · exact ⟨24, by decide⟩
        · exact ⟨25, by decide⟩
        · exact ⟨27, by decide⟩
        · exact ⟨28, by decide⟩
        · exact ⟨30, by decide⟩
        · exact ⟨29, by decide⟩
        · exact ⟨32, by decide⟩
        · exact ⟨31, by decide⟩
      have hT := HT.out op oq hoq
      have HQ1 := Aside0.mk (HP1.out op)
      have HQ2 := Aside0.mk (HP2.out oq)
      rw [← hT] at HQ2
      clear hT HT HP1 HP2 hop
      generalize T.dyS op a b = p at HQ1 HQ2
      rcases hoq with ⟨rfl, rfl | rfl | rfl | rfl | rfl | rfl⟩ | ⟨rfl, rfl⟩ | ⟨rfl, rfl⟩ | ⟨rfl, rfl⟩ | ⟨rfl, rfl⟩
      all_goals
        obtain ⟨⟨s, cs⟩, x⟩ := p
        go_wp2_with fail
        refine (HQ1.out _ hb4.out).mono ?_
        intro e w5 hq
        obtain ⟨S0, e0, S1, e1, rfl, k0, k1, f0, f1, hb⟩ := newArr_at hq
        clear hq
        have hb5 := Aside0.mk (then_below hb4.out hb)
        have HF0 := Aside0.mk (Kd.F_now f0)
        have HF1 := Aside0.mk (Kd.F_now f1)
        have x00 : ∀ o, (w5.alloc o).cell? ⟨w.heap.size, 0, none⟩ = some (.slice A0 a.shape.length c0) := fun o => later ((hb.cell (p := ⟨w.heap.size, 0, none⟩) (by simp; omega)).trans y00) o
        have x01 : ∀ o, (w5.alloc o).cell? ⟨w.heap.size, 1, none⟩ = some (.slice A1 a.cells.length c1) := fun o => later ((hb.cell (p := ⟨w.heap.size, 1, none⟩) (by simp; omega)).trans y01) o
        have x10 : ∀ o, (w5.alloc o).cell? ⟨w.heap.size + 1, 0, none⟩ = some (.slice B0 b.shape.length d0) := fun o => later ((hb.cell (p := ⟨w.heap.size + 1, 0, none⟩) (by simp; omega)).trans y10) o
        have x11 : ∀ o, (w5.alloc o).cell? ⟨w.heap.size + 1, 1, none⟩ = some (.slice B1 b.cells.length d1) := fun o => later ((hb.cell (p := ⟨w.heap.size + 1, 1, none⟩) (by simp; omega)).trans y11) o
        have hz5 : w.heap.size + 2 ≤ w5.heap.size := by have := hb.size; omega
        clear hb y00 y01 y10 y11 f0 f1
        go_wp2_with fail
        refine (HQ2.out _ (by apply below_alloc; exact hb5.out)).mono ?_
        intro e w6 hq
        obtain ⟨R0, n0, R1, n1, rfl, q0, q1, h0, h1, hb⟩ := newArr_at hq
        clear hq
        have hb6 := Aside0.mk (then_below (by apply below_alloc; exact hb5.out) hb)
        have HG0 := Aside0.mk (Kd.F_now h0)
        have HG1 := Aside0.mk (Kd.F_now h1)
        have HE0 := Aside0.mk (Kd.C_below (Kd.C_below HF0.out (by apply below_alloc; exact Below.refl _ _)) hb)
        have HE1 := Aside0.mk (Kd.C_below (Kd.C_below HF1.out (by apply below_alloc; exact Below.refl _ _)) hb)
        have v0 : ∀ o, (w6.alloc o).cell? ⟨w5.heap.size, 0, none⟩ = some (.slice S0 s.length e0) := fun o => later ((hb.cell (p := ⟨w5.heap.size, 0, none⟩) (by simp)).trans (by go_simp)) o
        have v1 : ∀ o, (w6.alloc o).cell? ⟨w5.heap.size, 1, none⟩ = some (.slice S1 cs.length e1) := fun o => later ((hb.cell (p := ⟨w5.heap.size, 1, none⟩) (by simp)).trans (by go_simp)) o
        have hz6 : w5.heap.size < w6.heap.size := by have := hb.size; simp at this; omega
        have hxx : (x == x) = true := by simp
        clear hb x00 x01 x10 x11 h0 h1
        go_wp2_with fail
        refine (refSame_calls ⟨s, cs⟩ ⟨s, cs⟩ S0 S1 R0 R1 e0 e1 n0 n1 _ k0 k1 q0 q1 (Kd.C_below HE0.out (by apply below_alloc; exact Below.refl _ _)) (Kd.C_below HE1.out (by apply below_alloc; exact Below.refl _ _)) (Kd.C_below HG0.out (by apply below_alloc; exact Below.refl _ _)) (Kd.C_below HG1.out (by apply below_alloc; exact Below.refl _ _))).mono ?_
        rintro e w7 ⟨rfl, hb⟩
        rw [cmpA_self]
        have hb7 := Aside0.mk (then_below (by apply below_alloc; exact hb6.out) hb)
        clear hb
        go_wp2_with fail
        refine (works4_calls _).mono ?_; rintro e w8 ⟨rfl, hb⟩
        go_wp2_with fail
        go_ret
        exact ret_below rfl (then_below hb7.out hb)
end Go.Proofs.Ytdfijdajkdkkfaa
