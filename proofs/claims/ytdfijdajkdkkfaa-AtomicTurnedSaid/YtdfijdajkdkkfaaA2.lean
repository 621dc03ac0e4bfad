/-
  Walks: functions of cells, one by one: the reference's.
-/
import Derived.Test.YtdfijdajkdkkfaaA1
set_option linter.unusedVariables false
set_option linter.unusedSimpArgs false
namespace Go.Proofs.Ytdfijdajkdkkfaa
open Go.RowKit Go.Proofs.YtdfijdajkdkkfaaW.PrintWords Go.Proofs.YtdfijdajkdkkfaaW.PrintLast
open T
set_option maxHeartbeats 8000000 in
set_option maxRecDepth 100000 in
theorem refDyCell_calls (op k n l m : Int) (vb vc : Value) (w : World) (hn : in64 n) (hm : in64 m) : Calls Try.prog 50 #[.int .i64 op, .agg #[.int .i64 k, .int .i64 n, vb], .agg #[.int .i64 l, .int .i64 m, vc]] w (CellRes (T.dyC op k n l m) w) := by
  have HN := Aside0.mk hn
  have HM := Aside0.mk hm
  clear hn hm
  by_cases hop : op < 21
  · go_enter Try.func50, Try.ntmps50
    go_wp2_with fail
    exact bodyPost_ret (v := .tuple #[.agg #[.int .i64 0, .int .i64 0, .slice none 0 0], .int .i64 1]) (by simp only [results, Try.results50]; go_simp) rfl (cell_res (by unfold T.dyC; rw [if_pos (Or.inl hop)]) (by (repeat (first | exact Below.refl _ _ | apply below_alloc | apply below_drew | apply pw_below_drewN))))
  by_cases hop2 : 32 < op
  · go_enter Try.func50, Try.ntmps50
    go_wp2_with fail
    exact bodyPost_ret (v := .tuple #[.agg #[.int .i64 0, .int .i64 0, .slice none 0 0], .int .i64 1]) (by simp only [results, Try.results50]; go_simp) rfl (cell_res (by unfold T.dyC; rw [if_pos (Or.inr hop2)]) (by (repeat (first | exact Below.refl _ _ | apply below_alloc | apply below_drew | apply pw_below_drewN))))
  by_cases hq : op = 27 ∨ op = 28
  · by_cases hk : k = 2
    · subst hk
      rcases hq with rfl | rfl
      all_goals go_enter Try.func50, Try.ntmps50
      all_goals go_wp2_with fail
      all_goals exact bodyPost_ret (v := .tuple #[.agg #[.int .i64 0, .int .i64 0, .slice none 0 0], .int .i64 5]) (by simp only [results, Try.results50]; go_simp) rfl (cell_res (by simp [T.dyC]) (by (repeat (first | exact Below.refl _ _ | apply below_alloc | apply below_drew | apply pw_below_drewN))))
    have hkb : (k == 2) = false := by rw [beq_eq_false_iff_ne]; exact hk
    have HK := Aside0.mk hk
    clear hk
    by_cases hl : l = 2
    · subst hl
      rcases hq with rfl | rfl
      all_goals go_enter Try.func50, Try.ntmps50
      all_goals go_wp2_with fail
      all_goals exact bodyPost_ret (v := .tuple #[.agg #[.int .i64 0, .int .i64 0, .slice none 0 0], .int .i64 5]) (by simp only [results, Try.results50]; go_simp) rfl (cell_res (by simp [T.dyC]) (by (repeat (first | exact Below.refl _ _ | apply below_alloc | apply below_drew | apply pw_below_drewN))))
    have hlb : (l == 2) = false := by rw [beq_eq_false_iff_ne]; exact hl
    have HL := Aside0.mk hl
    clear hl
    clear hop hop2
    by_cases hkl : k = l
    · subst hkl
      by_cases hnm : n = m
      · subst hnm
        rcases hq with rfl | rfl
        all_goals go_enter Try.func50, Try.ntmps50
        all_goals go_wp2_with fail
        · refine (refTruth_calls true _).mono ?_
          rintro e w3 ⟨rfl, hb⟩
          have z0 : w3.cell? ⟨w.heap.size + 1 + 1, 0, none⟩ = some (.int .i64 0) := (hb.cell (p := ⟨w.heap.size + 1 + 1, 0, none⟩) (by simp)).trans (by go_simp)
          have z1 : w3.cell? ⟨w.heap.size + 1 + 1, 1, none⟩ = some (.int .i64 0) := (hb.cell (p := ⟨w.heap.size + 1 + 1, 1, none⟩) (by simp)).trans (by go_simp)
          have z2 : w3.cell? ⟨w.heap.size + 1 + 1, 2, none⟩ = some (.slice none 0 0) := (hb.cell (p := ⟨w.heap.size + 1 + 1, 2, none⟩) (by simp)).trans (by go_simp)
          have zf : ∀ j, w3.frozen? ⟨w.heap.size + 1 + 1, j, none⟩ = false := fun j => (hb.frozen (p := ⟨w.heap.size + 1 + 1, j, none⟩) (by simp)).trans (by go_simp)
          replace hb := Aside0.mk hb
          go_wp2_with fail
          exact bodyPost_ret (v := .tuple #[.agg #[.int .i64 0, .int .i64 (T.truth true), .slice none 0 0], .int .i64 0]) (by simp only [results, Try.results50]; go_simp) rfl (cell_res (by have := HK.out; simp [T.dyC, this] <;> rfl) (by (repeat (refine Below.setCell ?_ (by first | (simp; done) | (simp; omega)) _)); exact then_below (by (repeat (first | exact Below.refl _ _ | apply below_alloc | apply below_drew | apply pw_below_drewN))) hb.out))
        · refine (refTruth_calls false _).mono ?_
          rintro e w3 ⟨rfl, hb⟩
          have z0 : w3.cell? ⟨w.heap.size + 1 + 1, 0, none⟩ = some (.int .i64 0) := (hb.cell (p := ⟨w.heap.size + 1 + 1, 0, none⟩) (by simp)).trans (by go_simp)
          have z1 : w3.cell? ⟨w.heap.size + 1 + 1, 1, none⟩ = some (.int .i64 0) := (hb.cell (p := ⟨w.heap.size + 1 + 1, 1, none⟩) (by simp)).trans (by go_simp)
          have z2 : w3.cell? ⟨w.heap.size + 1 + 1, 2, none⟩ = some (.slice none 0 0) := (hb.cell (p := ⟨w.heap.size + 1 + 1, 2, none⟩) (by simp)).trans (by go_simp)
          have zf : ∀ j, w3.frozen? ⟨w.heap.size + 1 + 1, j, none⟩ = false := fun j => (hb.frozen (p := ⟨w.heap.size + 1 + 1, j, none⟩) (by simp)).trans (by go_simp)
          replace hb := Aside0.mk hb
          go_wp2_with fail
          exact bodyPost_ret (v := .tuple #[.agg #[.int .i64 0, .int .i64 (T.truth false), .slice none 0 0], .int .i64 0]) (by simp only [results, Try.results50]; go_simp) rfl (cell_res (by have := HK.out; simp [T.dyC, this] <;> rfl) (by (repeat (refine Below.setCell ?_ (by first | (simp; done) | (simp; omega)) _)); exact then_below (by (repeat (first | exact Below.refl _ _ | apply below_alloc | apply below_drew | apply pw_below_drewN))) hb.out))
      · have hb1 : (n == m) = false := by rw [beq_eq_false_iff_ne]; exact hnm
        have HNM := Aside0.mk hnm
        clear hnm
        rcases hq with rfl | rfl
        all_goals go_enter Try.func50, Try.ntmps50
        all_goals go_wp2_with fail
        · refine (refTruth_calls false _).mono ?_
          rintro e w3 ⟨rfl, hb⟩
          have z0 : w3.cell? ⟨w.heap.size + 1 + 1, 0, none⟩ = some (.int .i64 0) := (hb.cell (p := ⟨w.heap.size + 1 + 1, 0, none⟩) (by simp)).trans (by go_simp)
          have z1 : w3.cell? ⟨w.heap.size + 1 + 1, 1, none⟩ = some (.int .i64 0) := (hb.cell (p := ⟨w.heap.size + 1 + 1, 1, none⟩) (by simp)).trans (by go_simp)
          have z2 : w3.cell? ⟨w.heap.size + 1 + 1, 2, none⟩ = some (.slice none 0 0) := (hb.cell (p := ⟨w.heap.size + 1 + 1, 2, none⟩) (by simp)).trans (by go_simp)
          have zf : ∀ j, w3.frozen? ⟨w.heap.size + 1 + 1, j, none⟩ = false := fun j => (hb.frozen (p := ⟨w.heap.size + 1 + 1, j, none⟩) (by simp)).trans (by go_simp)
          replace hb := Aside0.mk hb
          go_wp2_with fail
          exact bodyPost_ret (v := .tuple #[.agg #[.int .i64 0, .int .i64 (T.truth false), .slice none 0 0], .int .i64 0]) (by simp only [results, Try.results50]; go_simp) rfl (cell_res (by have := HK.out; simp [T.dyC, this, HNM.out] <;> rfl) (by (repeat (refine Below.setCell ?_ (by first | (simp; done) | (simp; omega)) _)); exact then_below (by (repeat (first | exact Below.refl _ _ | apply below_alloc | apply below_drew | apply pw_below_drewN))) hb.out))
        · refine (refTruth_calls true _).mono ?_
          rintro e w3 ⟨rfl, hb⟩
          have z0 : w3.cell? ⟨w.heap.size + 1 + 1, 0, none⟩ = some (.int .i64 0) := (hb.cell (p := ⟨w.heap.size + 1 + 1, 0, none⟩) (by simp)).trans (by go_simp)
          have z1 : w3.cell? ⟨w.heap.size + 1 + 1, 1, none⟩ = some (.int .i64 0) := (hb.cell (p := ⟨w.heap.size + 1 + 1, 1, none⟩) (by simp)).trans (by go_simp)
          have z2 : w3.cell? ⟨w.heap.size + 1 + 1, 2, none⟩ = some (.slice none 0 0) := (hb.cell (p := ⟨w.heap.size + 1 + 1, 2, none⟩) (by simp)).trans (by go_simp)
          have zf : ∀ j, w3.frozen? ⟨w.heap.size + 1 + 1, j, none⟩ = false := fun j => (hb.frozen (p := ⟨w.heap.size + 1 + 1, j, none⟩) (by simp)).trans (by go_simp)
          replace hb := Aside0.mk hb
          go_wp2_with fail
          exact bodyPost_ret (v := .tuple #[.agg #[.int .i64 0, .int .i64 (T.truth true), .slice none 0 0], .int .i64 0]) (by simp only [results, Try.results50]; go_simp) rfl (cell_res (by have := HK.out; simp [T.dyC, this, HNM.out] <;> rfl) (by (repeat (refine Below.setCell ?_ (by first | (simp; done) | (simp; omega)) _)); exact then_below (by (repeat (first | exact Below.refl _ _ | apply below_alloc | apply below_drew | apply pw_below_drewN))) hb.out))
    · have hb1 : (k == l) = false := by rw [beq_eq_false_iff_ne]; exact hkl
      have HKL := Aside0.mk hkl
      clear hkl
      rcases hq with rfl | rfl
      all_goals go_enter Try.func50, Try.ntmps50
      all_goals go_wp2_with fail
      · refine (refTruth_calls false _).mono ?_
        rintro e w3 ⟨rfl, hb⟩
        have z0 : w3.cell? ⟨w.heap.size + 1 + 1, 0, none⟩ = some (.int .i64 0) := (hb.cell (p := ⟨w.heap.size + 1 + 1, 0, none⟩) (by simp)).trans (by go_simp)
        have z1 : w3.cell? ⟨w.heap.size + 1 + 1, 1, none⟩ = some (.int .i64 0) := (hb.cell (p := ⟨w.heap.size + 1 + 1, 1, none⟩) (by simp)).trans (by go_simp)
        have z2 : w3.cell? ⟨w.heap.size + 1 + 1, 2, none⟩ = some (.slice none 0 0) := (hb.cell (p := ⟨w.heap.size + 1 + 1, 2, none⟩) (by simp)).trans (by go_simp)
        have zf : ∀ j, w3.frozen? ⟨w.heap.size + 1 + 1, j, none⟩ = false := fun j => (hb.frozen (p := ⟨w.heap.size + 1 + 1, j, none⟩) (by simp)).trans (by go_simp)
        replace hb := Aside0.mk hb
        go_wp2_with fail
        exact bodyPost_ret (v := .tuple #[.agg #[.int .i64 0, .int .i64 (T.truth false), .slice none 0 0], .int .i64 0]) (by simp only [results, Try.results50]; go_simp) rfl (cell_res (by simp [T.dyC, HK.out, HL.out, HKL.out] <;> rfl) (by (repeat (refine Below.setCell ?_ (by first | (simp; done) | (simp; omega)) _)); exact then_below (by (repeat (first | exact Below.refl _ _ | apply below_alloc | apply below_drew | apply pw_below_drewN))) hb.out))
      · refine (refTruth_calls true _).mono ?_
        rintro e w3 ⟨rfl, hb⟩
        have z0 : w3.cell? ⟨w.heap.size + 1 + 1, 0, none⟩ = some (.int .i64 0) := (hb.cell (p := ⟨w.heap.size + 1 + 1, 0, none⟩) (by simp)).trans (by go_simp)
        have z1 : w3.cell? ⟨w.heap.size + 1 + 1, 1, none⟩ = some (.int .i64 0) := (hb.cell (p := ⟨w.heap.size + 1 + 1, 1, none⟩) (by simp)).trans (by go_simp)
        have z2 : w3.cell? ⟨w.heap.size + 1 + 1, 2, none⟩ = some (.slice none 0 0) := (hb.cell (p := ⟨w.heap.size + 1 + 1, 2, none⟩) (by simp)).trans (by go_simp)
        have zf : ∀ j, w3.frozen? ⟨w.heap.size + 1 + 1, j, none⟩ = false := fun j => (hb.frozen (p := ⟨w.heap.size + 1 + 1, j, none⟩) (by simp)).trans (by go_simp)
        replace hb := Aside0.mk hb
        go_wp2_with fail
        exact bodyPost_ret (v := .tuple #[.agg #[.int .i64 0, .int .i64 (T.truth true), .slice none 0 0], .int .i64 0]) (by simp only [results, Try.results50]; go_simp) rfl (cell_res (by simp [T.dyC, HK.out, HL.out, HKL.out] <;> rfl) (by (repeat (refine Below.setCell ?_ (by first | (simp; done) | (simp; omega)) _)); exact then_below (by (repeat (first | exact Below.refl _ _ | apply below_alloc | apply below_drew | apply pw_below_drewN))) hb.out))
  have h1 : (op == 27) = false := by rw [beq_eq_false_iff_ne]; omega
  have h2 : (op == 28) = false := by rw [beq_eq_false_iff_ne]; omega
  by_cases hk : k = 0
  · subst hk
    by_cases hl : l = 0
    · subst hl
      clear h1 h2
      rcases (show op = 21 ∨ op = 22 ∨ op = 23 ∨ op = 24 ∨ op = 25 ∨ op = 26 ∨ op = 29 ∨ op = 30 ∨ op = 31 ∨ op = 32 by omega) with rfl | rfl | rfl | rfl | rfl | rfl | rfl | rfl | rfl | rfl
      all_goals clear hop hop2 hq
      · go_enter Try.func50, Try.ntmps50
        go_wp2_with fail
        refine (refAdd_calls n m _ HN.out HM.out).mono ?_
        rintro e w3 ⟨rfl, hb⟩
        have z0 : w3.cell? ⟨w.heap.size + 1 + 1, 0, none⟩ = some (.int .i64 0) := (hb.cell (p := ⟨w.heap.size + 1 + 1, 0, none⟩) (by simp)).trans (by go_simp)
        have z1 : w3.cell? ⟨w.heap.size + 1 + 1, 1, none⟩ = some (.int .i64 0) := (hb.cell (p := ⟨w.heap.size + 1 + 1, 1, none⟩) (by simp)).trans (by go_simp)
        have z2 : w3.cell? ⟨w.heap.size + 1 + 1, 2, none⟩ = some (.slice none 0 0) := (hb.cell (p := ⟨w.heap.size + 1 + 1, 2, none⟩) (by simp)).trans (by go_simp)
        have zf : ∀ j, w3.frozen? ⟨w.heap.size + 1 + 1, j, none⟩ = false := fun j => (hb.frozen (p := ⟨w.heap.size + 1 + 1, j, none⟩) (by simp)).trans (by go_simp)
        replace hb := Aside0.mk hb
        go_wp2_with fail
        exact bodyPost_ret (v := .tuple #[.agg #[.int .i64 0, .int .i64 (T.fit (n + m)).1, .slice none 0 0], .int .i64 (T.fit (n + m)).2]) (by simp only [results, Try.results50]; go_simp) rfl (cell_res (by simp [T.dyC, T.arith]) (by (repeat (refine Below.setCell ?_ (by first | (simp; done) | (simp; omega)) _)); exact then_below (by (repeat (first | exact Below.refl _ _ | apply below_alloc | apply below_drew | apply pw_below_drewN))) hb.out))
      · go_enter Try.func50, Try.ntmps50
        go_wp2_with fail
        refine (refSub_calls n m _ HN.out HM.out).mono ?_
        rintro e w3 ⟨rfl, hb⟩
        have z0 : w3.cell? ⟨w.heap.size + 1 + 1, 0, none⟩ = some (.int .i64 0) := (hb.cell (p := ⟨w.heap.size + 1 + 1, 0, none⟩) (by simp)).trans (by go_simp)
        have z1 : w3.cell? ⟨w.heap.size + 1 + 1, 1, none⟩ = some (.int .i64 0) := (hb.cell (p := ⟨w.heap.size + 1 + 1, 1, none⟩) (by simp)).trans (by go_simp)
        have z2 : w3.cell? ⟨w.heap.size + 1 + 1, 2, none⟩ = some (.slice none 0 0) := (hb.cell (p := ⟨w.heap.size + 1 + 1, 2, none⟩) (by simp)).trans (by go_simp)
        have zf : ∀ j, w3.frozen? ⟨w.heap.size + 1 + 1, j, none⟩ = false := fun j => (hb.frozen (p := ⟨w.heap.size + 1 + 1, j, none⟩) (by simp)).trans (by go_simp)
        replace hb := Aside0.mk hb
        go_wp2_with fail
        exact bodyPost_ret (v := .tuple #[.agg #[.int .i64 0, .int .i64 (T.fit (n - m)).1, .slice none 0 0], .int .i64 (T.fit (n - m)).2]) (by simp only [results, Try.results50]; go_simp) rfl (cell_res (by simp [T.dyC, T.arith]) (by (repeat (refine Below.setCell ?_ (by first | (simp; done) | (simp; omega)) _)); exact then_below (by (repeat (first | exact Below.refl _ _ | apply below_alloc | apply below_drew | apply pw_below_drewN))) hb.out))
      · go_enter Try.func50, Try.ntmps50
        go_wp2_with fail
        refine (refMul_calls n m _ HN.out HM.out).mono ?_
        rintro e w3 ⟨rfl, hb⟩
        have z0 : w3.cell? ⟨w.heap.size + 1 + 1, 0, none⟩ = some (.int .i64 0) := (hb.cell (p := ⟨w.heap.size + 1 + 1, 0, none⟩) (by simp)).trans (by go_simp)
        have z1 : w3.cell? ⟨w.heap.size + 1 + 1, 1, none⟩ = some (.int .i64 0) := (hb.cell (p := ⟨w.heap.size + 1 + 1, 1, none⟩) (by simp)).trans (by go_simp)
        have z2 : w3.cell? ⟨w.heap.size + 1 + 1, 2, none⟩ = some (.slice none 0 0) := (hb.cell (p := ⟨w.heap.size + 1 + 1, 2, none⟩) (by simp)).trans (by go_simp)
        have zf : ∀ j, w3.frozen? ⟨w.heap.size + 1 + 1, j, none⟩ = false := fun j => (hb.frozen (p := ⟨w.heap.size + 1 + 1, j, none⟩) (by simp)).trans (by go_simp)
        replace hb := Aside0.mk hb
        go_wp2_with fail
        exact bodyPost_ret (v := .tuple #[.agg #[.int .i64 0, .int .i64 (T.fit (n * m)).1, .slice none 0 0], .int .i64 (T.fit (n * m)).2]) (by simp only [results, Try.results50]; go_simp) rfl (cell_res (by simp [T.dyC, T.arith]) (by (repeat (refine Below.setCell ?_ (by first | (simp; done) | (simp; omega)) _)); exact then_below (by (repeat (first | exact Below.refl _ _ | apply below_alloc | apply below_drew | apply pw_below_drewN))) hb.out))
      · by_cases h : m < n
        all_goals go_enter Try.func50, Try.ntmps50
        all_goals go_wp2_with fail
        · exact bodyPost_ret (v := .tuple #[.agg #[.int .i64 0, .int .i64 m, .slice none 0 0], .int .i64 0]) (by simp only [results, Try.results50]; go_simp) rfl (cell_res (by simp [T.dyC, T.arith]; omega) (by (repeat (first | exact Below.refl _ _ | apply below_alloc | apply below_drew | apply pw_below_drewN))))
        · exact bodyPost_ret (v := .tuple #[.agg #[.int .i64 0, .int .i64 n, .slice none 0 0], .int .i64 0]) (by simp only [results, Try.results50]; go_simp) rfl (cell_res (by simp [T.dyC, T.arith]; omega) (by (repeat (first | exact Below.refl _ _ | apply below_alloc | apply below_drew | apply pw_below_drewN))))
      · by_cases h : n < m
        all_goals go_enter Try.func50, Try.ntmps50
        all_goals go_wp2_with fail
        · exact bodyPost_ret (v := .tuple #[.agg #[.int .i64 0, .int .i64 m, .slice none 0 0], .int .i64 0]) (by simp only [results, Try.results50]; go_simp) rfl (cell_res (by simp [T.dyC, T.arith]; omega) (by (repeat (first | exact Below.refl _ _ | apply below_alloc | apply below_drew | apply pw_below_drewN))))
        · exact bodyPost_ret (v := .tuple #[.agg #[.int .i64 0, .int .i64 n, .slice none 0 0], .int .i64 0]) (by simp only [results, Try.results50]; go_simp) rfl (cell_res (by simp [T.dyC, T.arith]; omega) (by (repeat (first | exact Below.refl _ _ | apply below_alloc | apply below_drew | apply pw_below_drewN))))
      · go_enter Try.func50, Try.ntmps50
        go_wp2_with fail
        refine (refRes_calls n m _ HN.out HM.out).mono ?_
        rintro e w3 ⟨rfl, rfl⟩
        go_wp2_with fail
        exact bodyPost_ret (v := .tuple #[.agg #[.int .i64 0, .int .i64 (T.resS n m), .slice none 0 0], .int .i64 0]) (by simp only [results, Try.results50]; go_simp) rfl (cell_res (by simp [T.dyC, T.arith]) (by (repeat (first | exact Below.refl _ _ | apply below_alloc | apply below_drew | apply pw_below_drewN))))
      · go_enter Try.func50, Try.ntmps50
        go_wp2_with fail
        refine (refTruth_calls _ _).mono ?_
        rintro e w3 ⟨rfl, hb⟩
        have z0 : w3.cell? ⟨w.heap.size + 1 + 1, 0, none⟩ = some (.int .i64 0) := (hb.cell (p := ⟨w.heap.size + 1 + 1, 0, none⟩) (by simp)).trans (by go_simp)
        have z1 : w3.cell? ⟨w.heap.size + 1 + 1, 1, none⟩ = some (.int .i64 0) := (hb.cell (p := ⟨w.heap.size + 1 + 1, 1, none⟩) (by simp)).trans (by go_simp)
        have z2 : w3.cell? ⟨w.heap.size + 1 + 1, 2, none⟩ = some (.slice none 0 0) := (hb.cell (p := ⟨w.heap.size + 1 + 1, 2, none⟩) (by simp)).trans (by go_simp)
        have zf : ∀ j, w3.frozen? ⟨w.heap.size + 1 + 1, j, none⟩ = false := fun j => (hb.frozen (p := ⟨w.heap.size + 1 + 1, j, none⟩) (by simp)).trans (by go_simp)
        replace hb := Aside0.mk hb
        go_wp2_with fail
        exact bodyPost_ret (v := .tuple #[.agg #[.int .i64 0, .int .i64 (T.truth (decide (n < m))), .slice none 0 0], .int .i64 0]) (by simp only [results, Try.results50]; go_simp) rfl (cell_res (by simp [T.dyC, T.arith]) (by (repeat (refine Below.setCell ?_ (by first | (simp; done) | (simp; omega)) _)); exact then_below (by (repeat (first | exact Below.refl _ _ | apply below_alloc | apply below_drew | apply pw_below_drewN))) hb.out))
      · go_enter Try.func50, Try.ntmps50
        go_wp2_with fail
        refine (refTruth_calls _ _).mono ?_
        rintro e w3 ⟨rfl, hb⟩
        have z0 : w3.cell? ⟨w.heap.size + 1 + 1, 0, none⟩ = some (.int .i64 0) := (hb.cell (p := ⟨w.heap.size + 1 + 1, 0, none⟩) (by simp)).trans (by go_simp)
        have z1 : w3.cell? ⟨w.heap.size + 1 + 1, 1, none⟩ = some (.int .i64 0) := (hb.cell (p := ⟨w.heap.size + 1 + 1, 1, none⟩) (by simp)).trans (by go_simp)
        have z2 : w3.cell? ⟨w.heap.size + 1 + 1, 2, none⟩ = some (.slice none 0 0) := (hb.cell (p := ⟨w.heap.size + 1 + 1, 2, none⟩) (by simp)).trans (by go_simp)
        have zf : ∀ j, w3.frozen? ⟨w.heap.size + 1 + 1, j, none⟩ = false := fun j => (hb.frozen (p := ⟨w.heap.size + 1 + 1, j, none⟩) (by simp)).trans (by go_simp)
        replace hb := Aside0.mk hb
        go_wp2_with fail
        exact bodyPost_ret (v := .tuple #[.agg #[.int .i64 0, .int .i64 (T.truth (decide (m < n))), .slice none 0 0], .int .i64 0]) (by simp only [results, Try.results50]; go_simp) rfl (cell_res (by simp [T.dyC, T.arith]) (by (repeat (refine Below.setCell ?_ (by first | (simp; done) | (simp; omega)) _)); exact then_below (by (repeat (first | exact Below.refl _ _ | apply below_alloc | apply below_drew | apply pw_below_drewN))) hb.out))
      · go_enter Try.func50, Try.ntmps50
        go_wp2_with fail
        refine (refTruth_calls _ _).mono ?_
        rintro e w3 ⟨rfl, hb⟩
        have z0 : w3.cell? ⟨w.heap.size + 1 + 1, 0, none⟩ = some (.int .i64 0) := (hb.cell (p := ⟨w.heap.size + 1 + 1, 0, none⟩) (by simp)).trans (by go_simp)
        have z1 : w3.cell? ⟨w.heap.size + 1 + 1, 1, none⟩ = some (.int .i64 0) := (hb.cell (p := ⟨w.heap.size + 1 + 1, 1, none⟩) (by simp)).trans (by go_simp)
        have z2 : w3.cell? ⟨w.heap.size + 1 + 1, 2, none⟩ = some (.slice none 0 0) := (hb.cell (p := ⟨w.heap.size + 1 + 1, 2, none⟩) (by simp)).trans (by go_simp)
        have zf : ∀ j, w3.frozen? ⟨w.heap.size + 1 + 1, j, none⟩ = false := fun j => (hb.frozen (p := ⟨w.heap.size + 1 + 1, j, none⟩) (by simp)).trans (by go_simp)
        replace hb := Aside0.mk hb
        go_wp2_with fail
        exact bodyPost_ret (v := .tuple #[.agg #[.int .i64 0, .int .i64 (T.truth (!decide (m < n))), .slice none 0 0], .int .i64 0]) (by simp only [results, Try.results50]; go_simp) rfl (cell_res (by have e : (!decide (m < n)) = decide (n ≤ m) := (by rw [Bool.eq_iff_iff]; simp); rw [e]; simp [T.dyC, T.arith]) (by (repeat (refine Below.setCell ?_ (by first | (simp; done) | (simp; omega)) _)); exact then_below (by (repeat (first | exact Below.refl _ _ | apply below_alloc | apply below_drew | apply pw_below_drewN))) hb.out))
      · go_enter Try.func50, Try.ntmps50
        go_wp2_with fail
        refine (refTruth_calls _ _).mono ?_
        rintro e w3 ⟨rfl, hb⟩
        have z0 : w3.cell? ⟨w.heap.size + 1 + 1, 0, none⟩ = some (.int .i64 0) := (hb.cell (p := ⟨w.heap.size + 1 + 1, 0, none⟩) (by simp)).trans (by go_simp)
        have z1 : w3.cell? ⟨w.heap.size + 1 + 1, 1, none⟩ = some (.int .i64 0) := (hb.cell (p := ⟨w.heap.size + 1 + 1, 1, none⟩) (by simp)).trans (by go_simp)
        have z2 : w3.cell? ⟨w.heap.size + 1 + 1, 2, none⟩ = some (.slice none 0 0) := (hb.cell (p := ⟨w.heap.size + 1 + 1, 2, none⟩) (by simp)).trans (by go_simp)
        have zf : ∀ j, w3.frozen? ⟨w.heap.size + 1 + 1, j, none⟩ = false := fun j => (hb.frozen (p := ⟨w.heap.size + 1 + 1, j, none⟩) (by simp)).trans (by go_simp)
        replace hb := Aside0.mk hb
        go_wp2_with fail
        exact bodyPost_ret (v := .tuple #[.agg #[.int .i64 0, .int .i64 (T.truth (!decide (n < m))), .slice none 0 0], .int .i64 0]) (by simp only [results, Try.results50]; go_simp) rfl (cell_res (by have e : (!decide (n < m)) = decide (m ≤ n) := (by rw [Bool.eq_iff_iff]; simp); rw [e]; simp [T.dyC, T.arith]) (by (repeat (refine Below.setCell ?_ (by first | (simp; done) | (simp; omega)) _)); exact then_below (by (repeat (first | exact Below.refl _ _ | apply below_alloc | apply below_drew | apply pw_below_drewN))) hb.out))
    · have hlb : (l == 0) = false := by rw [beq_eq_false_iff_ne]; exact hl
      have hlb' : (l != 0) = true := by rw [bne_iff_ne]; exact hl
      have HL := Aside0.mk hl
      have HQ := Aside0.mk hq
      clear hl hq
      go_enter Try.func50, Try.ntmps50
      go_wp2_with fail
      exact bodyPost_ret (v := .tuple #[.agg #[.int .i64 0, .int .i64 0, .slice none 0 0], .int .i64 5]) (by simp only [results, Try.results50]; go_simp) rfl (cell_res (by unfold T.dyC; rw [if_neg (by omega), if_neg HQ.out, if_pos (Or.inr HL.out)]) (by (repeat (first | exact Below.refl _ _ | apply below_alloc | apply below_drew | apply pw_below_drewN))))
  · have hkb : (k == 0) = false := by rw [beq_eq_false_iff_ne]; exact hk
    have hkb' : (k != 0) = true := by rw [bne_iff_ne]; exact hk
    have HK := Aside0.mk hk
    have HQ := Aside0.mk hq
    clear hk hq
    go_enter Try.func50, Try.ntmps50
    go_wp2_with fail
    exact bodyPost_ret (v := .tuple #[.agg #[.int .i64 0, .int .i64 0, .slice none 0 0], .int .i64 5]) (by simp only [results, Try.results50]; go_simp) rfl (cell_res (by unfold T.dyC; rw [if_neg (by omega), if_neg HQ.out, if_pos (Or.inl HK.out)]) (by (repeat (first | exact Below.refl _ _ | apply below_alloc | apply below_drew | apply pw_below_drewN))))
end Go.Proofs.Ytdfijdajkdkkfaa
