/-
  Walks: functions of cells, one by one.
-/
import Derived.Test.YtdfijdajkdkkfaaN3
set_option linter.unusedVariables false
set_option linter.unusedSimpArgs false
namespace Go.Proofs.Ytdfijdajkdkkfaa
open Go.RowKit Go.Proofs.YtdfijdajkdkkfaaW.PrintWords Go.Proofs.YtdfijdajkdkkfaaW.PrintLast
open T
def T.truth (b : Bool) : Int := if b then 1 else 0
/-- What two whole numbers come to, and why not. -/
def T.arith (op a b : Int) : Int × Int :=
  if op = 21 then T.fit (a + b) else if op = 22 then T.fit (a - b) else if op = 23 then T.fit (a * b) else if op = 24 then (min a b, 0) else if op = 25 then (max a b, 0) else if op = 26 then (T.resS a b, 0)
  else if op = 29 then (T.truth (decide (a < b)), 0) else if op = 30 then (T.truth (decide (b < a)), 0) else if op = 31 then (T.truth (decide (a ≤ b)), 0) else (T.truth (decide (b ≤ a)), 0)
/-- What two cells come to: the number, the reason. -/
def T.dyC (op k n l m : Int) : Int × Int :=
  if op < 21 ∨ 32 < op then (0, 1)
  else if op = 27 ∨ op = 28 then (if k = 2 ∨ l = 2 then (0, 5) else (T.truth (decide (k = l ∧ n = m) == decide (op = 27)), 0))
  else if k ≠ 0 ∨ l ≠ 0 then (0, 5) else T.arith op n m
abbrev CellRes (p : Int × Int) (w : World) (e : Ending) (w' : World) : Prop := e = .returned (.tuple #[.agg #[.int .i64 0, .int .i64 p.1, .slice none 0 0], .int .i64 p.2]) ∧ Below w.heap.size w w'
theorem atTruth_calls (b : Bool) (w : World) : Calls Try.prog 96 #[.bool b] w fun e w' => e = .returned (.int .i64 (T.truth b)) ∧ w = w' := by
  cases b <;> (go_enter Try.func96, Try.ntmps96; go_wp2_with fail; go_ret; exact ⟨ret_int rfl, rfl⟩)
set_option maxHeartbeats 8000000 in
set_option maxRecDepth 100000 in
theorem refTruth_calls (b : Bool) (w : World) : Calls Try.prog 99 #[.bool b] w fun e w' => e = .returned (.agg #[.int .i64 0, .int .i64 (T.truth b), .slice none 0 0]) ∧ Below w.heap.size w w' := by
  cases b
  all_goals go_enter Try.func99, Try.ntmps99
  all_goals go_wp2_with fail
  · exact bodyPost_ret (v := .agg #[.int .i64 0, .int .i64 0, .slice none 0 0]) (by simp only [results, Try.results99]; go_simp) rfl ⟨rfl, by (repeat (first | exact Below.refl _ _ | apply below_alloc | apply below_drew | apply pw_below_drewN))⟩
  · exact bodyPost_ret (v := .agg #[.int .i64 0, .int .i64 1, .slice none 0 0]) (by simp only [results, Try.results99]; go_simp) rfl ⟨rfl, by (repeat (first | exact Below.refl _ _ | apply below_alloc | apply below_drew | apply pw_below_drewN))⟩
theorem atIs_calls (op : Int) (w : World) : Calls Try.prog 52 #[.int .i64 op] w fun e w' => e = .returned (.bool (decide (21 ≤ op) && decide (op ≤ 32))) ∧ w = w' := by
  go_enter Try.func52, Try.ntmps52
  go_wp2_with fail
  all_goals go_ret
  all_goals refine ⟨ret_bool ?_, rfl⟩
  all_goals (rw [Bool.eq_iff_iff]; simp; omega)
set_option maxHeartbeats 8000000 in
set_option maxRecDepth 100000 in
theorem reckon_calls (op a b : Int) (w : World) (h0 : 21 ≤ op) (h1 : op ≤ 26) (ha : in64 a) (hb : in64 b) : Calls Try.prog 98 #[.int .i64 op, .int .i64 a, .int .i64 b] w (TwoBelow (T.arith op a b) w) := by
  have HA := Aside0.mk ha
  have HB := Aside0.mk hb
  clear ha hb
  rcases (show op = 21 ∨ op = 22 ∨ op = 23 ∨ op = 24 ∨ op = 25 ∨ op = 26 by omega) with rfl | rfl | rfl | rfl | rfl | rfl
  all_goals clear h0 h1
  · go_enter Try.func98, Try.ntmps98
    go_wp2_with (go_at_call 135; refine (numAdd_calls a b _ HA.out HB.out).mono ?_; rintro e w' ⟨rfl, rfl⟩)
    go_ret2
    exact ⟨rfl, Below.refl _ _⟩
  · go_enter Try.func98, Try.ntmps98
    go_wp2_with (go_at_call 136; refine (numSub_calls a b _ HA.out HB.out).mono ?_; rintro e w' ⟨rfl, rfl⟩)
    go_ret2
    exact ⟨rfl, Below.refl _ _⟩
  · go_enter Try.func98, Try.ntmps98
    go_wp2_with fail
    refine (numMul_calls a b _ HA.out HB.out).mono ?_
    rintro e w' ⟨rfl, hb⟩
    go_wp2_with fail
    go_ret2
    exact ⟨rfl, hb⟩
  · go_enter Try.func98, Try.ntmps98
    go_wp2_with fail
    all_goals (go_ret2; refine ⟨ret_two ?_ rfl, Below.refl _ _⟩; show _ = min a b; omega)
  · go_enter Try.func98, Try.ntmps98
    go_wp2_with fail
    all_goals (go_ret2; refine ⟨ret_two ?_ rfl, Below.refl _ _⟩; show _ = max a b; omega)
  · go_enter Try.func98, Try.ntmps98
    go_wp2_with (go_at_call 138; refine (numRes_calls a b _ HA.out HB.out).mono ?_; rintro e w' ⟨rfl, rfl⟩)
    go_ret2
    exact ⟨rfl, Below.refl _ _⟩
def T.heldS (op a b : Int) : Int := if op = 27 ∨ op = 28 then T.truth (decide (a = b) == decide (op = 27)) else (T.arith op a b).1
set_option maxHeartbeats 8000000 in
set_option maxRecDepth 100000 in
theorem held_calls (op a b : Int) (w : World) (h0 : 27 ≤ op) (h1 : op ≤ 32) : Calls Try.prog 97 #[.int .i64 op, .int .i64 a, .int .i64 b] w fun e w' => e = .returned (.int .i64 (T.heldS op a b)) ∧ Below w.heap.size w w' := by
  rcases (show op = 27 ∨ op = 28 ∨ op = 29 ∨ op = 30 ∨ op = 31 ∨ op = 32 by omega) with rfl | rfl | rfl | rfl | rfl | rfl
  all_goals clear h0 h1
  · by_cases h : a = b
    · subst h
      go_enter Try.func97, Try.ntmps97
      go_wp2_with fail
      go_ret
      exact ⟨ret_int (by simp [T.heldS, T.truth]), by (repeat (first | exact Below.refl _ _ | apply below_alloc | apply below_drew | apply pw_below_drewN))⟩
    · have H := Aside0.mk h
      have h' : (a == b) = false := by simpa using h
      clear h
      go_enter Try.func97, Try.ntmps97
      go_wp2_with fail
      go_ret
      exact ⟨ret_int (by simp [T.heldS, T.truth, H.out]), by (repeat (first | exact Below.refl _ _ | apply below_alloc | apply below_drew | apply pw_below_drewN))⟩
  · by_cases h : a = b
    · subst h
      go_enter Try.func97, Try.ntmps97
      go_wp2_with fail
      go_ret
      exact ⟨ret_int (by simp [T.heldS, T.truth]), by (repeat (first | exact Below.refl _ _ | apply below_alloc | apply below_drew | apply pw_below_drewN))⟩
    · have H := Aside0.mk h
      have h' : (a == b) = false := by simpa using h
      clear h
      go_enter Try.func97, Try.ntmps97
      go_wp2_with fail
      go_ret
      exact ⟨ret_int (by simp [T.heldS, T.truth, H.out]), by (repeat (first | exact Below.refl _ _ | apply below_alloc | apply below_drew | apply pw_below_drewN))⟩
  all_goals go_enter Try.func97, Try.ntmps97
  all_goals go_wp2_with fail
  all_goals (refine (atTruth_calls _ _).mono ?_; rintro e w' ⟨rfl, rfl⟩; go_wp2_with fail; go_ret; exact ⟨ret_int (by simp [T.heldS, T.arith]), by (repeat (first | exact Below.refl _ _ | apply below_alloc | apply below_drew | apply pw_below_drewN))⟩)
theorem heldS_arith {op a b : Int} (h0 : 29 ≤ op) (h1 : op ≤ 32) : (T.heldS op a b, 0) = T.arith op a b := by
  unfold T.heldS
  rw [if_neg (by omega)]
  rcases (show op = 29 ∨ op = 30 ∨ op = 31 ∨ op = 32 by omega) with rfl | rfl | rfl | rfl <;> simp [T.arith]
theorem cell_res {p : Int × Int} {n e : Int} {w w' : World} (h : p = (n, e)) (hb : Below w.heap.size w w') : CellRes p w (.returned (.tuple #[.agg #[.int .i64 0, .int .i64 n, .slice none 0 0], .int .i64 e])) w' := by subst h; exact ⟨rfl, hb⟩
set_option maxHeartbeats 8000000 in
set_option maxRecDepth 100000 in
theorem atCell_calls (op k n l m : Int) (vb vc : Value) (w : World) (hn : in64 n) (hm : in64 m) : Calls Try.prog 49 #[.int .i64 op, .agg #[.int .i64 k, .int .i64 n, vb], .agg #[.int .i64 l, .int .i64 m, vc]] w (CellRes (T.dyC op k n l m) w) := by
  have HN := Aside0.mk hn
  have HM := Aside0.mk hm
  clear hn hm
  by_cases hop : op < 21 ∨ 32 < op
  · have e : (decide (21 ≤ op) && decide (op ≤ 32)) = false := by rw [Bool.eq_false_iff]; simp; omega
    have HO := Aside0.mk hop
    have h1 : (op == 27) = false := by rw [beq_eq_false_iff_ne]; omega
    have h2 : (op == 28) = false := by rw [beq_eq_false_iff_ne]; omega
    clear hop
    go_enter Try.func49, Try.ntmps49
    go_wp2_with (go_at_call 52; refine (atIs_calls _ _).mono ?_; rintro e w' ⟨rfl, rfl⟩; rw [e])
    exact bodyPost_ret (v := .tuple #[.agg #[.int .i64 0, .int .i64 0, .slice none 0 0], .int .i64 1]) (by simp only [results, Try.results49]; go_simp) rfl (cell_res (by unfold T.dyC; rw [if_pos HO.out]) (by (repeat (first | exact Below.refl _ _ | apply below_alloc | apply below_drew | apply pw_below_drewN))))
  have e : (decide (21 ≤ op) && decide (op ≤ 32)) = true := by simp; omega
  have HO := Aside0.mk hop
  clear hop
  by_cases hop : op = 27 ∨ op = 28
  · have HE := Aside0.mk hop
    by_cases hk : k = 2
    · subst hk
      rcases hop with rfl | rfl
      all_goals go_enter Try.func49, Try.ntmps49
      all_goals go_wp2_with (go_at_call 52; refine (atIs_calls _ _).mono ?_; rintro e w' ⟨rfl, rfl⟩; rw [e])
      all_goals exact bodyPost_ret (v := .tuple #[.agg #[.int .i64 0, .int .i64 0, .slice none 0 0], .int .i64 5]) (by simp only [results, Try.results49]; go_simp) rfl (cell_res (by simp [T.dyC]) (by (repeat (first | exact Below.refl _ _ | apply below_alloc | apply below_drew | apply pw_below_drewN))))
    have hkb : (k == 2) = false := by rw [beq_eq_false_iff_ne]; exact hk
    have HK := Aside0.mk hk
    clear hk
    by_cases hl : l = 2
    · subst hl
      rcases hop with rfl | rfl
      all_goals go_enter Try.func49, Try.ntmps49
      all_goals go_wp2_with (go_at_call 52; refine (atIs_calls _ _).mono ?_; rintro e w' ⟨rfl, rfl⟩; rw [e])
      all_goals exact bodyPost_ret (v := .tuple #[.agg #[.int .i64 0, .int .i64 0, .slice none 0 0], .int .i64 5]) (by simp only [results, Try.results49]; go_simp) rfl (cell_res (by simp [T.dyC]) (by (repeat (first | exact Below.refl _ _ | apply below_alloc | apply below_drew | apply pw_below_drewN))))
    have hlb : (l == 2) = false := by rw [beq_eq_false_iff_ne]; exact hl
    have HL := Aside0.mk hl
    clear hl
    by_cases hkl : k = l
    · subst hkl
      rcases hop with rfl | rfl
      all_goals go_enter Try.func49, Try.ntmps49
      all_goals go_wp2_with (go_at_call 52; refine (atIs_calls _ _).mono ?_; rintro e w' ⟨rfl, rfl⟩; rw [e])
      all_goals (refine (held_calls _ n m _ (by decide) (by decide)).mono ?_)
      all_goals (rintro e w3 ⟨rfl, hb⟩)
      all_goals (have z0 : w3.cell? ⟨w.heap.size + 1 + 1, 0, none⟩ = some (.int .i64 0) := (hb.cell (p := ⟨w.heap.size + 1 + 1, 0, none⟩) (by simp)).trans (by go_simp))
      all_goals (have z1 : w3.cell? ⟨w.heap.size + 1 + 1, 1, none⟩ = some (.int .i64 0) := (hb.cell (p := ⟨w.heap.size + 1 + 1, 1, none⟩) (by simp)).trans (by go_simp))
      all_goals (have z2 : w3.cell? ⟨w.heap.size + 1 + 1, 2, none⟩ = some (.slice none 0 0) := (hb.cell (p := ⟨w.heap.size + 1 + 1, 2, none⟩) (by simp)).trans (by go_simp))
      all_goals (have zf : ∀ j, w3.frozen? ⟨w.heap.size + 1 + 1, j, none⟩ = false := fun j => (hb.frozen (p := ⟨w.heap.size + 1 + 1, j, none⟩) (by simp)).trans (by go_simp))
      all_goals (replace hb := Aside0.mk hb)
      all_goals go_wp2_with fail
      · exact bodyPost_ret (v := .tuple #[.agg #[.int .i64 0, .int .i64 (T.heldS 27 n m), .slice none 0 0], .int .i64 0]) (by simp only [results, Try.results49]; go_simp) rfl (cell_res (by have := HK.out; simp [T.dyC, T.heldS, this]) (by (repeat (refine Below.setCell ?_ (by first | (simp; done) | (simp; omega)) _)); exact then_below (by (repeat (first | exact Below.refl _ _ | apply below_alloc | apply below_drew | apply pw_below_drewN))) hb.out))
      · exact bodyPost_ret (v := .tuple #[.agg #[.int .i64 0, .int .i64 (T.heldS 28 n m), .slice none 0 0], .int .i64 0]) (by simp only [results, Try.results49]; go_simp) rfl (cell_res (by have := HK.out; simp [T.dyC, T.heldS, this]) (by (repeat (refine Below.setCell ?_ (by first | (simp; done) | (simp; omega)) _)); exact then_below (by (repeat (first | exact Below.refl _ _ | apply below_alloc | apply below_drew | apply pw_below_drewN))) hb.out))
    have hklb : (k == l) = false := by rw [beq_eq_false_iff_ne]; exact hkl
    have hklb' : (k != l) = true := by rw [bne_iff_ne]; exact hkl
    have HKL := Aside0.mk hkl
    clear hkl
    rcases hop with rfl | rfl
    all_goals go_enter Try.func49, Try.ntmps49
    all_goals go_wp2_with (first | (go_at_call 52; refine (atIs_calls _ _).mono ?_; rintro e w' ⟨rfl, rfl⟩; rw [e]) | (go_at_call 96; refine (atTruth_calls _ _).mono ?_; rintro e w' ⟨rfl, rfl⟩))
    · exact bodyPost_ret (v := .tuple #[.agg #[.int .i64 0, .int .i64 (T.truth false), .slice none 0 0], .int .i64 0]) (by simp only [results, Try.results49]; go_simp) rfl (cell_res (by simp [T.dyC, HK.out, HL.out, HKL.out]) (by (repeat (first | exact Below.refl _ _ | apply below_alloc | apply below_drew | apply pw_below_drewN))))
    · exact bodyPost_ret (v := .tuple #[.agg #[.int .i64 0, .int .i64 (T.truth true), .slice none 0 0], .int .i64 0]) (by simp only [results, Try.results49]; go_simp) rfl (cell_res (by simp [T.dyC, HK.out, HL.out, HKL.out]) (by (repeat (first | exact Below.refl _ _ | apply below_alloc | apply below_drew | apply pw_below_drewN))))
  have h1 : (op == 27) = false := by rw [beq_eq_false_iff_ne]; omega
  have h2 : (op == 28) = false := by rw [beq_eq_false_iff_ne]; omega
  have HE := Aside0.mk hop
  clear hop
  by_cases hk : k = 0
  · subst hk
    by_cases hl : l = 0
    · subst hl
      by_cases h26 : op ≤ 26
      · have h21 : 21 ≤ op := by have := HO.out; omega
        go_enter Try.func49, Try.ntmps49
        go_wp2_with (go_at_call 52; refine (atIs_calls _ _).mono ?_; rintro e w' ⟨rfl, rfl⟩; rw [e])
        refine (reckon_calls op n m _ h21 h26 HN.out HM.out).mono ?_
        rintro e w3 ⟨rfl, hb⟩
        have z0 : w3.cell? ⟨w.heap.size + 1 + 1, 0, none⟩ = some (.int .i64 0) := (hb.cell (p := ⟨w.heap.size + 1 + 1, 0, none⟩) (by simp)).trans (by go_simp)
        have z1 : w3.cell? ⟨w.heap.size + 1 + 1, 1, none⟩ = some (.int .i64 0) := (hb.cell (p := ⟨w.heap.size + 1 + 1, 1, none⟩) (by simp)).trans (by go_simp)
        have z2 : w3.cell? ⟨w.heap.size + 1 + 1, 2, none⟩ = some (.slice none 0 0) := (hb.cell (p := ⟨w.heap.size + 1 + 1, 2, none⟩) (by simp)).trans (by go_simp)
        have zf : ∀ j, w3.frozen? ⟨w.heap.size + 1 + 1, j, none⟩ = false := fun j => (hb.frozen (p := ⟨w.heap.size + 1 + 1, j, none⟩) (by simp)).trans (by go_simp)
        replace hb := Aside0.mk hb
        go_wp2_with fail
        exact bodyPost_ret (v := .tuple #[.agg #[.int .i64 0, .int .i64 (T.arith op n m).1, .slice none 0 0], .int .i64 (T.arith op n m).2]) (by simp only [results, Try.results49]; go_simp) rfl (cell_res (by unfold T.dyC; rw [if_neg HO.out, if_neg HE.out, if_neg (by simp)]) (by (repeat (refine Below.setCell ?_ (by first | (simp; done) | (simp; omega)) _)); exact then_below (by (repeat (first | exact Below.refl _ _ | apply below_alloc | apply below_drew | apply pw_below_drewN))) hb.out))
      · have h29 : 29 ≤ op := by have := HE.out; omega
        have h32 : op ≤ 32 := by have := HO.out; omega
        go_enter Try.func49, Try.ntmps49
        go_wp2_with (go_at_call 52; refine (atIs_calls _ _).mono ?_; rintro e w' ⟨rfl, rfl⟩; rw [e])
        refine (held_calls op n m _ (by omega) h32).mono ?_
        rintro e w3 ⟨rfl, hb⟩
        have z0 : w3.cell? ⟨w.heap.size + 1 + 1, 0, none⟩ = some (.int .i64 0) := (hb.cell (p := ⟨w.heap.size + 1 + 1, 0, none⟩) (by simp)).trans (by go_simp)
        have z1 : w3.cell? ⟨w.heap.size + 1 + 1, 1, none⟩ = some (.int .i64 0) := (hb.cell (p := ⟨w.heap.size + 1 + 1, 1, none⟩) (by simp)).trans (by go_simp)
        have z2 : w3.cell? ⟨w.heap.size + 1 + 1, 2, none⟩ = some (.slice none 0 0) := (hb.cell (p := ⟨w.heap.size + 1 + 1, 2, none⟩) (by simp)).trans (by go_simp)
        have zf : ∀ j, w3.frozen? ⟨w.heap.size + 1 + 1, j, none⟩ = false := fun j => (hb.frozen (p := ⟨w.heap.size + 1 + 1, j, none⟩) (by simp)).trans (by go_simp)
        replace hb := Aside0.mk hb
        go_wp2_with fail
        exact bodyPost_ret (v := .tuple #[.agg #[.int .i64 0, .int .i64 (T.heldS op n m), .slice none 0 0], .int .i64 0]) (by simp only [results, Try.results49]; go_simp) rfl (cell_res (by unfold T.dyC; rw [if_neg HO.out, if_neg HE.out, if_neg (by simp)]; exact (heldS_arith h29 h32).symm) (by (repeat (refine Below.setCell ?_ (by first | (simp; done) | (simp; omega)) _)); exact then_below (by (repeat (first | exact Below.refl _ _ | apply below_alloc | apply below_drew | apply pw_below_drewN))) hb.out))
    · have hlb : (l == 0) = false := by rw [beq_eq_false_iff_ne]; exact hl
      have hlb' : (l != 0) = true := by rw [bne_iff_ne]; exact hl
      have HL := Aside0.mk hl
      clear hl
      go_enter Try.func49, Try.ntmps49
      go_wp2_with (go_at_call 52; refine (atIs_calls _ _).mono ?_; rintro e w' ⟨rfl, rfl⟩; rw [e])
      exact bodyPost_ret (v := .tuple #[.agg #[.int .i64 0, .int .i64 0, .slice none 0 0], .int .i64 5]) (by simp only [results, Try.results49]; go_simp) rfl (cell_res (by unfold T.dyC; rw [if_neg HO.out, if_neg HE.out, if_pos (Or.inr HL.out)]) (by (repeat (first | exact Below.refl _ _ | apply below_alloc | apply below_drew | apply pw_below_drewN))))
  · have hkb : (k == 0) = false := by rw [beq_eq_false_iff_ne]; exact hk
    have hkb' : (k != 0) = true := by rw [bne_iff_ne]; exact hk
    have HK := Aside0.mk hk
    clear hk
    go_enter Try.func49, Try.ntmps49
    go_wp2_with (go_at_call 52; refine (atIs_calls _ _).mono ?_; rintro e w' ⟨rfl, rfl⟩; rw [e])
    exact bodyPost_ret (v := .tuple #[.agg #[.int .i64 0, .int .i64 0, .slice none 0 0], .int .i64 5]) (by simp only [results, Try.results49]; go_simp) rfl (cell_res (by unfold T.dyC; rw [if_neg HO.out, if_neg HE.out, if_pos (Or.inl HK.out)]) (by (repeat (first | exact Below.refl _ _ | apply below_alloc | apply below_drew | apply pw_below_drewN))))
end Go.Proofs.Ytdfijdajkdkkfaa
