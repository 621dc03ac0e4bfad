/-
  Walks of the leaves: order, ints, good.
-/
import Derived.Test.YtdfijdajkdkkfaaKinds
import Derived.Outline
set_option linter.unusedVariables false
set_option linter.unusedSimpArgs false
namespace Go.Proofs.Ytdfijdajkdkkfaa
open Go.RowKit Go.Proofs.YtdfijdajkdkkfaaW.PrintWords
open T
theorem ret_int {k : IntKind} {a b : Int} (h : a = b) : Ending.returned (.int k a) = .returned (.int k b) := by rw [h]
theorem ret_bool {a b : Bool} (h : a = b) : Ending.returned (.bool a) = .returned (.bool b) := by rw [h]

theorem order_calls (a b : Int) (w : World) : Calls Try.prog 109 #[.int .i64 a, .int .i64 b] w fun e w' => e = .returned (.int .i64 (ord a b)) ∧ w = w' := by
  go_enter Try.func109, Try.ntmps109
  go_wp2
  all_goals go_ret
  all_goals exact ⟨ret_int (by unfold ord; (repeat' split) <;> omega), rfl⟩
theorem order64_calls (a b : Int) (w : World) : Calls Try.prog 143 #[.int .i64 a, .int .i64 b] w fun e w' => e = .returned (.int .i64 (ord a b)) ∧ w = w' := by
  go_enter Try.func143, Try.ntmps143
  go_wp2
  all_goals go_ret
  all_goals exact ⟨ret_int (by unfold ord; (repeat' split) <;> omega), rfl⟩
theorem ints_calls (a b : Int) (w : World) : Calls Try.prog 104 #[.int .i64 a, .int .i64 b] w fun e w' => e = .returned (.int .i64 (ord a b)) ∧ w = w' := by
  go_enter Try.func104, Try.ntmps104
  go_wp2
  all_goals go_ret
  all_goals exact ⟨ret_int (by unfold ord; (repeat' split) <;> omega), rfl⟩
theorem good_calls (a : Int) (w : World) : Calls Try.prog 142 #[.int .i64 a] w fun e w' => e = .returned (.bool (good a)) ∧ w = w' := by
  go_enter Try.func142, Try.ntmps142
  go_wp2
  all_goals go_ret
  all_goals refine ⟨ret_bool ?_, rfl⟩
  all_goals (rw [Bool.eq_iff_iff]; simp [good]; omega)
theorem Good_calls (a : Int) (w : World) : Calls Try.prog 141 #[.int .i64 a] w fun e w' => e = .returned (.bool (good a)) ∧ w = w' := by
  go_enter Try.func141, Try.ntmps141
  go_wp2
  all_goals go_ret
  all_goals refine ⟨ret_bool ?_, rfl⟩
  all_goals (rw [Bool.eq_iff_iff]; simp [good]; omega)
theorem ret_two {k l : IntKind} {a b c d : Int} (h1 : a = c) (h2 : b = d) : Ending.returned (.tuple #[.int k a, .int l b]) = .returned (.tuple #[.int k c, .int l d]) := by rw [h1, h2]
theorem val_int {k : IntKind} {a b : Int} (h : a = b) : Value.int k a = .int k b := by rw [h]
theorem val_bool {a b : Bool} (h : a = b) : Value.bool a = .bool b := by rw [h]
theorem mul_le {a b : Int} (ha : 0 ≤ a) (ha' : a ≤ 16384) (hb : 0 ≤ b) (hb' : b ≤ 16384) : 0 ≤ a * b ∧ a * b ≤ 268435456 := by
  refine ⟨Int.mul_nonneg ha hb, ?_⟩
  have h := Int.mul_le_mul ha' hb' hb (by omega)
  omega
/-- ref03.Size. -/
theorem refSize_calls (A : Option Addr) (c : Nat) (s : List Int) (w : World) (hs : Cint w A s) (hc : s.length ≤ c) : Calls Try.prog 91 #[.slice A s.length c] w fun e w' => e = .returned (.tuple #[.int .i64 (size s).1, .int .i64 (size s).2]) ∧ w = w' := by
  by_cases h8 : (8 : Int) < (s.length : Int)
  · go_enter Try.func91, Try.ntmps91
    go_wp2
    go_ret2
    exact ⟨by rw [size_long (by omega)]; rfl, rfl⟩
  · have hs' := Aside0.mk hs
    clear hs
    go_enter Try.func91, Try.ntmps91
    go_wp2
    go_loop [4, 5] (fun z i => ∃ k : Nat, k ≤ s.length ∧ i = .int .i64 k ∧ z = .bool ((s.take k).any (fun d => decide (d = 0))) ∧ Aside0 ((s.take k).any (fun d => decide (d < 0)) = false)) (fun _ i => s.length - (intOf i).toNat)
    case atStart => exact ⟨0, by omega, rfl, rfl, ⟨rfl⟩⟩
    case round =>
      obtain ⟨k, hk, rfl, rfl, hn⟩ := hrel
      by_cases hlt : k < s.length
      · obtain ⟨ad, e, hx⟩ := at_int hs'.out k hlt
        have hn1 := Aside0.mk (take_any (fun d => decide (d < 0)) hlt)
        have hz1 := Aside0.mk (take_any (fun d => decide (d = 0)) hlt)
        have hg := Aside0.mk (fun h => size_neg (s := s) (by omega) hlt h)
        subst e
        generalize s.getD k 0 = x at hx hn1 hz1 hg
        go_wp2
        · go_ret2
          exact ⟨by rw [hg.out (by omega)]; rfl, rfl⟩
        all_goals exact ⟨⟨k + 1, by omega, by go_num, val_bool (by have hq := ‹(x == 0) = _›; rw [hz1.out]; simp at hq; simp [hq]), ⟨by rw [hn1.out, hn.out]; simp; omega⟩⟩, by simp [intOf]; omega⟩
      · obtain rfl : k = s.length := by omega
        rw [List.take_length] at *
        cases hz : s.any (fun d => decide (d = 0))
        · have hz' := Aside0.mk hz
          have hg := Aside0.mk (size_go (by omega) hn.out hz)
          have hpos := Aside0.mk (fun j hj => pos_of hn.out hz (k := j) hj)
          clear hz
          go_wp2
          go_loop [6, 7] (fun m i => ∃ (k : Nat) (n : Int), k ≤ s.length ∧ i = .int .i64 k ∧ m = .int .i64 n ∧ 1 ≤ n ∧ n ≤ 16384 ∧ Aside0 (size s = sizeGo (s.drop k) n)) (fun _ i => s.length - (intOf i).toNat)
          case atStart => exact ⟨0, 1, by omega, rfl, rfl, by omega, by omega, ⟨hg.out⟩⟩
          case round =>
            obtain ⟨k, n, hk, rfl, rfl, hn1, hn2, hgo⟩ := hrel
            by_cases hlt : k < s.length
            · obtain ⟨ad, e, hx⟩ := at_int hs'.out k hlt
              have hstep := Aside0.mk (sizeGo_at (m := n) hlt)
              have hp := hpos.out k hlt
              subst e
              generalize s.getD k 0 = x at hx hstep hp
              by_cases hx2 : 16384 < x
              · go_wp2
                go_ret2
                have : x ≤ n * x := by have := Int.mul_le_mul_of_nonneg_right hn1 (show (0 : Int) ≤ x by omega); omega
                exact ⟨by rw [hgo.out, hstep.out, if_pos (by omega)]; rfl, rfl⟩
              · have hb := mul_le (by omega) hn2 (by omega) (show x ≤ 16384 by omega)
                have hb2 : 1 ≤ n * x := by have := Int.mul_le_mul hn1 hp (by omega) (by omega); omega
                have hw := Aside0.mk (show wrap64 (n * x) = n * x by unfold wrap64; omega)
                have hb3 := Aside0.mk hb2
                clear hb hb2
                go_wp2
                · go_ret2
                  have hq := ‹16384 < wrap64 (n * x)›
                  rw [hw.out] at hq
                  exact ⟨by rw [hgo.out, hstep.out, if_pos hq]; rfl, rfl⟩
                · have hq := ‹wrap64 (n * x) ≤ 16384›
                  rw [hw.out] at hq ⊢
                  exact ⟨⟨k + 1, n * x, by omega, by go_num, rfl, hb3.out, hq, ⟨by rw [hgo.out, hstep.out, if_neg (by omega)]⟩⟩, by simp [intOf]; omega⟩
            · go_wp2
              go_ret2
              exact ⟨by rw [hgo.out, List.drop_of_length_le (by omega)]; rfl, rfl⟩
        · have hg := Aside0.mk (size_none (by omega) hn.out hz)
          clear hz
          go_wp2
          go_ret2
          exact ⟨by rw [hg.out]; rfl, rfl⟩
/-- arr.Size. -/
theorem arrSize_calls (A : Option Addr) (c : Nat) (s : List Int) (w : World) (hs : Cint w A s) (hc : s.length ≤ c) : Calls Try.prog 61 #[.slice A s.length c] w fun e w' => e = .returned (.tuple #[.int .i64 (size s).1, .int .i64 (size s).2]) ∧ w = w' := by
  by_cases h8 : (8 : Int) < (s.length : Int)
  · go_enter Try.func61, Try.ntmps61
    go_wp2
    go_ret2
    exact ⟨by rw [size_long (by omega)]; rfl, rfl⟩
  · have hs' := Aside0.mk hs
    clear hs
    go_enter Try.func61, Try.ntmps61
    go_wp2
    go_loop [5, 15] (fun z i => ∃ k : Nat, k ≤ s.length ∧ i = .int .i64 k ∧ ∃ b : Bool, z = .bool b ∧ Aside0 ((s.take k).any (fun d => decide (d = 0)) = b) ∧ Aside0 ((s.take k).any (fun d => decide (d < 0)) = false)) (fun _ i => s.length - (intOf i).toNat)
    case atStart => exact ⟨0, by omega, rfl, false, rfl, ⟨rfl⟩, ⟨rfl⟩⟩
    case round =>
      obtain ⟨k, hk, rfl, b, rfl, hb, hn⟩ := hrel
      by_cases hlt : k < s.length
      · obtain ⟨ad, e, hx⟩ := at_int hs'.out k hlt
        have hn1 := Aside0.mk (take_any (fun d => decide (d < 0)) hlt)
        have hz1 := Aside0.mk (take_any (fun d => decide (d = 0)) hlt)
        have hg := Aside0.mk (fun h => size_neg (s := s) (by omega) hlt h)
        subst e
        generalize s.getD k 0 = x at hx hn1 hz1 hg
        cases b
        · go_wp2
          · go_ret2
            exact ⟨by rw [hg.out (by omega)]; rfl, rfl⟩
          exact ⟨⟨k + 1, by omega, by go_num, x == 0, rfl, ⟨by rw [hz1.out, hb.out]; rfl⟩, ⟨by rw [hn1.out, hn.out]; simp; omega⟩⟩, by simp [intOf]; omega⟩
        · go_wp2
          · go_ret2
            exact ⟨by rw [hg.out (by omega)]; rfl, rfl⟩
          exact ⟨⟨k + 1, by omega, by go_num, true, rfl, ⟨by rw [hz1.out, hb.out]; rfl⟩, ⟨by rw [hn1.out, hn.out]; simp; omega⟩⟩, by simp [intOf]; omega⟩
      · obtain rfl : k = s.length := by omega
        rw [List.take_length] at hb hn
        have hz := hb.out
        cases b
        · have hg := Aside0.mk (size_go (by omega) hn.out hz)
          have hpos := Aside0.mk (fun j hj => pos_of hn.out hz (k := j) hj)
          clear hz
          go_wp2
          go_loop [4, 30] (fun m i => ∃ (k : Nat) (n : Int), k ≤ s.length ∧ i = .int .i64 k ∧ m = .int .i64 n ∧ 1 ≤ n ∧ n ≤ 16384 ∧ Aside0 (size s = sizeGo (s.drop k) n)) (fun _ i => s.length - (intOf i).toNat)
          case atStart => exact ⟨0, 1, by omega, rfl, rfl, by omega, by omega, ⟨hg.out⟩⟩
          case round =>
            obtain ⟨k, n, hk, rfl, rfl, hn1, hn2, hgo⟩ := hrel
            by_cases hlt : k < s.length
            · obtain ⟨ad, e, hx⟩ := at_int hs'.out k hlt
              have hstep := Aside0.mk (sizeGo_at (m := n) hlt)
              have hp := hpos.out k hlt
              subst e
              generalize s.getD k 0 = x at hx hstep hp
              go_wp2
              · go_ret2
                have hq := (Int.ediv_lt_iff_lt_mul (show (0 : Int) < n by omega)).1 ‹16384 / n < x›
                rw [Int.mul_comm] at hq
                exact ⟨by rw [hgo.out, hstep.out, if_pos hq]; rfl, rfl⟩
              · have hq : ¬ 16384 < n * x := fun h => (Int.not_lt.2 ‹x ≤ 16384 / n›) ((Int.ediv_lt_iff_lt_mul (show (0 : Int) < n by omega)).2 (by rw [Int.mul_comm]; exact h))
                have hb2 : 1 ≤ n * x := by have := Int.mul_le_mul hn1 hp (by omega) (by omega); omega
                have hw := show wrap64 (n * x) = n * x by unfold wrap64; omega
                rw [hw]
                exact ⟨⟨k + 1, n * x, by omega, by go_num, rfl, hb2, by omega, ⟨by rw [hgo.out, hstep.out, if_neg hq]⟩⟩, by simp [intOf]; omega⟩
            · go_wp2
              go_ret2
              exact ⟨by rw [hgo.out, List.drop_of_length_le (by omega)]; rfl, rfl⟩
        · have hg := Aside0.mk (size_none (by omega) hn.out hz)
          clear hz
          go_wp2
          go_ret2
          exact ⟨by rw [hg.out]; rfl, rfl⟩
end Go.Proofs.Ytdfijdajkdkkfaa
