/-
  Walk: Check of the program's arrays.
-/
import Derived.Test.YtdfijdajkdkkfaaW2
set_option linter.unusedVariables false
set_option linter.unusedSimpArgs false
namespace Go.Proofs.Ytdfijdajkdkkfaa
open Go.RowKit Go.Proofs.YtdfijdajkdkkfaaW.PrintWords
open T
def ArrCheck (N : Nat) : Prop := ∀ (a : Arr) (l : Nat) (d : Int) (A0 A1 : Option Addr) (c0 c1 : Nat) (w : World), SizeOf.sizeOf a < N → d + l = 8 → 0 ≤ d → a.shape.length ≤ c0 → a.cells.length ≤ c1 → Cint w A0 a.shape → CC w A1 a.cells →
  Calls Try.prog 107 #[.agg #[.slice A0 a.shape.length c0, .slice A1 a.cells.length c1], .int .i64 d] w fun e w' => e = .returned (.int .i64 (chk l a)) ∧ Below w.heap.size w w'
theorem two_steps {W w : World} {O : Obj} (hb : Below (w.heap.size + 1) (w.alloc O) W) {o : Obj} : Below (w.heap.size + 1) (w.alloc O) (W.alloc o) := hb.alloc (by have := hb.size; simp at this; omega) o
theorem three_steps {W w w1 : World} {O o : Obj} (hb : Below (w.heap.size + 1) (w.alloc O) W) (h2 : Below (W.alloc o).heap.size (W.alloc o) w1) : Below (w.heap.size + 1) (w.alloc O) w1 := (two_steps hb).trans (h2.mono (by have := hb.size; simp at this ⊢; omega))
theorem from_box {W w : World} {O : Obj} (hb : Below (w.heap.size + 1) (w.alloc O) W) : Below w.heap.size w W := ((Below.refl _ _).alloc (Nat.le_refl _) O).trans (hb.mono (by omega))
set_option maxHeartbeats 8000000 in
set_option maxRecDepth 100000 in
theorem arrCheck_of {N : Nat} (h : ArrCheck N) : ArrCheck (N + 1) := by
  rintro ⟨s, cs⟩ l d A0 A1 c0 c1 w hN hd h0 l0 l1 g0 g1
  simp only [Arr.shape_mk, Arr.cells_mk] at *
  have HS := Aside0.mk g0
  have HC := Aside0.mk g1
  have ms := Kd.C_max g0
  have mc := Kd.C_max g1
  have HN := Aside0.mk (show SizeOf.sizeOf cs < N by simp only [Arr.mk.sizeOf_spec] at hN; omega)
  have hd8 : d ≤ 8 := by omega
  have HD := Aside0.mk hd
  clear g0 g1 hd hN
  obtain ⟨z, e, hze⟩ : ∃ z e, size s = (z, e) := ⟨_, _, rfl⟩
  have HZ := Aside0.mk hze
  clear hze
  by_cases he : e = 0
  · subst he
    by_cases hz : z = (cs.length : Int)
    · subst hz
      go_enter Try.func107, Try.ntmps107
      go_wp2_with (go_at_call 61; refine (arrSize_calls _ _ _ _ (Cint_alloc HS.out _) l0).mono ?_; rintro e w' ⟨rfl, rfl⟩; rw [HZ.out])
      go_loop [29] (fun i => ∃ k : Nat, k ≤ s.length ∧ i = .int .i64 k ∧ Aside0 ((s.take k).any (fun d => decide (16384 < d)) = false)) (fun i => s.length - (intOf i).toNat)
      case atStart => exact ⟨0, by omega, rfl, ⟨rfl⟩⟩
      case round =>
        obtain ⟨k, hk, rfl, hn⟩ := hrel
        by_cases hlt : k < s.length
        · obtain ⟨ad, ea, hx⟩ := at_int HS.out k hlt
          have hn1 := Aside0.mk (take_any (fun d => decide (16384 < d)) hlt)
          have hg := Aside0.mk (fun h => any_of (s := s) hlt h)
          subst ea
          replace hx := later hx
          generalize s.getD k 0 = x at hx hn1 hg
          go_wp2
          · go_ret
            exact ret_below (by simp [chk, HZ.out, hg.out (by assumption)]) ((Below.refl _ _).alloc (Nat.le_refl _) _)
          · exact ⟨⟨k + 1, by omega, by go_num, ⟨by rw [hn1.out, hn.out]; simp; omega⟩⟩, by simp [intOf]; omega⟩
        · obtain rfl : k = s.length := by omega
          rw [List.take_length] at hn
          have hfin := Aside0.mk (show chk l ⟨s, cs⟩ = chkL l cs by simp only [chk, HZ.out, hn.out]; simp)
          go_wp2
          go_loopw [39] (fun i W => ∃ k : Nat, k ≤ cs.length ∧ i = .int .i64 k ∧ Aside0 (chkL l cs = chkL l (cs.drop k)) ∧ Aside0 (Below (w.heap.size + 1) (w.alloc (.cells #[.slice A0 s.length c0, .slice A1 cs.length c1] 25)) W)) (fun i _ => cs.length - (intOf i).toNat)
          case atStart => exact ⟨0, by omega, rfl, ⟨rfl⟩, ⟨Below.refl _ _⟩⟩
          case round =>
            obtain ⟨k, hk, rfl, hgo, hbl⟩ := hrel
            by_cases hlt : k < cs.length
            · obtain ⟨ad, A2, m, ea, x0, x1, x2, l2, g2⟩ := at_cell (Kd.C_below HC.out (from_box hbl.out)) k hlt
              have hstep := Aside0.mk (chkL_at (l := l) hlt)
              have HN' := Aside0.mk (Nat.lt_trans (getD_size (d := zc) hlt) HN.out)
              subst ea
              generalize cs.getD k zc = x at x0 x1 x2 l2 g2 hstep HN'
              obtain ⟨q, n, b⟩ := x
              simp only [Cell.kind_mk, Cell.n_mk, Cell.box_mk] at x0 x1 x2 l2 g2
              match b with
              | [] =>
                clear g2
                go_wp2_with (go_at_call 142; refine (good_calls _ _).mono ?_; rintro e w' ⟨rfl, rfl⟩)
                all_goals first | (go_ret; refine ret_below ?_ (from_box (two_steps hbl.out)); rw [hfin.out, hgo.out, hstep.out]; go_light; simp_all [chkC]) | (refine ⟨⟨k + 1, by omega, by go_num, ⟨?_⟩, ⟨two_steps hbl.out⟩⟩, by simp [intOf]; omega⟩; rw [hgo.out, hstep.out, if_neg (by go_light; simp_all [chkC])])
              | [y] =>
                obtain ⟨ad2, B0, d0, B1, d1, e2, y0, y1, m0, m1, z0, z1⟩ := at_arr0 g2
                subst e2
                clear g2
                replace y0 := later y0
                replace y1 := later y1
                replace z0 := Aside0.mk z0
                replace z1 := Aside0.mk z1
                have hl0 : l = 0 ∨ 1 ≤ l := by omega
                rcases hl0 with rfl | hl0
                · have hd8' : 8 ≤ d := by have := HD.out; omega
                  go_wp2_with (go_at_call 142; refine (good_calls _ _).mono ?_; rintro e w' ⟨rfl, rfl⟩)
                  all_goals first | (go_ret; refine ret_below ?_ (from_box (two_steps hbl.out)); rw [hfin.out, hgo.out, hstep.out]; go_light; simp_all [chkC]) | (refine ⟨⟨k + 1, by omega, by go_num, ⟨?_⟩, ⟨two_steps hbl.out⟩⟩, by simp [intOf]; omega⟩; rw [hgo.out, hstep.out, if_neg (by go_light; simp_all [chkC])])
                · have hd7 : d < 8 := by have := HD.out; omega
                  have HNy := Aside0.mk (show SizeOf.sizeOf y < N by have := HN'.out; simp only [Cell.mk.sizeOf_spec, List.cons.sizeOf_spec] at this; omega)
                  by_cases hy : chk (l - 1) y = 0
                  · have hy' := Aside0.mk hy
                    clear hy
                    go_wp2_with (first | (go_at_call 142; refine (good_calls _ _).mono ?_; rintro e w' ⟨rfl, rfl⟩) | (go_at_call 107; refine (h y (l - 1) _ B0 B1 d0 d1 _ HNy.out ?h1 ?h2 m0 m1 (Cint_alloc z0.out _) (CC_alloc z1.out _)).mono ?_; (case h1 => have := HD.out; omega); (case h2 => omega); rintro e w1 ⟨rfl, hb⟩; rw [hy'.out]))
                    · refine ⟨⟨k + 1, by omega, by go_num, ⟨?_⟩, ⟨three_steps hbl.out hb⟩⟩, by simp [intOf]; omega⟩
                      have hy := hy'.out
                      rw [hgo.out, hstep.out, if_neg (by go_light; simp_all [chkC, chkB]; omega)]
                    all_goals first | (go_ret; refine ret_below ?_ (from_box (two_steps hbl.out)); rw [hfin.out, hgo.out, hstep.out]; go_light; simp_all [chkC]) | (refine ⟨⟨k + 1, by omega, by go_num, ⟨?_⟩, ⟨two_steps hbl.out⟩⟩, by simp [intOf]; omega⟩; rw [hgo.out, hstep.out, if_neg (by go_light; simp_all [chkC])])
                  · have hy1 : (chk (l - 1) y == 0) = false := by simpa using hy
                    have hy2 : (chk (l - 1) y != 0) = true := by simpa using hy
                    go_wp2_with (first | (go_at_call 142; refine (good_calls _ _).mono ?_; rintro e w' ⟨rfl, rfl⟩) | (go_at_call 107; refine (h y (l - 1) _ B0 B1 d0 d1 _ HNy.out ?h1 ?h2 m0 m1 (Cint_alloc z0.out _) (CC_alloc z1.out _)).mono ?_; (case h1 => have := HD.out; omega); (case h2 => omega); rintro e w1 ⟨rfl, hb⟩))
                    · go_ret
                      refine ret_below ?_ (from_box (three_steps hbl.out hb))
                      rw [hfin.out, hgo.out, hstep.out]
                      go_light
                      simp_all [chkC, chkB]
                      omega
                    all_goals first | (go_ret; refine ret_below ?_ (from_box (two_steps hbl.out)); rw [hfin.out, hgo.out, hstep.out]; go_light; simp_all [chkC]) | (refine ⟨⟨k + 1, by omega, by go_num, ⟨?_⟩, ⟨two_steps hbl.out⟩⟩, by simp [intOf]; omega⟩; rw [hgo.out, hstep.out, if_neg (by go_light; simp_all [chkC])])
              | y :: y' :: r =>
                clear g2
                go_wp2_with (go_at_call 142; refine (good_calls _ _).mono ?_; rintro e w' ⟨rfl, rfl⟩)
                all_goals first | (go_ret; refine ret_below ?_ (from_box (two_steps hbl.out)); rw [hfin.out, hgo.out, hstep.out]; go_light; simp_all [chkC]) | (refine ⟨⟨k + 1, by omega, by go_num, ⟨?_⟩, ⟨two_steps hbl.out⟩⟩, by simp [intOf]; omega⟩; rw [hgo.out, hstep.out, if_neg (by go_light; simp_all [chkC])])
            · go_wp2
              go_ret
              exact ret_below (by rw [hfin.out, hgo.out, chkL_end (by omega)]; rfl) (from_box hbl.out)
    · have hz' : (z == (cs.length : Int)) = false := by simpa using hz
      have hz'' : (z != (cs.length : Int)) = true := by simpa using hz
      go_enter Try.func107, Try.ntmps107
      go_wp2_with (go_at_call 61; refine (arrSize_calls _ _ _ _ (Cint_alloc HS.out _) l0).mono ?_; rintro e w' ⟨rfl, rfl⟩; rw [HZ.out])
      go_ret
      exact ret_below (by simp [chk, HZ.out, hz]) ((Below.refl _ _).alloc (Nat.le_refl _) _)
  · have he' : (e == 0) = false := by simpa using he
    have he'' : (e != 0) = true := by simpa using he
    go_enter Try.func107, Try.ntmps107
    go_wp2_with (go_at_call 61; refine (arrSize_calls _ _ _ _ (Cint_alloc HS.out _) l0).mono ?_; rintro e w' ⟨rfl, rfl⟩; rw [HZ.out])
    go_ret
    exact ret_below (by simp [chk, HZ.out, he]) ((Below.refl _ _).alloc (Nat.le_refl _) _)
theorem arrCheck_all : ∀ N, ArrCheck N
  | 0 => fun a l d A0 A1 c0 c1 w hN => absurd hN (Nat.not_lt_zero _)
  | N + 1 => arrCheck_of (arrCheck_all N)
/-- arr.Check. -/
theorem arrCheck_calls (a : Arr) (A0 A1 : Option Addr) (c0 c1 : Nat) (w : World) (l0 : a.shape.length ≤ c0) (l1 : a.cells.length ≤ c1) (g0 : Cint w A0 a.shape) (g1 : CC w A1 a.cells) :
    Calls Try.prog 63 #[.agg #[.slice A0 a.shape.length c0, .slice A1 a.cells.length c1]] w fun e w' => e = .returned (.int .i64 (chk 8 a)) ∧ Below w.heap.size w w' := by
  have HS := Aside0.mk g0
  have HC := Aside0.mk g1
  clear g0 g1
  go_enter Try.func63, Try.ntmps63
  go_wp2_with (go_at_call 107; refine (arrCheck_all _ a 8 0 A0 A1 c0 c1 _ (Nat.lt_succ_self _) (by omega) (by omega) l0 l1 (Cint_alloc HS.out _) (CC_alloc HC.out _)).mono ?_; rintro e w1 ⟨rfl, hb⟩)
  go_ret
  exact ret_below rfl (((Below.refl _ _).alloc (Nat.le_refl _) _).trans (hb.mono (by simp)))
end Go.Proofs.Ytdfijdajkdkkfaa
