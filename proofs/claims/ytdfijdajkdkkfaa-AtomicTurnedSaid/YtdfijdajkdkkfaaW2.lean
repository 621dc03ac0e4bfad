/-
  Walks: Check of the reference, Check of the program.
-/
import Derived.Test.YtdfijdajkdkkfaaW1
import Derived.Deep.Light
set_option linter.unusedVariables false
set_option linter.unusedSimpArgs false
namespace Go.Proofs.Ytdfijdajkdkkfaa
open Go.RowKit Go.Proofs.YtdfijdajkdkkfaaW.PrintWords
open T
theorem bcell {B : Nat} {W w1 : World} (hb : Below B W w1) : (∀ b o, b < B → w1.cell? ⟨b, o, none⟩ = W.cell? ⟨b, o, none⟩) ∧ (∀ b o, b < B → w1.frozen? ⟨b, o, none⟩ = W.frozen? ⟨b, o, none⟩) :=
  ⟨fun b o h => hb.cell (p := ⟨b, o, none⟩) h, fun b o h => hb.frozen (p := ⟨b, o, none⟩) h⟩

def RefCheck (N : Nat) : Prop := ∀ (a : Arr) (l : Nat) (d : Int) (A0 A1 : Option Addr) (c0 c1 : Nat) (w : World), SizeOf.sizeOf a < N → d + l = 8 → 0 ≤ d → a.shape.length ≤ c0 → a.cells.length ≤ c1 → Cint w A0 a.shape → CC w A1 a.cells →
  Calls Try.prog 59 #[.agg #[.slice A0 a.shape.length c0, .slice A1 a.cells.length c1], .int .i64 d] w fun e w' => e = .returned (.int .i64 (chk l a)) ∧ Below w.heap.size w w'
def RefCell (N : Nat) : Prop := ∀ (c : T.Cell) (l : Nat) (d : Int) (A : Option Addr) (m : Nat) (w : World), SizeOf.sizeOf c < N → d + l = 8 → 0 ≤ d → c.box.length ≤ m → CA w A c.box →
  Calls Try.prog 106 #[.agg #[.int .i64 c.kind, .int .i64 c.n, .slice A c.box.length m], .int .i64 d] w fun e w' => e = .returned (.int .i64 (chkC l c)) ∧ Below w.heap.size w w'

theorem CA_alloc {w : World} {A : Option Addr} {xs : List Arr} (h : CA w A xs) (o : Obj) : CA (w.alloc o) A xs := Kd.C_alloc h o
theorem CC_alloc {w : World} {A : Option Addr} {xs : List T.Cell} (h : CC w A xs) (o : Obj) : CC (w.alloc o) A xs := Kd.C_alloc h o
theorem Cint_alloc {w : World} {A : Option Addr} {xs : List Int} (h : Cint w A xs) (o : Obj) : Cint (w.alloc o) A xs := Kd.C_alloc h o
theorem ret_below {v v' : Value} {w w' : World} (h : v = v') (hb : Below w.heap.size w w') : Ending.returned v = Ending.returned v' ∧ Below w.heap.size w w' := ⟨by rw [h], hb⟩
set_option maxRecDepth 100000 in
theorem refCell_of {N : Nat} (h : RefCheck N) : RefCell (N + 1) := by
  rintro ⟨k, n, b⟩ l d A m w hN hd h0 hm hA
  simp only [Cell.kind_mk, Cell.n_mk, Cell.box_mk] at *
  have HA := Aside0.mk hA
  have HN := Aside0.mk hN
  have HD := Aside0.mk hd
  clear hA hN
  match b with
  | [] =>
    go_enter Try.func106, Try.ntmps106
    go_wp2_with (go_at_call 141; refine (Good_calls _ _).mono ?_; rintro e w' ⟨rfl, rfl⟩)
    all_goals go_ret
    all_goals refine ret_below ?_ ((Below.refl _ _).alloc (Nat.le_refl _) _)
    all_goals (go_light; simp_all [chkC])
  | [x] =>
    obtain ⟨ad, A0, c0, A1, c1, e, x0, x1, l0, l1, g0, g1⟩ := at_arr0 HA.out
    subst e
    clear HA
    replace x0 := later x0
    replace x1 := later x1
    replace g0 := Aside0.mk g0
    replace g1 := Aside0.mk g1
    have hl0 : l = 0 ∨ 1 ≤ l := by omega
    rcases hl0 with rfl | hl0
    · have hd8 : (d == 8) = true := by simp; omega
      go_enter Try.func106, Try.ntmps106
      go_wp2_with (go_at_call 141; refine (Good_calls _ _).mono ?_; rintro e w' ⟨rfl, rfl⟩)
      all_goals go_ret
      all_goals refine ret_below ?_ ((Below.refl _ _).alloc (Nat.le_refl _) _)
      all_goals (go_light; simp_all [chkC])
    · have hd8 : (d == 8) = false := by simp; omega
      have hd0 : d ≤ 7 := by omega
      have HN' := Aside0.mk (show SizeOf.sizeOf x < N by have := HN.out; simp only [Cell.mk.sizeOf_spec, List.cons.sizeOf_spec] at this; omega)
      go_enter Try.func106, Try.ntmps106
      go_wp2_with (first | (go_at_call 141; refine (Good_calls _ _).mono ?_; rintro e w' ⟨rfl, rfl⟩) | (go_at_call 59; refine (h x (l - 1) _ A0 A1 c0 c1 _ HN'.out ?h1 ?h2 l0 l1 (Cint_alloc g0.out _) (CC_alloc g1.out _)).mono ?_; (case h1 => omega); (case h2 => omega); rintro e w1 ⟨rfl, hb⟩))
      all_goals go_ret
      · refine ret_below ?_ (((Below.refl _ _).alloc (Nat.le_refl _) _).trans (hb.mono (by simp)))
        go_light
        simp_all [chkC, chkB]
        omega
      all_goals refine ret_below ?_ ((Below.refl _ _).alloc (Nat.le_refl _) _)
      all_goals (go_light; simp_all [chkC])
  | x :: y :: r =>
    go_enter Try.func106, Try.ntmps106
    go_wp2_with (go_at_call 141; refine (Good_calls _ _).mono ?_; rintro e w' ⟨rfl, rfl⟩)
    all_goals go_ret
    all_goals refine ret_below ?_ ((Below.refl _ _).alloc (Nat.le_refl _) _)
    all_goals (go_light; simp_all [chkC])

set_option maxRecDepth 100000 in
theorem refCheck_of {N : Nat} (h : RefCell N) : RefCheck (N + 1) := by
  rintro ⟨s, cs⟩ l d A0 A1 c0 c1 w hN hd h0 l0 l1 g0 g1
  simp only [Arr.shape_mk, Arr.cells_mk] at *
  have HS := Aside0.mk g0
  have HC := Aside0.mk g1
  have ms := Kd.C_max g0
  have mc := Kd.C_max g1
  have HN := Aside0.mk (show SizeOf.sizeOf cs < N by simp only [Arr.mk.sizeOf_spec] at hN; omega)
  have HD := Aside0.mk hd
  clear g0 g1 hd hN
  obtain ⟨z, e, hze⟩ : ∃ z e, size s = (z, e) := ⟨_, _, rfl⟩
  have HZ := Aside0.mk hze
  clear hze
  have hbox : ∀ (W : World) (o : Obj), Below (w.heap.size + 1) (w.alloc o) W → Below w.heap.size w W := fun W o hb => ((Below.refl _ _).alloc (Nat.le_refl _) o).trans (hb.mono (by omega))
  have HB := Aside0.mk hbox
  clear hbox
  by_cases he : e = 0
  · subst he
    by_cases hz : z = (cs.length : Int)
    · subst hz
      go_enter Try.func59, Try.ntmps59
      go_wp2_with (go_at_call 91; refine (refSize_calls _ _ _ _ (Cint_alloc HS.out _) l0).mono ?_; rintro e w' ⟨rfl, rfl⟩; rw [HZ.out])
      go_loop [7] (fun i => ∃ k : Nat, k ≤ s.length ∧ i = .int .i64 k ∧ Aside0 ((s.take k).any (fun d => decide (16384 < d)) = false)) (fun i => s.length - (intOf i).toNat)
      case atStart => exact ⟨0, by omega, rfl, ⟨rfl⟩⟩
      case round =>
        obtain ⟨k, hk, rfl, hn⟩ := hrel
        by_cases hlt : k < s.length
        · obtain ⟨ad, ea, hx⟩ := at_int HS.out k hlt
          have hn1 := Aside0.mk (take_any (fun d => decide (16384 < d)) hlt)
          have hg := Aside0.mk (fun h => any_of (s := s) hlt h)
          subst ea
          replace hx := later hx
          generalize s.getD k 0 = x at hx hn1 hg
          go_wp2
          · go_ret
            exact ret_below (by simp [chk, HZ.out, hg.out (by assumption)]) ((Below.refl _ _).alloc (Nat.le_refl _) _)
          · exact ⟨⟨k + 1, by omega, by go_num, ⟨by rw [hn1.out, hn.out]; simp; omega⟩⟩, by simp [intOf]; omega⟩
        · obtain rfl : k = s.length := by omega
          rw [List.take_length] at hn
          have hfin := Aside0.mk (show chk l ⟨s, cs⟩ = chkL l cs by simp only [chk, HZ.out, hn.out]; simp)
          go_wp2
          go_loopw [8] (fun i W => ∃ k : Nat, k ≤ cs.length ∧ i = .int .i64 k ∧ Aside0 (chkL l cs = chkL l (cs.drop k)) ∧ Aside0 (Below (w.heap.size + 1) (w.alloc (.cells #[.slice A0 s.length c0, .slice A1 cs.length c1] 25)) W)) (fun i _ => cs.length - (intOf i).toNat)
          case atStart => exact ⟨0, by omega, rfl, ⟨rfl⟩, ⟨Below.refl _ _⟩⟩
          case round =>
            obtain ⟨k, hk, rfl, hgo, hbl⟩ := hrel
            have hb1 : wr.cell? ⟨w.heap.size, 1, none⟩ = some (.slice A1 cs.length c1) := (hbl.out.cell (p := ⟨w.heap.size, 1, none⟩) (by simp)).trans (by simp)
            by_cases hlt : k < cs.length
            · obtain ⟨ad, A2, m, ea, x0, x1, x2, l2, g2⟩ := at_cell (Kd.C_below HC.out (HB.out _ _ hbl.out)) k hlt
              have hstep := Aside0.mk (chkL_at (l := l) hlt)
              have HN' := Aside0.mk (Nat.lt_trans (getD_size (d := zc) hlt) HN.out)
              subst ea
              generalize cs.getD k zc = x at x0 x1 x2 l2 g2 hstep HN'
              replace g2 := Aside0.mk g2
              by_cases hx : chkC l x = 0
              · have hx' := Aside0.mk hx
                clear hx
                go_wp2_with (go_at_call 106; refine (h x l d A2 m _ HN'.out HD.out h0 l2 g2.out).mono ?_; rintro e w1 ⟨rfl, hb⟩; rw [hx'.out])
                exact ⟨⟨k + 1, by omega, by go_num, ⟨by rw [hgo.out, hstep.out, if_neg (by simp [hx'.out])]⟩, ⟨hbl.out.trans (hb.mono (by have := hbl.out.size; simp at this; omega))⟩⟩, by simp [intOf]; omega⟩
              · have hx' : (chkC l x == 0) = false := by simpa using hx
                have hx'' : (chkC l x != 0) = true := by simpa using hx
                go_wp2_with (go_at_call 106; refine (h x l d A2 m _ HN'.out HD.out h0 l2 g2.out).mono ?_; rintro e w1 ⟨rfl, hb⟩)
                go_ret
                exact ret_below (by rw [hfin.out, hgo.out, hstep.out, if_pos hx]; rfl) ((HB.out _ _ hbl.out).trans (hb.mono (by have := hbl.out.size; simp at this; omega)))
            · go_wp2
              go_ret
              exact ret_below (by rw [hfin.out, hgo.out, chkL_end (by omega)]; rfl) (HB.out _ _ hbl.out)
    · have hz' : (z == (cs.length : Int)) = false := by simpa using hz
      have hz'' : (z != (cs.length : Int)) = true := by simpa using hz
      go_enter Try.func59, Try.ntmps59
      go_wp2_with (go_at_call 91; refine (refSize_calls _ _ _ _ (Cint_alloc HS.out _) l0).mono ?_; rintro e w' ⟨rfl, rfl⟩; rw [HZ.out])
      go_ret
      exact ret_below (by simp [chk, HZ.out, hz]) ((Below.refl _ _).alloc (Nat.le_refl _) _)
  · have he' : (e == 0) = false := by simpa using he
    have he'' : (e != 0) = true := by simpa using he
    go_enter Try.func59, Try.ntmps59
    go_wp2_with (go_at_call 91; refine (refSize_calls _ _ _ _ (Cint_alloc HS.out _) l0).mono ?_; rintro e w' ⟨rfl, rfl⟩; rw [HZ.out])
    go_ret
    exact ret_below (by simp [chk, HZ.out, he]) ((Below.refl _ _).alloc (Nat.le_refl _) _)
theorem refBoth : ∀ N, RefCheck N ∧ RefCell N
  | 0 => ⟨fun a l d A0 A1 c0 c1 w hN => absurd hN (Nat.not_lt_zero _), fun c l d A m w hN => absurd hN (Nat.not_lt_zero _)⟩
  | N + 1 => ⟨refCheck_of (refBoth N).2, refCell_of (refBoth N).1⟩
/-- ref03.Check. -/
theorem refCheck_calls (a : Arr) (A0 A1 : Option Addr) (c0 c1 : Nat) (w : World) (l0 : a.shape.length ≤ c0) (l1 : a.cells.length ≤ c1) (g0 : Cint w A0 a.shape) (g1 : CC w A1 a.cells) :
    Calls Try.prog 19 #[.agg #[.slice A0 a.shape.length c0, .slice A1 a.cells.length c1]] w fun e w' => e = .returned (.int .i64 (chk 8 a)) ∧ Below w.heap.size w w' := by
  have HS := Aside0.mk g0
  have HC := Aside0.mk g1
  clear g0 g1
  go_enter Try.func19, Try.ntmps19
  go_wp2_with (go_at_call 59; refine ((refBoth _).1 a 8 0 A0 A1 c0 c1 _ (Nat.lt_succ_self _) (by omega) (by omega) l0 l1 (Cint_alloc HS.out _) (CC_alloc HC.out _)).mono ?_; rintro e w1 ⟨rfl, hb⟩)
  go_ret
  exact ret_below rfl (((Below.refl _ _).alloc (Nat.le_refl _) _).trans (hb.mono (by simp)))
end Go.Proofs.Ytdfijdajkdkkfaa
