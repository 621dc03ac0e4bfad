/-
  Walks: whole numbers of 64 bits, the reference's.
-/
import Derived.Test.YtdfijdajkdkkfaaN1
set_option linter.unusedVariables false
set_option linter.unusedSimpArgs false
namespace Go.Proofs.Ytdfijdajkdkkfaa
open Go.RowKit Go.Proofs.YtdfijdajkdkkfaaW.PrintWords Go.Proofs.YtdfijdajkdkkfaaW.PrintLast
open T
theorem ret_agg2 {a b c d : Int} (h1 : a = c) (h2 : b = d) : Ending.returned (.agg #[.int .i64 a, .int .i64 b]) = .returned (.agg #[.int .i64 c, .int .i64 d]) := by rw [h1, h2]
theorem tdiv_at (a : Int) : a.tdiv 4294967296 = if 0 ≤ a then a / 4294967296 else -((-a) / 4294967296) := by
  split
  · rename_i h; exact Int.tdiv_eq_ediv_of_nonneg h
  · have : a.tdiv 4294967296 = -((-a).tdiv 4294967296) := by rw [Int.neg_tdiv]; omega
    rw [this, Int.tdiv_eq_ediv_of_nonneg (by omega)]
theorem tmod_at (a : Int) : a.tmod 4294967296 = if 0 ≤ a then a % 4294967296 else -((-a) % 4294967296) := by
  split
  · rename_i h; exact Int.tmod_eq_emod_of_nonneg h
  · have : a.tmod 4294967296 = -((-a).tmod 4294967296) := by rw [Int.neg_tmod]; omega
    rw [this, Int.tmod_eq_emod_of_nonneg (by omega)]
theorem wide_hi {a : Int} (h : in64 a) : wrap64 ((wrap64 (a - a % 4294967296)).tdiv 4294967296) = a / 4294967296 := by
  obtain ⟨h0, h1⟩ := h
  have e : wrap64 (a - a % 4294967296) = a - a % 4294967296 := by unfold wrap64; omega
  rw [e, tdiv_at]
  unfold wrap64
  split <;> omega
set_option maxHeartbeats 8000000 in
set_option maxRecDepth 100000 in
theorem refWide_calls (a : Int) (w : World) (ha : in64 a) (hn : a ≠ -9223372036854775808) : Calls Try.prog 169 #[.int .i64 a] w fun e w' => e = .returned (.agg #[.int .i64 (a / 4294967296), .int .i64 (a % 4294967296)]) ∧ Below w.heap.size w w' := by
  have h1 := Aside0.mk (tdiv_at a)
  have h2 := Aside0.mk (tmod_at a)
  have HA := Aside0.mk (And.intro ha hn)
  clear ha hn
  go_enter Try.func169, Try.ntmps169
  go_wp2_with fail
  · refine bodyPost_ret (v := .agg #[.int .i64 (wrap64 ((wrap64 (a - wrap64 (a.tmod 4294967296 + 4294967296))).tdiv 4294967296)), .int .i64 (wrap64 (a.tmod 4294967296 + 4294967296))]) (by simp only [results, Try.results169]; go_simp) rfl ⟨?_, by (repeat (first | exact Below.refl _ _ | apply below_alloc | apply below_drew | apply pw_below_drewN))⟩
    have e : wrap64 (a.tmod 4294967296 + 4294967296) = a % 4294967296 := by rw [h2.out] at *; unfold wrap64; split at * <;> omega
    rw [e]
    exact ret_agg2 (wide_hi HA.out.1) rfl
  · refine bodyPost_ret (v := .agg #[.int .i64 (wrap64 ((wrap64 (a - a.tmod 4294967296)).tdiv 4294967296)), .int .i64 (a.tmod 4294967296)]) (by simp only [results, Try.results169]; go_simp) rfl ⟨?_, by (repeat (first | exact Below.refl _ _ | apply below_alloc | apply below_drew | apply pw_below_drewN))⟩
    have e : a.tmod 4294967296 = a % 4294967296 := by rw [h2.out] at *; split at * <;> omega
    rw [e]
    exact ret_agg2 (wide_hi HA.out.1) rfl
set_option maxHeartbeats 8000000 in
set_option maxRecDepth 100000 in
theorem refFits_calls (a b : Int) (w : World) (hb : 0 ≤ b ∧ b < 4294967296) : Calls Try.prog 161 #[.agg #[.int .i64 a, .int .i64 b]] w fun e w' => e = .returned (.tuple #[.int .i64 (T.fit (a * 4294967296 + b)).1, .int .i64 (T.fit (a * 4294967296 + b)).2]) ∧ Below w.heap.size w w' := by
  obtain ⟨b0, b1⟩ := hb
  by_cases h1 : a < -2147483648
  · go_enter Try.func161, Try.ntmps161
    go_wp2_with fail
    go_ret2
    exact ⟨by rw [fit_out (by unfold in64; omega)]; rfl, by (repeat (first | exact Below.refl _ _ | apply below_alloc | apply below_drew | apply pw_below_drewN))⟩
  by_cases h2 : 2147483647 < a
  · go_enter Try.func161, Try.ntmps161
    go_wp2_with fail
    go_ret2
    exact ⟨by rw [fit_out (by unfold in64; omega)]; rfl, by (repeat (first | exact Below.refl _ _ | apply below_alloc | apply below_drew | apply pw_below_drewN))⟩
  · have h3 := Aside0.mk (show in64 (a * 4294967296 + b) by unfold in64; omega)
    go_enter Try.func161, Try.ntmps161
    go_wp2_with fail
    all_goals go_ret2
    all_goals exact ⟨by rw [fit_in h3.out]; exact ret_two (by show _ = a * 4294967296 + b; first | (unfold wrap64; omega) | rfl) rfl, by (repeat (first | exact Below.refl _ _ | apply below_alloc | apply below_drew | apply pw_below_drewN))⟩
set_option maxHeartbeats 8000000 in
set_option maxRecDepth 100000 in
theorem refWide0_calls (a : Int) (w : World) (ha : in64 a) : Calls Try.prog 160 #[.int .i64 a] w fun e w' => e = .returned (.agg #[.int .i64 (a / 4294967296), .int .i64 (a % 4294967296)]) ∧ Below w.heap.size w w' := by
  by_cases h0 : 0 ≤ a
  · have h1 := Aside0.mk (Int.tdiv_eq_ediv_of_nonneg (b := 4294967296) h0)
    have h2 := Aside0.mk (Int.tmod_eq_emod_of_nonneg (b := 4294967296) h0)
    have h3 := Aside0.mk (show wrap64 (a / 4294967296) = a / 4294967296 by obtain ⟨u, v⟩ := ha; unfold wrap64; omega)
    clear ha
    go_enter Try.func160, Try.ntmps160
    go_wp2_with fail
    refine bodyPost_ret (v := .agg #[.int .i64 (wrap64 (a.tdiv 4294967296)), .int .i64 (a % 4294967296)]) (by simp only [results, Try.results160]; go_simp) rfl ⟨?_, by (repeat (first | exact Below.refl _ _ | apply below_alloc | apply below_drew | apply pw_below_drewN))⟩
    exact ret_agg2 (by rw [h1.out, h3.out]) rfl
  by_cases h1 : a = -9223372036854775808
  · subst h1
    go_enter Try.func160, Try.ntmps160
    go_wp2_with fail
    refine bodyPost_ret (v := .agg #[.int .i64 (-2147483648), .int .i64 0]) (by simp only [results, Try.results160]; go_simp) rfl ⟨?_, by (repeat (first | exact Below.refl _ _ | apply below_alloc | apply below_drew | apply pw_below_drewN))⟩
    exact ret_agg2 (by decide) (by decide)
  · have HA := Aside0.mk (And.intro ha h1)
    have h2 : (a == -9223372036854775808) = false := by simpa using h1
    clear ha h1
    go_enter Try.func160, Try.ntmps160
    go_wp2_with fail
    refine (refWide_calls a _ HA.out.1 HA.out.2).mono ?_
    rintro e w1 ⟨rfl, hb⟩
    have y0 : w1.cell? ⟨w.heap.size, 0, none⟩ = some (.int .i64 0) := (hb.cell (p := ⟨w.heap.size, 0, none⟩) (by simp)).trans (by simp)
    have y1 : w1.cell? ⟨w.heap.size, 1, none⟩ = some (.int .i64 0) := (hb.cell (p := ⟨w.heap.size, 1, none⟩) (by simp)).trans (by simp)
    have zf : ∀ j, w1.frozen? ⟨w.heap.size, j, none⟩ = false := fun j => (hb.frozen (p := ⟨w.heap.size, j, none⟩) (by simp)).trans (by go_simp)
    replace hb := Aside0.mk hb
    go_wp2_with fail
    refine bodyPost_ret (v := .agg #[.int .i64 (a / 4294967296), .int .i64 (a % 4294967296)]) (by simp only [results, Try.results160]; go_simp) rfl ⟨rfl, ?_⟩
    repeat (refine Below.setCell ?_ (by simp) _)
    exact then_below (by (repeat (first | exact Below.refl _ _ | apply below_alloc | apply below_drew | apply pw_below_drewN))) hb.out
def T.sumL : List Int → Int
  | [] => 0
  | x :: xs => x + T.sumL xs
theorem sumL_at {l : List Int} {k : Nat} (hk : k < l.length) : T.sumL (l.drop k) = l.getD k 0 + T.sumL (l.drop (k + 1)) := by rw [drop_cons 0 hk, T.sumL]
theorem sumL_end {l : List Int} {k : Nat} (hk : l.length ≤ k) : T.sumL (l.drop k) = 0 := by rw [List.drop_of_length_le hk, T.sumL]
set_option maxHeartbeats 8000000 in
set_option maxRecDepth 100000 in
theorem refSum_calls (l : List Int) (A : Option Addr) (c : Nat) (w : World) (hl : ∀ x ∈ l, in64 x) (h16 : l.length ≤ 16384) (hc : l.length ≤ c) (g : Cint w A l) : Calls Try.prog 139 #[.slice A l.length c] w fun e w' => e = .returned (.tuple #[.int .i64 (T.fit (T.sumL l)).1, .int .i64 (T.fit (T.sumL l)).2]) ∧ Below w.heap.size w w' := by
  have G := Aside0.mk g
  have HL := Aside0.mk hl
  clear g hl
  go_enter Try.func139, Try.ntmps139
  go_wp2_with fail
  go_loopw [5] (fun i W => ∃ (k : Nat) (H L : Int), k ≤ l.length ∧ i = .int .i64 k ∧ Aside0 (W.heap[w.heap.size]? = some (.cells #[.int .i64 H, .int .i64 L] 128 (0, 0))) ∧ Aside0 (Below w.heap.size w W) ∧ Aside0 (H * 4294967296 + L + T.sumL (l.drop k) = T.sumL l) ∧ 0 ≤ L ∧ L ≤ k * 4294967296 ∧ -2147483648 * k ≤ H ∧ H ≤ 2147483648 * k) (fun i _ => l.length - (intOf i).toNat)
  case atStart => exact ⟨0, 0, 0, by omega, rfl, ⟨heap_alloc_new' _ _ _ (by simp)⟩, ⟨by (repeat (first | exact Below.refl _ _ | apply below_alloc | apply below_drew | apply pw_below_drewN))⟩, ⟨by simp⟩, by omega, by omega, by omega, by omega⟩
  case round =>
    obtain ⟨k, H, L, hk, rfl, hblk, hbl, hinv, hL0, hL1, hH0, hH1⟩ := hrel
    have y0 : wr.cell? ⟨w.heap.size, 0, none⟩ = some (.int .i64 H) := cell_of_row wr w.heap.size 0 _ _ _ hblk.out
    have y1 : wr.cell? ⟨w.heap.size, 1, none⟩ = some (.int .i64 L) := cell_of_row wr w.heap.size 1 _ _ _ hblk.out
    have yf : ∀ j, wr.frozen? ⟨w.heap.size, j, none⟩ = false := fun j => by simp [World.frozen?, hblk.out]
    have hgl : w.heap.size < wr.heap.size := (Array.getElem?_eq_some_iff.1 hblk.out).1
    by_cases hlt : k < l.length
    · obtain ⟨ad, e, x00⟩ := at_int G.out k hlt
      have x0 := pw_cell_below hbl.out x00
      have hin := Aside0.mk (HL.out _ (getD_mem 0 hlt))
      have hst := Aside0.mk (sumL_at hlt)
      subst e
      clear x00
      generalize l.getD k 0 = x at x0 hin hst
      go_wp2_with fail
      refine (refWide0_calls x _ hin.out).mono ?_
      rintro e w1 ⟨rfl, hb⟩
      have z0 := (hb.cell (p := ⟨w.heap.size, 0, none⟩) hgl).trans y0
      have z1 := (hb.cell (p := ⟨w.heap.size, 1, none⟩) hgl).trans y1
      have zf : ∀ j, w1.frozen? ⟨w.heap.size, j, none⟩ = false := fun j => (hb.frozen (p := ⟨w.heap.size, j, none⟩) hgl).trans (yf j)
      have hg1 : w.heap.size < w1.heap.size := by have := hb.size; omega
      replace hb := Aside0.mk hb
      clear y0 y1 yf
      go_wp2_with fail
      refine ⟨⟨k + 1, H + x / 4294967296, L + x % 4294967296, by omega, by go_num, ⟨?_⟩, ⟨?_⟩, ⟨?_⟩, by omega, by omega, ?_, ?_⟩, by simp [intOf]; omega⟩
      · have hx := hin.out
        unfold in64 at hx
        have e : wrap64 (H + x / 4294967296) = H + x / 4294967296 := by unfold wrap64; omega
        have hh := (hb.out.block w.heap.size hgl).trans hblk.out
        rw [e]
        refine (Below.heap_alloc _ _ _ (by simp; omega)).trans ?_
        simp [World.setCell, Array.getElem?_modify, hh]
      · refine below_alloc ?_ _
        repeat (refine Below.setCell ?_ (by simp) _)
        exact hbl.out.trans (hb.out.mono (by omega))
      · have h1 := hinv.out
        rw [hst.out] at h1
        omega
      · have hx := hin.out
        unfold in64 at hx
        omega
      · have hx := hin.out
        unfold in64 at hx
        omega
    · obtain rfl : k = l.length := by omega
      rw [List.drop_length, T.sumL] at hinv
      have hfit := Aside0.mk (show H * 4294967296 + L = (H + L / 4294967296) * 4294967296 + L % 4294967296 by omega)
      have hb3 := Aside0.mk (show 0 ≤ L % 4294967296 ∧ L % 4294967296 < 4294967296 by omega)
      go_wp2_with fail
      refine (refFits_calls _ _ _ hb3.out).mono ?_
      rintro e w2 ⟨rfl, hb⟩
      rw [← hfit.out, show H * 4294967296 + L = T.sumL l by have := hinv.out; omega]
      go_wp2_with fail
      go_ret2
      refine ⟨rfl, ?_⟩
      refine then_below ?_ hb
      repeat (refine Below.setCell ?_ (by simp) _)
      exact hbl.out
theorem two_sum (a b : Int) : T.sumL [a, b] = a + b := by simp [T.sumL]
abbrev TwoBelow (p : Int × Int) (w : World) (e : Ending) (w' : World) : Prop := e = .returned (.tuple #[.int .i64 p.1, .int .i64 p.2]) ∧ Below w.heap.size w w'
theorem ret_twob {a b c d : Int} {w w' : World} (h1 : a = c) (h2 : b = d) (hb : Below w.heap.size w w') : TwoBelow (c, d) w (.returned (.tuple #[.int .i64 a, .int .i64 b])) w' := by subst h1 h2; exact ⟨rfl, hb⟩
set_option maxHeartbeats 8000000 in
set_option maxRecDepth 100000 in
theorem refAdd_calls (a b : Int) (w : World) (ha : in64 a) (hb : in64 b) : Calls Try.prog 100 #[.int .i64 a, .int .i64 b] w (TwoBelow (T.fit (a + b)) w) := by
  have HL := Aside0.mk (show ∀ x ∈ [a, b], in64 x by simp [ha, hb])
  clear ha hb
  go_enter Try.func100, Try.ntmps100
  go_wp2_with fail
  refine (refSum_calls [a, b] _ 2 _ HL.out (by simp) (by simp) (lit_ints' _ [a, b] 2 _ rfl (by simp))).mono ?_
  rintro e w' ⟨rfl, hb⟩
  rw [two_sum]
  go_wp2_with fail
  go_ret2
  exact ⟨rfl, (then_below (by (repeat (first | exact Below.refl _ _ | apply below_alloc | apply below_drew | apply pw_below_drewN))) hb)⟩
set_option maxHeartbeats 8000000 in
set_option maxRecDepth 100000 in
theorem refSub_calls (a b : Int) (w : World) (ha : in64 a) (hb : in64 b) : Calls Try.prog 101 #[.int .i64 a, .int .i64 b] w (TwoBelow (T.fit (a - b)) w) := by
  by_cases h : b = -9223372036854775808
  · subst h
    obtain ⟨a0, a1⟩ := ha
    clear hb
    by_cases h0 : 0 ≤ a
    · go_enter Try.func101, Try.ntmps101
      go_wp2_with fail
      go_ret2
      exact ⟨by rw [fit_out (by unfold in64; omega)]; rfl, by (repeat (first | exact Below.refl _ _ | apply below_alloc | apply below_drew | apply pw_below_drewN))⟩
    · go_enter Try.func101, Try.ntmps101
      go_wp2_with fail
      go_ret2
      exact ⟨by rw [fit_in (by unfold in64; omega)]; exact ret_two (by show _ = a - -9223372036854775808; first | (unfold wrap64; omega) | omega) rfl, by (repeat (first | exact Below.refl _ _ | apply below_alloc | apply below_drew | apply pw_below_drewN))⟩
  · have h' : (b == -9223372036854775808) = false := by simpa using h
    have hneg := Aside0.mk (show wrap64 (-b) = -b by obtain ⟨b0, b1⟩ := hb; unfold wrap64; omega)
    have HL := Aside0.mk (show ∀ x ∈ [a, -b], in64 x by
      have : in64 (-b) := by obtain ⟨b0, b1⟩ := hb; unfold in64; omega
      simp [ha, this])
    clear ha hb h
    go_enter Try.func101, Try.ntmps101
    go_wp2_with fail
    rw [hneg.out]
    refine (refSum_calls [a, -b] _ 2 _ HL.out (by simp) (by simp) (lit_ints' _ [a, -b] 2 _ rfl (by simp))).mono ?_
    rintro e w' ⟨rfl, hb⟩
    rw [two_sum, ← Int.sub_eq_add_neg]
    go_wp2_with fail
    go_ret2
    exact ⟨rfl, (then_below (by (repeat (first | exact Below.refl _ _ | apply below_alloc | apply below_drew | apply pw_below_drewN))) hb)⟩
set_option maxHeartbeats 8000000 in
set_option maxRecDepth 100000 in
theorem refRes_calls (a b : Int) (w : World) (ha : in64 a) (hb : in64 b) : Calls Try.prog 103 #[.int .i64 a, .int .i64 b] w fun e w' => e = .returned (.int .i64 (T.resS a b)) ∧ w = w' := by
  by_cases h0 : a = 0
  · subst h0
    go_enter Try.func103, Try.ntmps103
    go_wp2_with fail
    go_ret
    exact ⟨ret_int (resS_zero b).symm, rfl⟩
  by_cases h1 : a = -1
  · subst h1
    go_enter Try.func103, Try.ntmps103
    go_wp2_with fail
    go_ret
    exact ⟨ret_int (resS_neg b).symm, rfl⟩
  by_cases h2 : a = 1
  · subst h2
    go_enter Try.func103, Try.ntmps103
    go_wp2_with fail
    go_ret
    exact ⟨ret_int (by unfold T.resS; simp), rfl⟩
  have hr := Aside0.mk (show T.resS a b = if (b.tmod a < 0 ∧ 0 < a) ∨ (0 < b.tmod a ∧ a < 0) then b.tmod a + a else b.tmod a by unfold T.resS; rw [if_neg h0, if_neg (by omega)])
  have ht := Aside0.mk (tmod_in (b := b) h0)
  have hab := Aside0.mk (And.intro ha hb)
  have h0' : (a == 0) = false := by simpa using h0
  have h1' : (a == -1) = false := by simpa using h1
  have h2' : (a == 1) = false := by simpa using h2
  have H0 := Aside0.mk h0
  clear h0 h1 h2 ha hb
  go_enter Try.func103, Try.ntmps103
  go_wp2_with fail
  all_goals first
    | exact absurd ‹a = 0› H0.out
    | (go_ret; refine ⟨ret_int ?_, rfl⟩; rw [hr.out]; have := ht.out; have h := hab.out; unfold in64 at h; split <;> first | omega | (unfold wrap64; omega))
end Go.Proofs.Ytdfijdajkdkkfaa
