/-
  What the reference's Dy computes is what the plain law says.
-/
import Derived.Test.YtdfijdajkdkkfaaXUKref04b
import Derived.Test.YtdfijdajkdkkfaaA4
set_option linter.unusedVariables false
set_option linter.unusedSimpArgs false
namespace Go.Proofs.Ytdfijdajkdkkfaa
open Go.RowKit Go.Proofs.YtdfijdajkdkkfaaW.PrintWords Go.Proofs.YtdfijdajkdkkfaaW.PrintLast
open T
open XU (S25 S33 S33G k25 k33 z33 rd_T33)
theorem ofC_z33 : T.ofC z33 = zc := by rw [ofC_eq]; rfl
theorem getD_ofL (l : List S33) (i : Nat) : (T.ofL l).getD i zc = T.ofC (l.getD i z33) := by
  rw [ofL_map, List.getD_eq_getElem?_getD, List.getD_eq_getElem?_getD, List.getElem?_map]
  cases l[i]? with
  | none => simp [ofC_z33]
  | some x => simp
theorem ofC_kind (x : S33) : (T.ofC x).kind = x.f0 := by rw [ofC_eq]; rfl
theorem ofC_n (x : S33) : (T.ofC x).n = x.f1 := by rw [ofC_eq]; rfl
theorem ofC_box (x : S33) : (T.ofC x).box = T.ofB x.f2 := by rw [ofC_eq]; rfl
theorem tmod_cast (i n : Nat) : Int.tmod (i : Int) (n : Int) = ((i % n : Nat) : Int) := by
  rw [Int.tmod_eq_emod_of_nonneg (by omega)]; rfl
theorem in64_of {s : List Int} {cs : List S33} (h : wfA ⟨s, T.ofL cs⟩) {j : Nat} (hj : j < cs.length) : in64 (cs.getD j z33).f1 := by
  have h2 := (wfC_iff.1 ((wfA_iff.1 h).2.2.2 _ (getD_mem (l := T.ofL cs) (k := j) zc (by rw [ofL_length]; exact hj)))).2.1
  rw [getD_ofL, ofC_n] at h2
  exact h2
/-- Which cell stands beside the one at i. -/
theorem beside_mod {s : List Int} {cs : List S33} {N i : Nat} (h0 : s.length = 0 → cs.length = 1) (h1 : s.length ≠ 0 → cs.length = N) (hi : i < N) : 0 < cs.length ∧ i % cs.length < cs.length ∧ T.beside ⟨s, T.ofL cs⟩ i = T.ofC (cs.getD (i % cs.length) z33) := by
  by_cases hs : s.length = 0
  · have hc := h0 hs
    refine ⟨by omega, Nat.mod_lt _ (by omega), ?_⟩
    rw [beside_atom (a := ⟨s, T.ofL cs⟩) hs, Arr.cells_mk, getD_ofL, hc, Nat.mod_one]
  · have hc := h1 hs
    refine ⟨by omega, Nat.mod_lt _ (by omega), ?_⟩
    rw [beside_at (a := ⟨s, T.ofL cs⟩) hs, Arr.cells_mk, getD_ofL, hc, Nat.mod_eq_of_lt hi]
theorem toL_numc (l : List T.Cell) (x : Int) : T.toL (l ++ [T.numc x]) = T.toL l ++ [(⟨0, x, []⟩ : S33)] := by
  rw [toL_map, List.map_append, ← toL_map]
  simp [toC_eq, T.numc, T.toB]
theorem refDy_loop (op : Int) (s1 s2 S : List Int) (c1 c2 : List S33) (N : Nat) (hN : N ≤ 16384) (hwa : wfA ⟨s1, T.ofL c1⟩) (hwb : wfA ⟨s2, T.ofL c2⟩)
    (a0 : s1.length = 0 → c1.length = 1) (a1 : s1.length ≠ 0 → c1.length = N) (b0 : s2.length = 0 → c2.length = 1) (b1 : s2.length ≠ 0 → c2.length = N) :
    ∀ (d i fuel : Nat), i + d = N → d < fuel → T.firstErr (T.pairs op ⟨s1, T.ofL c1⟩ ⟨s2, T.ofL c2⟩) i = 0 →
      XU.triglyphref04_Dy.l0 fuel op N i s1 c1 s2 c2 S (T.toL (T.results (T.pairs op ⟨s1, T.ofL c1⟩ ⟨s2, T.ofL c2⟩) i)) =
        some ((T.cellsErr (T.pairs op ⟨s1, T.ofL c1⟩ ⟨s2, T.ofL c2⟩) S N).1.shape, T.toL (T.cellsErr (T.pairs op ⟨s1, T.ofL c1⟩ ⟨s2, T.ofL c2⟩) S N).1.cells, (T.cellsErr (T.pairs op ⟨s1, T.ofL c1⟩ ⟨s2, T.ofL c2⟩) S N).2) := by
  intro d
  induction d with
  | zero =>
    intro i fuel h hf he
    obtain ⟨f, rfl⟩ : ∃ f, fuel = f + 1 := ⟨fuel - 1, by omega⟩
    obtain rfl : i = N := by omega
    simp only [XU.triglyphref04_Dy.l0]
    rw [if_neg (by omega)]
    unfold T.cellsErr
    rw [if_neg (by rw [he]; simp)]
    rfl
  | succ d ih =>
    intro i fuel h hf he
    obtain ⟨f, rfl⟩ : ∃ f, fuel = f + 1 := ⟨fuel - 1, by omega⟩
    have hi : i < N := by omega
    obtain ⟨p0, p1, p2⟩ := beside_mod a0 a1 hi
    obtain ⟨q0, q1, q2⟩ := beside_mod b0 b1 hi
    simp only [XU.triglyphref04_Dy.l0]
    rw [if_pos (by omega), if_neg (by omega), tmod_cast, if_pos (by omega), if_pos (by omega), if_neg (by omega), tmod_cast, if_pos (by omega), if_pos (by omega)]
    have e1 : rd_T33 c1 ((i % c1.length : Nat) : Int) = c1.getD (i % c1.length) z33 := rfl
    have e2 : rd_T33 c2 ((i % c2.length : Nat) : Int) = c2.getD (i % c2.length) z33 := rfl
    rw [e1, e2]
    have hp : T.pairs op ⟨s1, T.ofL c1⟩ ⟨s2, T.ofL c2⟩ i = T.dyC op (c1.getD (i % c1.length) z33).f0 (c1.getD (i % c1.length) z33).f1 (c2.getD (i % c2.length) z33).f0 (c2.getD (i % c2.length) z33).f1 := by
      unfold T.pairs; rw [p2, q2, ofC_kind, ofC_n, ofC_kind, ofC_n]
    unfold XU.triglyphref04_Cell.f
    rw [if_pos ⟨in64_of hwa p1, in64_of hwb q1⟩, ← hp]
    simp only [Option.bind_some]
    by_cases hr : (T.pairs op ⟨s1, T.ofL c1⟩ ⟨s2, T.ofL c2⟩ i).2 = 0
    · rw [if_pos hr, if_pos (by rw [toL_length, results_len]; omega)]
      have hw : wrap64 ((i : Int) + 1) = ((i + 1 : Nat) : Int) := by unfold wrap64; omega
      rw [hw, ← toL_numc, results_succ]
      exact ih (i + 1) f (by omega) (by omega) (firstErr_succ he hr)
    · rw [if_neg hr]
      have h9 := firstErr_bad hi he hr
      unfold T.cellsErr
      rw [h9, if_pos hr]
      simp [za, T.toL]
theorem dyS_1 {op : Int} {a b : Arr} (h1 : chk 8 a ≠ 0) : T.dyS op a b = (za, chk 8 a) := by unfold T.dyS; rw [if_pos h1]
theorem dyS_2 {op : Int} {a b : Arr} (h1 : ¬ chk 8 a ≠ 0) (h2 : chk 8 b ≠ 0) : T.dyS op a b = (za, chk 8 b) := by unfold T.dyS; rw [if_neg h1, if_pos h2]
theorem dyS_3 {op : Int} {a b : Arr} (h1 : ¬ chk 8 a ≠ 0) (h2 : ¬ chk 8 b ≠ 0) (h3 : op = 54) : T.dyS op a b = (za, 10) := by unfold T.dyS; rw [if_neg h1, if_neg h2, if_pos h3]
theorem dyS_4 {op : Int} {a b : Arr} (h1 : ¬ chk 8 a ≠ 0) (h2 : ¬ chk 8 b ≠ 0) (h3 : ¬ op = 54) (h4 : op < 21 ∨ 32 < op) : T.dyS op a b = (za, 1) := by unfold T.dyS; rw [if_neg h1, if_neg h2, if_neg h3, if_pos h4]
theorem dyS_5 {op : Int} {a b : Arr} (h1 : ¬ chk 8 a ≠ 0) (h2 : ¬ chk 8 b ≠ 0) (h3 : ¬ op = 54) (h4 : ¬ (op < 21 ∨ 32 < op)) (h5 : (T.agree a.shape b.shape).2 ≠ 0) : T.dyS op a b = (za, (T.agree a.shape b.shape).2) := by unfold T.dyS; rw [if_neg h1, if_neg h2, if_neg h3, if_neg h4, if_pos h5]
theorem dyS_6 {op : Int} {a b : Arr} {N : Nat} (h1 : ¬ chk 8 a ≠ 0) (h2 : ¬ chk 8 b ≠ 0) (h3 : ¬ op = 54) (h4 : ¬ (op < 21 ∨ 32 < op)) (h5 : ¬ (T.agree a.shape b.shape).2 ≠ 0) (hN : (if a.shape.length = 0 then b.cells.length else a.cells.length) = N) : T.dyS op a b = T.cellsErr (T.pairs op a b) (T.agree a.shape b.shape).1 N := by unfold T.dyS; rw [if_neg h1, if_neg h2, if_neg h3, if_neg h4, if_neg h5, hN]
theorem refAgree_f (s1 s2 : List Int) : XU.triglyphref04_Agree.f s1 s2 = some (T.agree s1 s2) := by
  unfold XU.triglyphref04_Agree.f T.agree XU.triglyphref03_Ints.f
  simp only [Option.bind_some]
  by_cases e1 : s1.length = 0
  · rw [if_pos (show (s1.length : Int) = 0 by omega), if_pos e1]
  rw [if_neg (show ¬ (s1.length : Int) = 0 by omega), if_neg e1]
  by_cases e2 : s2.length = 0
  · rw [if_pos (show (s2.length : Int) = 0 by omega), if_pos e2]
  rw [if_neg (show ¬ (s2.length : Int) = 0 by omega), if_neg e2]
  by_cases e3 : s1.length = s2.length
  · rw [if_pos (show (s1.length : Int) = (s2.length : Int) by omega), if_neg (show ¬ (s1.length ≠ s2.length) from not_not_intro e3)]
    by_cases e4 : s1 = s2
    · rw [if_pos (show decide (s1 = s2) = true by simpa using e4), if_neg (show ¬ (s1 ≠ s2) from not_not_intro e4)]
    · rw [if_neg (show ¬ decide (s1 = s2) = true by simpa using e4), if_pos (show s1 ≠ s2 from e4)]
  · rw [if_neg (show ¬ (s1.length : Int) = (s2.length : Int) by omega), if_pos (show s1.length ≠ s2.length from e3)]
theorem refDy_f (op : Int) (s1 s2 : List Int) (c1 c2 : List S33) (hwa : wfA ⟨s1, T.ofL c1⟩) (hwb : wfA ⟨s2, T.ofL c2⟩) :
    ∃ k, XU.triglyphref04_Dy.f k op s1 c1 s2 c2 = some ((T.dyS op ⟨s1, T.ofL c1⟩ ⟨s2, T.ofL c2⟩).1.shape, T.toL (T.dyS op ⟨s1, T.ofL c1⟩ ⟨s2, T.ofL c2⟩).1.cells, (T.dyS op ⟨s1, T.ofL c1⟩ ⟨s2, T.ofL c2⟩).2) := by
  refine ⟨16390, ?_⟩
  unfold XU.triglyphref04_Dy.f XU.triglyphref03_Check.f
  simp only [Option.bind_some]
  by_cases h1 : chk 8 ⟨s1, T.ofL c1⟩ = 0
  case neg => rw [if_neg h1, dyS_1 h1]; rfl
  rw [if_pos h1]
  by_cases h2 : chk 8 ⟨s2, T.ofL c2⟩ = 0
  case neg => rw [if_neg h2, dyS_2 (not_not_intro h1) h2]; rfl
  rw [if_pos h2]
  by_cases h3 : op = 54
  · rw [if_pos h3, dyS_3 (not_not_intro h1) (not_not_intro h2) h3]; rfl
  rw [if_neg h3]
  by_cases h4 : op < 21 ∨ 32 < op
  · rw [dyS_4 (not_not_intro h1) (not_not_intro h2) h3 h4]
    by_cases h5 : op < 21
    · rw [if_pos h5]; simp only [XU.triglyphref04_Dy.j0]; rfl
    · rw [if_neg h5]
      have : decide (op > 32) = true := by simp; omega
      rw [this]; simp only [XU.triglyphref04_Dy.j0]; rfl
  have h5 : ¬ op < 21 := by omega
  have h6 : decide (op > 32) = false := by simp; omega
  rw [if_neg h5, h6]
  show XU.triglyphref04_Dy.j0 (16389 + 1) op false s1 c1 s2 c2 = _
  simp only [XU.triglyphref04_Dy.j0]
  rw [refAgree_f]
  simp only [Option.bind_some]
  rw [if_neg (show ¬ false = true by simp)]
  by_cases h7 : (T.agree s1 s2).2 = 0
  case neg => rw [if_neg h7, dyS_5 (not_not_intro h1) (not_not_intro h2) h3 h4 h7]; rfl
  rw [if_pos h7]
  unfold XU.triglyphref03_Size.f
  simp only [Option.bind_some]
  have k1 := chk_ok.1 h1
  have k2 := chk_ok.1 h2
  simp only [Arr.shape_mk, Arr.cells_mk, ofL_length] at k1 k2
  have z1 := chk_sizes h1
  have z2 := chk_sizes h2
  simp only [Arr.shape_mk, Arr.cells_mk, ofL_length] at z1 z2
  have n1 : s1.length = 0 → c1.length = 1 := fun h => by have := chk_nil h1 h; simpa using this
  have n2 : s2.length = 0 → c2.length = 1 := fun h => by have := chk_nil h2 h; simpa using this
  have n3 : s1.length ≠ 0 → s2.length ≠ 0 → c1.length = c2.length := fun e1 e2 => by
    have := same_count h1 h2 h7 e1 e2; simpa using this
  have hl : (T.agree s1 s2).1.length ≤ 8 := by
    rcases agree_ok h7 with ⟨_, e⟩ | ⟨_, _, e⟩ | ⟨_, _, _, e⟩ <;> rw [e] <;> omega
  rw [if_pos (show ([] : List Int).length + (T.agree s1 s2).1.length < 17592186044416 by simp; omega), List.nil_append]
  obtain ⟨N, hN⟩ : ∃ N, (if s1.length = 0 then c2.length else c1.length) = N := ⟨_, rfl⟩
  have hS : (T.size (T.agree s1 s2).1).1 = (N : Int) := by
    rw [← hN]
    rcases agree_ok h7 with ⟨e0, e⟩ | ⟨e0, _, e⟩ | ⟨e0, _, _, e⟩
    · rw [e, if_pos e0]; exact k2.2.1
    · rw [e, if_neg e0]; exact k1.2.1
    · rw [e, if_neg e0]; exact k1.2.1
  rw [hS, dyS_6 (N := N) (not_not_intro h1) (not_not_intro h2) h3 h4 (not_not_intro h7) (by simpa using hN)]
  have b1 : s1.length ≠ 0 → c1.length = N := fun h => by rw [← hN, if_neg h]
  have b2 : s2.length ≠ 0 → c2.length = N := fun h => by
    rw [← hN]
    by_cases e : s1.length = 0
    · rw [if_pos e]
    · rw [if_neg e]; exact (n3 e h).symm
  have hNb : N ≤ 16384 := by
    rw [← hN]
    split <;> omega
  exact refDy_loop op s1 s2 (T.agree s1 s2).1 c1 c2 N hNb hwa hwb n1 b1 n2 b2 N 0 16389 (by omega) (by omega) rfl
/-- ref04.Dy. -/
theorem refDy_calls (op : Int) (a b : Arr) (A0 A1 B0 B1 : Option Addr) (c0 c1 d0 d1 : Nat) (w : World) (hwa : wfA a) (hwb : wfA b) (l0 : a.shape.length ≤ c0) (l1 : a.cells.length ≤ c1) (m0 : b.shape.length ≤ d0) (m1 : b.cells.length ≤ d1) (g0 : Cint w A0 a.shape) (g1 : CC w A1 a.cells) (z0 : Cint w B0 b.shape) (z1 : CC w B1 b.cells) :
    Calls Try.prog 54 #[.int .i64 op, .agg #[.slice A0 a.shape.length c0, .slice A1 a.cells.length c1], .agg #[.slice B0 b.shape.length d0, .slice B1 b.cells.length d1]] w (SomeArr (T.dyS op a b) w) := by
  obtain ⟨s1, x1⟩ := a
  obtain ⟨s2, x2⟩ := b
  simp only [Arr.shape_mk, Arr.cells_mk] at *
  have e1 := ofL_toL x1
  have e2 := ofL_toL x2
  obtain ⟨k, hk⟩ := refDy_f op s1 s2 (T.toL x1) (T.toL x2) (by rw [e1]; exact hwa) (by rw [e2]; exact hwb)
  rw [e1, e2] at hk
  have q := XU.triglyphref04_Dy.calls k op A0 c0 s1 A1 c1 (T.toL x1) B0 d0 s2 B1 d1 (T.toL x2) _ _ _ w g0 l0 (by rw [toL_length]; exact C_toL g1) (by rw [toL_length]; exact l1) z0 m0 (by rw [toL_length]; exact C_toL z1) (by rw [toL_length]; exact m1) hk
  rw [toL_length, toL_length] at q
  refine q.mono ?_
  rintro e w' ⟨v0, v1, rfl, hR0, hR1, hb⟩
  obtain ⟨V0, e0, rfl⟩ := Kd.R_slice hR0
  obtain ⟨V1, e1', rfl⟩ := Kd.R_slice hR1
  have p0 := Kd.R_reads' hR0
  have p1 := Kd.R_reads' hR1
  refine ⟨V0, e0, V1, e1', by rw [toL_length], p0.2.1, by rw [← toL_length]; exact p1.2.1, p0.2.2, ?_, hb⟩
  have p2 := C_ofL p1.2.2
  rw [toL_length, ofL_toL] at p2
  exact p2
end Go.Proofs.Ytdfijdajkdkkfaa
