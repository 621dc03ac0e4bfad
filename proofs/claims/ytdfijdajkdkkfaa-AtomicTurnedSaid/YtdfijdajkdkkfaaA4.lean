/-
  What two arrays come to, cell by cell: plain.
-/
import Derived.Test.YtdfijdajkdkkfaaA2
import Derived.Test.YtdfijdajkdkkfaaA3
set_option linter.unusedVariables false
set_option linter.unusedSimpArgs false
namespace Go.Proofs.Ytdfijdajkdkkfaa
open Go.RowKit Go.Proofs.YtdfijdajkdkkfaaW.PrintWords Go.Proofs.YtdfijdajkdkkfaaW.PrintLast
open T
/-- The first reason, of those at 0, 1, .. n - 1, that is not 0. -/
def T.firstErr (r : Nat → Int × Int) : Nat → Int
  | 0 => 0
  | n + 1 => if T.firstErr r n ≠ 0 then T.firstErr r n else (r n).2
theorem firstErr_bad {r : Nat → Int × Int} {n k : Nat} (hk : k < n) (h0 : T.firstErr r k = 0) (h : (r k).2 ≠ 0) : T.firstErr r n = (r k).2 := by
  induction n with
  | zero => omega
  | succ n ih =>
    unfold T.firstErr
    by_cases e : k = n
    · subst e; rw [if_neg (by simpa using h0)]
    · have := ih (by omega)
      rw [this, if_pos h]
theorem firstErr_succ {r : Nat → Int × Int} {k : Nat} (h0 : T.firstErr r k = 0) (h : (r k).2 = 0) : T.firstErr r (k + 1) = 0 := by
  unfold T.firstErr; rw [if_neg (by simpa using h0)]; exact h
theorem firstErr_congr {r q : Nat → Int × Int} {n : Nat} (h : ∀ i, i < n → r i = q i) : T.firstErr r n = T.firstErr q n := by
  induction n with
  | zero => rfl
  | succ n ih => unfold T.firstErr; rw [ih (fun i hi => h i (by omega)), h n (by omega)]
def T.results (r : Nat → Int × Int) (n : Nat) : List T.Cell := (List.range n).map fun i => T.numc (r i).1
theorem results_succ (r : Nat → Int × Int) (k : Nat) : T.results r k ++ [T.numc (r k).1] = T.results r (k + 1) := by simp [T.results, List.range_succ]
theorem results_len (r : Nat → Int × Int) (k : Nat) : (T.results r k).length = k := by simp [T.results]
theorem results_congr {r q : Nat → Int × Int} {n : Nat} (h : ∀ i, i < n → r i = q i) : T.results r n = T.results q n := by
  unfold T.results
  apply List.map_congr_left
  intro i hi
  rw [h i (List.mem_range.1 hi)]
def T.cellsErr (r : Nat → Int × Int) (s : List Int) (n : Nat) : Arr × Int := if T.firstErr r n ≠ 0 then (za, T.firstErr r n) else (⟨s, T.results r n⟩, 0)
/-- The cell of a that stands beside the one at i. -/
def T.beside (a : Arr) (i : Nat) : T.Cell := if a.shape.length = 0 then a.cells.getD 0 zc else a.cells.getD i zc
def T.pairs (op : Int) (a b : Arr) (i : Nat) : Int × Int := T.dyC op (T.beside a i).kind (T.beside a i).n (T.beside b i).kind (T.beside b i).n
def T.dyS (op : Int) (a b : Arr) : Arr × Int :=
  if chk 8 a ≠ 0 then (za, chk 8 a) else if chk 8 b ≠ 0 then (za, chk 8 b) else if op = 54 then (za, 10) else if op < 21 ∨ 32 < op then (za, 1)
  else if (T.agree a.shape b.shape).2 ≠ 0 then (za, (T.agree a.shape b.shape).2)
  else T.cellsErr (T.pairs op a b) (T.agree a.shape b.shape).1 (if a.shape.length = 0 then b.cells.length else a.cells.length)
/-- How the two numbers of cells go together. -/
theorem chk_nil {a : Arr} (h : chk 8 a = 0) (hs : a.shape.length = 0) : a.cells.length = 1 := by
  obtain ⟨h1, h2, _⟩ := chk_ok.1 h
  have : a.shape = [] := List.eq_nil_of_length_eq_zero hs
  rw [this] at h2
  have h3 : (size []).1 = 1 := by decide
  omega
theorem agree_ok {s t : List Int} (h : (T.agree s t).2 = 0) : (s.length = 0 ∧ (T.agree s t).1 = t) ∨ (s.length ≠ 0 ∧ t.length = 0 ∧ (T.agree s t).1 = s) ∨ (s.length ≠ 0 ∧ t.length ≠ 0 ∧ s = t ∧ (T.agree s t).1 = s) := by
  unfold T.agree at h ⊢
  by_cases h1 : s.length = 0
  · left; simp [h1]
  · by_cases h2 : t.length = 0
    · right; left; simp [h1, h2]
    · right; right
      rw [if_neg h1, if_neg h2] at h ⊢
      by_cases h3 : s.length = t.length
      · rw [if_neg (by simpa using h3)] at h ⊢
        by_cases h4 : s = t
        · rw [if_neg (by simpa using h4)] at h ⊢
          exact ⟨h1, h2, h4, rfl⟩
        · rw [if_pos h4] at h; cases h
      · rw [if_pos h3] at h; cases h
/-- A result that is an array and a reason. -/
def SomeArr (p : Arr × Int) (w : World) (e : Ending) (w' : World) : Prop := ∃ A0 c0 A1 c1, e = .returned (.tuple #[.agg #[.slice A0 p.1.shape.length c0, .slice A1 p.1.cells.length c1], .int .i64 p.2]) ∧ p.1.shape.length ≤ c0 ∧ p.1.cells.length ≤ c1 ∧ Cint w' A0 p.1.shape ∧ CC w' A1 p.1.cells ∧ Below w.heap.size w w'
/-- A result that is an array, new, and a reason. -/
def NewArr (p : Arr × Int) (w : World) (e : Ending) (w' : World) : Prop := ∃ A0 c0 A1 c1, e = .returned (.tuple #[.agg #[.slice A0 p.1.shape.length c0, .slice A1 p.1.cells.length c1], .int .i64 p.2]) ∧ p.1.shape.length ≤ c0 ∧ p.1.cells.length ≤ c1 ∧ Kd.F (Kd.int .i64) w' (fun k => w.heap.size ≤ k) A0 p.1.shape.length p.1.shape ∧ Kd.F kC w' (fun k => w.heap.size ≤ k) A1 p.1.cells.length p.1.cells ∧ Below w.heap.size w w'
theorem NewArr.some {p : Arr × Int} {w : World} {e : Ending} {w' : World} (h : NewArr p w e w') : SomeArr p w e w' := by
  obtain ⟨A0, c0, A1, c1, h1, h2, h3, h4, h5, h6⟩ := h
  exact ⟨A0, c0, A1, c1, h1, h2, h3, Kd.F_now h4, Kd.F_now h5, h6⟩
theorem new_none {p : Arr × Int} {x : Int} {w w' : World} (h : p = (za, x)) (hb : Below w.heap.size w w') : NewArr p w (.returned (.tuple #[.agg #[.slice none 0 0, .slice none 0 0], .int .i64 x])) w' := by
  subst h; exact ⟨none, 0, none, 0, rfl, Nat.le_refl _, Nat.le_refl _, Kd.F_nil _ _ _, Kd.F_nil _ _ _, hb⟩
theorem new_arr {p : Arr × Int} {s : List Int} {cs : List T.Cell} {x : Int} {A0 A1 : Option Addr} {c0 c1 : Nat} {w w' : World} (h : p = (⟨s, cs⟩, x)) (l0 : s.length ≤ c0) (l1 : cs.length ≤ c1) (g0 : Kd.F (Kd.int .i64) w' (fun k => w.heap.size ≤ k) A0 s.length s) (g1 : Kd.F kC w' (fun k => w.heap.size ≤ k) A1 cs.length cs) (hb : Below w.heap.size w w') : NewArr p w (.returned (.tuple #[.agg #[.slice A0 s.length c0, .slice A1 cs.length c1], .int .i64 x])) w' := by
  subst h; exact ⟨A0, c0, A1, c1, rfl, l0, l1, g0, g1, hb⟩
theorem some_none {p : Arr × Int} {x : Int} {w w' : World} (h : p = (za, x)) (hb : Below w.heap.size w w') : SomeArr p w (.returned (.tuple #[.agg #[.slice none 0 0, .slice none 0 0], .int .i64 x])) w' := by
  subst h; exact ⟨none, 0, none, 0, rfl, Nat.le_refl _, Nat.le_refl _, Kd.C_nil _ _, Kd.C_nil _ _, hb⟩
theorem some_arr {p : Arr × Int} {s : List Int} {cs : List T.Cell} {x : Int} {A0 A1 : Option Addr} {c0 c1 : Nat} {w w' : World} (h : p = (⟨s, cs⟩, x)) (l0 : s.length ≤ c0) (l1 : cs.length ≤ c1) (g0 : Cint w' A0 s) (g1 : CC w' A1 cs) (hb : Below w.heap.size w w') : SomeArr p w (.returned (.tuple #[.agg #[.slice A0 s.length c0, .slice A1 cs.length c1], .int .i64 x])) w' := by
  subst h; exact ⟨A0, c0, A1, c1, rfl, l0, l1, g0, g1, hb⟩
/-- A row of numbers stays where a cell is written that holds a slice. -/
theorem Cint_set {W : World} {A : Option Addr} {s : List Int} {p : Addr} {a : Option Addr} {n c : Nat} (h : Cint W A s) (hp : W.cell? p = some (.slice a n c)) (u : Value) : Cint (W.setCell p u) A s := by
  obtain ⟨h1, h2, h3⟩ := h
  refine ⟨h1, h2, fun hn => ?_⟩
  obtain ⟨ad, e, hc⟩ := h3 hn
  refine ⟨ad, e, fun j q hj => ?_⟩
  obtain ⟨cc, l, hk, hcell⟩ := hc j q hj
  obtain rfl : cc = [.int .i64 q] := hk
  refine ⟨_, l, rfl, fun i v hv => ?_⟩
  have h5 := hcell i v hv
  refine (World.cell?_setCell_other _ _ _ _ (fun he => ?_)).trans h5
  rw [← he, hp] at h5
  injection h5 with h5
  cases i with
  | zero => simp at hv; rw [← hv] at h5; cases h5
  | succ i => simp at hv
theorem pair_turn (op op' k n l m : Int) (h : (op' = op ∧ (op = 21 ∨ op = 23 ∨ op = 24 ∨ op = 25 ∨ op = 27 ∨ op = 28)) ∨ (op = 29 ∧ op' = 30) ∨ (op = 30 ∧ op' = 29) ∨ (op = 31 ∧ op' = 32) ∨ (op = 32 ∧ op' = 31)) : T.dyC op k n l m = T.dyC op' l m k n := by
  rcases h with ⟨rfl, rfl | rfl | rfl | rfl | rfl | rfl⟩ | ⟨rfl, rfl⟩ | ⟨rfl, rfl⟩ | ⟨rfl, rfl⟩ | ⟨rfl, rfl⟩
  all_goals unfold T.dyC
  · simp [or_comm, T.arith, Int.add_comm]
  · simp [or_comm, T.arith, Int.mul_comm]
  · simp [or_comm, T.arith, Int.min_comm]
  · simp [or_comm, T.arith, Int.max_comm]
  · simp [or_comm, eq_comm]
  · simp [or_comm, eq_comm]
  all_goals simp [or_comm, T.arith]
theorem agree_turn (s t : List Int) : T.agree s t = T.agree t s ∨ (T.agree s t = T.agree t s) := by
  left
  unfold T.agree
  by_cases h1 : s.length = 0
  · by_cases h2 : t.length = 0
    · have e1 := List.eq_nil_of_length_eq_zero h1
      have e2 := List.eq_nil_of_length_eq_zero h2
      subst e1 e2; rfl
    · simp [h1, h2]
  · by_cases h2 : t.length = 0
    · simp [h1, h2]
    · by_cases h3 : s.length = t.length
      · by_cases h4 : s = t
        · subst h4; rfl
        · have h5 : ¬ t = s := fun e => h4 e.symm
          simp [h1, h2, h3, h4, h5]
      · have h6 : ¬ t.length = s.length := fun e => h3 e.symm
        simp [h1, h2, h3, h6]
theorem cell_lt {W : World} {a : Addr} {v : Value} (h : W.cell? a = some v) : a.block < W.heap.size := by
  rcases Nat.lt_or_ge a.block W.heap.size with h' | h'
  · exact h'
  · simp [World.cell?, Array.getElem?_eq_none h'] at h
theorem cell_set {W : World} {p q : Addr} {u v : Value} (h : W.cell? q = some v) (hn : p.block ≠ q.block) : (W.setCell p u).cell? q = some v := (World.cell?_setCell_other _ _ _ _ (fun e => hn (by rw [e]))).trans h
theorem cell_off {W : World} {p q : Addr} {u v : Value} (h : W.cell? q = some v) (hn : p.off ≠ q.off) : (W.setCell p u).cell? q = some v := (World.cell?_setCell_other _ _ _ _ (fun e => hn (by rw [e]))).trans h
/-- Three cells of a block are stored: what is there, what stays. -/
theorem set3 {W : World} {g : Nat} {a b c : Value} (a' b' c' : Value) (h0 : W.cell? ⟨g, 0, none⟩ = some a) (h1 : W.cell? ⟨g, 1, none⟩ = some b) (h2 : W.cell? ⟨g, 2, none⟩ = some c) :
    (((W.setCell ⟨g, 0, none⟩ a').setCell ⟨g, 1, none⟩ b').setCell ⟨g, 2, none⟩ c').cell? ⟨g, 0, none⟩ = some a' ∧ (((W.setCell ⟨g, 0, none⟩ a').setCell ⟨g, 1, none⟩ b').setCell ⟨g, 2, none⟩ c').cell? ⟨g, 1, none⟩ = some b' ∧ (((W.setCell ⟨g, 0, none⟩ a').setCell ⟨g, 1, none⟩ b').setCell ⟨g, 2, none⟩ c').cell? ⟨g, 2, none⟩ = some c' ∧
    (∀ (x : Addr) (v : Value), x.block ≠ g → W.cell? x = some v → (((W.setCell ⟨g, 0, none⟩ a').setCell ⟨g, 1, none⟩ b').setCell ⟨g, 2, none⟩ c').cell? x = some v) ∧
    (∀ x, (((W.setCell ⟨g, 0, none⟩ a').setCell ⟨g, 1, none⟩ b').setCell ⟨g, 2, none⟩ c').frozen? x = W.frozen? x) ∧
    (((W.setCell ⟨g, 0, none⟩ a').setCell ⟨g, 1, none⟩ b').setCell ⟨g, 2, none⟩ c').heap.size = W.heap.size ∧
    (∀ (B : Nat) (w : World), B ≤ g → Below B w W → Below B w (((W.setCell ⟨g, 0, none⟩ a').setCell ⟨g, 1, none⟩ b').setCell ⟨g, 2, none⟩ c')) := by
  have k0 := World.cell?_setCell_same W _ a' h0
  have k1 := World.cell?_setCell_same (W.setCell ⟨g, 0, none⟩ a') _ b' (cell_off h1 (by simp))
  have k2 := World.cell?_setCell_same ((W.setCell ⟨g, 0, none⟩ a').setCell ⟨g, 1, none⟩ b') _ c' (cell_off (cell_off h2 (by simp)) (by simp))
  refine ⟨cell_off (cell_off k0 (by simp)) (by simp), cell_off k1 (by simp), k2, fun x v hx h => ?_, fun x => ?_, by simp, fun B w hB h => ?_⟩
  · exact cell_set (cell_set (cell_set h (fun e => hx e.symm)) (fun e => hx e.symm)) (fun e => hx e.symm)
  · rw [World.frozen?_setCell, World.frozen?_setCell, World.frozen?_setCell]
  · repeat (refine Below.setCell ?_ hB _)
    exact h
theorem same_count {a b : Arr} (ha : chk 8 a = 0) (hb : chk 8 b = 0) (h : (T.agree a.shape b.shape).2 = 0) (h1 : a.shape.length ≠ 0) (h2 : b.shape.length ≠ 0) : a.cells.length = b.cells.length := by
  rcases agree_ok h with ⟨e, _⟩ | ⟨_, e, _⟩ | ⟨_, _, e, _⟩
  · exact absurd e h1
  · exact absurd e h2
  · have p := (chk_ok.1 ha).2.1
    have q := (chk_ok.1 hb).2.1
    rw [e] at p
    omega
/-- The cell beside, in each of the two ways. -/
theorem beside_atom {a : Arr} {i : Nat} (h : a.shape.length = 0) : T.beside a i = a.cells.getD 0 zc := if_pos h
theorem beside_at {a : Arr} {i : Nat} (h : a.shape.length ≠ 0) : T.beside a i = a.cells.getD i zc := if_neg h
end Go.Proofs.Ytdfijdajkdkkfaa
