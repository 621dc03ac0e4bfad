/-
  The arrays and programs as plain Lean data, and what the program's functions answer as plain Lean functions: no Go, no memory.
-/
namespace Go.Proofs.Ytdfijdajkdkkfaa
namespace T
mutual
inductive Arr where
  | mk (shape : List Int) (cells : List Cell)
inductive Cell where
  | mk (kind n : Int) (box : List Arr)
end
namespace Arr
def shape : Arr → List Int | ⟨s, _⟩ => s
def cells : Arr → List Cell | ⟨_, c⟩ => c
@[simp] theorem shape_mk (s : List Int) (c : List Cell) : (Arr.mk s c).shape = s := rfl
@[simp] theorem cells_mk (s : List Int) (c : List Cell) : (Arr.mk s c).cells = c := rfl
theorem eta : ∀ a : Arr, Arr.mk a.shape a.cells = a | ⟨_, _⟩ => rfl
end Arr
namespace Cell
def kind : Cell → Int | ⟨k, _, _⟩ => k
def n : Cell → Int | ⟨_, n, _⟩ => n
def box : Cell → List Arr | ⟨_, _, b⟩ => b
@[simp] theorem kind_mk (k m : Int) (b : List Arr) : (Cell.mk k m b).kind = k := rfl
@[simp] theorem n_mk (k m : Int) (b : List Arr) : (Cell.mk k m b).n = m := rfl
@[simp] theorem box_mk (k m : Int) (b : List Arr) : (Cell.mk k m b).box = b := rfl
theorem eta : ∀ a : Cell, Cell.mk a.kind a.n a.box = a | ⟨_, _, _⟩ => rfl
end Cell
def za : Arr := ⟨[], []⟩
def zc : Cell := ⟨0, 0, []⟩
instance : Inhabited Arr := ⟨za⟩
instance : Inhabited Cell := ⟨zc⟩
theorem cells_size (a : Arr) : sizeOf a.cells < sizeOf a := by cases a; simp only [Arr.cells_mk, Arr.mk.sizeOf_spec]; omega
theorem box_size (c : Cell) : sizeOf c.box < sizeOf c := by cases c; simp only [Cell.box_mk, Cell.mk.sizeOf_spec]; omega
theorem getD_size {α : Type} [SizeOf α] {l : List α} {i : Nat} {d : α} (h : i < l.length) : sizeOf (l.getD i d) < sizeOf l := by
  rw [List.getD_eq_getElem?_getD, List.getElem?_eq_getElem h]
  exact List.sizeOf_lt_of_mem (List.getElem_mem h)

theorem take_snoc {α : Type} {l : List α} {k : Nat} (d : α) (h : k < l.length) : l.take (k + 1) = l.take k ++ [l.getD k d] := by
  rw [List.take_succ_eq_append_getElem h, List.getD_eq_getElem?_getD, List.getElem?_eq_getElem h]; rfl
theorem drop_cons {α : Type} {l : List α} {k : Nat} (d : α) (h : k < l.length) : l.drop k = l.getD k d :: l.drop (k + 1) := by
  rw [List.drop_eq_getElem_cons h, List.getD_eq_getElem?_getD, List.getElem?_eq_getElem h]; rfl
theorem getD_mem {α : Type} {l : List α} {k : Nat} (d : α) (h : k < l.length) : l.getD k d ∈ l := by
  rw [List.getD_eq_getElem?_getD, List.getElem?_eq_getElem h]; exact List.getElem_mem h
/-! ### order -/
def ord (a b : Int) : Int := if a < b then -1 else if b < a then 1 else 0
theorem ord_range (a b : Int) : -1 ≤ ord a b ∧ ord a b ≤ 1 := by unfold ord; (repeat' split) <;> omega
theorem ord_zero {a b : Int} : ord a b = 0 ↔ a = b := by unfold ord; constructor <;> intro h <;> (repeat' split at *) <;> omega
theorem ord_self (a : Int) : ord a a = 0 := ord_zero.2 rfl
def cmpS : List Int → List Int → Int
  | x :: xs, y :: ys => if ord x y ≠ 0 then ord x y else cmpS xs ys
  | _, _ => 0
mutual
def cmpA : Arr → Arr → Int
  | ⟨s, cs⟩, ⟨t, ds⟩ => if ord s.length t.length ≠ 0 then ord s.length t.length else if cmpS s t ≠ 0 then cmpS s t else if cmpL cs ds ≠ 0 then cmpL cs ds else ord cs.length ds.length
def cmpL : List Cell → List Cell → Int
  | c :: cs, d :: ds => if cmpC c d ≠ 0 then cmpC c d else cmpL cs ds
  | [], _ => 0
  | _ :: _, [] => 0
def cmpC : Cell → Cell → Int
  | ⟨k, n, b⟩, ⟨l, m, c⟩ => if ord k l ≠ 0 then ord k l else if ord n m ≠ 0 then ord n m else cmpB b c
def cmpB : List Arr → List Arr → Int
  | a :: _, b :: _ => cmpA a b
  | [], c => ord 0 c.length
  | b :: bs, [] => ord (b :: bs).length 0
end
theorem cmpS_self : ∀ s, cmpS s s = 0
  | [] => rfl
  | x :: xs => by simp [cmpS, ord_self, cmpS_self xs]
mutual
theorem cmpA_self : ∀ a, cmpA a a = 0
  | ⟨s, cs⟩ => by simp [cmpA, ord_self, cmpS_self, cmpL_self cs]
theorem cmpL_self : ∀ a, cmpL a a = 0
  | [] => by simp [cmpL]
  | c :: cs => by simp [cmpL, cmpC_self c, cmpL_self cs]
theorem cmpC_self : ∀ a, cmpC a a = 0
  | ⟨k, n, b⟩ => by simp [cmpC, ord_self, cmpB_self b]
theorem cmpB_self : ∀ a, cmpB a a = 0
  | [] => by simp [cmpB, ord_self]
  | b :: bs => by simp [cmpB, cmpA_self b]
end
theorem cmpS_range : ∀ s t, -1 ≤ cmpS s t ∧ cmpS s t ≤ 1
  | [], _ => by simp [cmpS]
  | _ :: _, [] => by simp [cmpS]
  | x :: xs, y :: ys => by
    unfold cmpS
    split
    · exact ord_range _ _
    · exact cmpS_range xs ys
mutual
theorem cmpA_range : ∀ a b, -1 ≤ cmpA a b ∧ cmpA a b ≤ 1
  | ⟨s, cs⟩, ⟨t, ds⟩ => by
    unfold cmpA
    split
    · exact ord_range _ _
    split
    · exact cmpS_range _ _
    split
    · exact cmpL_range cs ds
    · exact ord_range _ _
theorem cmpL_range : ∀ a b, -1 ≤ cmpL a b ∧ cmpL a b ≤ 1
  | [], _ => by simp [cmpL]
  | _ :: _, [] => by simp [cmpL]
  | c :: cs, d :: ds => by
    unfold cmpL
    split
    · exact cmpC_range c d
    · exact cmpL_range cs ds
theorem cmpC_range : ∀ a b, -1 ≤ cmpC a b ∧ cmpC a b ≤ 1
  | ⟨k, n, b⟩, ⟨l, m, c⟩ => by
    unfold cmpC
    split
    · exact ord_range _ _
    split
    · exact ord_range _ _
    · exact cmpB_range b c
theorem cmpB_range : ∀ a b, -1 ≤ cmpB a b ∧ cmpB a b ≤ 1
  | [], c => by unfold cmpB; exact ord_range _ _
  | b :: bs, [] => by unfold cmpB; exact ord_range _ _
  | b :: bs, c :: cs => by unfold cmpB; exact cmpA_range b c
end

/-! ### which may be -/
def good (n : Int) : Bool := decide (0 ≤ n) && (decide (n ≤ 1114111) && (decide (n < 55296) || decide (57343 < n)))
def sizeGo : List Int → Int → Int × Int
  | [], n => (n, 0)
  | d :: ds, n => if 16384 < n * d then (0, 12) else sizeGo ds (n * d)
def size (s : List Int) : Int × Int :=
  if 8 < s.length then (0, 6) else if s.any (fun d => decide (d < 0)) = true then (0, 1) else if s.any (fun d => decide (d = 0)) = true then (0, 0) else sizeGo s 1
theorem size_long {s : List Int} (h : 8 < s.length) : size s = (0, 6) := by simp [size, h]
theorem size_neg {s : List Int} (h : ¬ 8 < s.length) {k : Nat} (hk : k < s.length) (hx : s.getD k 0 < 0) : size s = (0, 1) := by
  have : s.any (fun d => decide (d < 0)) = true := List.any_eq_true.2 ⟨_, getD_mem 0 hk, by simpa using hx⟩
  simp [size, h, this]
theorem size_none {s : List Int} (h : ¬ 8 < s.length) (h1 : s.any (fun d => decide (d < 0)) = false) (h2 : s.any (fun d => decide (d = 0)) = true) : size s = (0, 0) := by
  simp [size, h, h1, h2]
theorem size_go {s : List Int} (h : ¬ 8 < s.length) (h1 : s.any (fun d => decide (d < 0)) = false) (h2 : s.any (fun d => decide (d = 0)) = false) : size s = sizeGo s 1 := by
  simp [size, h, h1, h2]
theorem sizeGo_at {s : List Int} {k : Nat} {m : Int} (hk : k < s.length) : sizeGo (s.drop k) m = if 16384 < m * s.getD k 0 then (0, 12) else sizeGo (s.drop (k + 1)) (m * s.getD k 0) := by
  rw [drop_cons 0 hk, sizeGo]
theorem pos_of {s : List Int} (h1 : s.any (fun d => decide (d < 0)) = false) (h2 : s.any (fun d => decide (d = 0)) = false) {k : Nat} (hk : k < s.length) : 1 ≤ s.getD k 0 := by
  have a := List.any_eq_false.1 h1 _ (getD_mem 0 hk)
  have b := List.any_eq_false.1 h2 _ (getD_mem 0 hk)
  simp only [decide_eq_true_eq] at a b
  omega
theorem take_any {s : List Int} {k : Nat} (p : Int → Bool) (hk : k < s.length) : (s.take (k + 1)).any p = ((s.take k).any p || p (s.getD k 0)) := by
  rw [take_snoc 0 hk, List.any_append]; simp
mutual
def chk (l : Nat) : Arr → Int
  | ⟨s, cs⟩ => if (size s).2 ≠ 0 then (size s).2 else if (size s).1 ≠ (cs.length : Int) then 1 else if s.any (fun d => decide (16384 < d)) = true then 12 else chkL l cs
def chkL (l : Nat) : List Cell → Int
  | [] => 0
  | c :: cs => if chkC l c ≠ 0 then chkC l c else chkL l cs
def chkC (l : Nat) : Cell → Int
  | ⟨k, n, b⟩ => if k = 2 ∧ n = 0 ∧ b.length = 1 then (if l = 0 then 15 else chkB (l - 1) b) else if b.length = 0 ∧ (k = 0 ∨ k = 1 ∧ good n = true) then 0 else 1
def chkB (l : Nat) : List Arr → Int
  | [] => 0
  | b :: _ => chk l b
end
mutual
def deepA : Arr → Int
  | ⟨_, cs⟩ => deepL cs
def deepL : List Cell → Int
  | [] => 0
  | c :: cs => max (deepC c) (deepL cs)
def deepC : Cell → Int
  | ⟨_, _, b⟩ => deepB b
def deepB : List Arr → Int
  | [] => 0
  | b :: _ => 1 + deepA b
end
mutual
/-- How many cells and axes there are in all, and boxes. -/
def tot : Arr → Nat
  | ⟨s, cs⟩ => s.length + cs.length + totL cs
def totL : List Cell → Nat
  | [] => 0
  | c :: cs => totC c + totL cs
def totC : Cell → Nat
  | ⟨_, _, b⟩ => totB b
def totB : List Arr → Nat
  | [] => 0
  | b :: bs => 1 + tot b + totB bs
end
theorem chkL_at {l : Nat} {cs : List Cell} {k : Nat} (hk : k < cs.length) : chkL l (cs.drop k) = if chkC l (cs.getD k zc) ≠ 0 then chkC l (cs.getD k zc) else chkL l (cs.drop (k + 1)) := by
  rw [drop_cons zc hk, chkL]
theorem chkL_end {l : Nat} {cs : List Cell} {k : Nat} (hk : cs.length ≤ k) : chkL l (cs.drop k) = 0 := by
  rw [List.drop_of_length_le hk, chkL]
theorem any_of {s : List Int} {k : Nat} (hk : k < s.length) (h : 16384 < s.getD k 0) : s.any (fun d => decide (16384 < d)) = true := List.any_eq_true.2 ⟨_, getD_mem 0 hk, by simpa using h⟩
/-! ### what fits a machine -/
def in64 (n : Int) : Prop := -9223372036854775808 ≤ n ∧ n ≤ 9223372036854775807
mutual
def wfA : Arr → Prop
  | ⟨s, cs⟩ => s.length ≤ 17592186044416 ∧ (∀ d ∈ s, in64 d) ∧ cs.length ≤ 17592186044416 ∧ wfL cs
def wfL : List Cell → Prop
  | [] => True
  | c :: cs => wfC c ∧ wfL cs
def wfC : Cell → Prop
  | ⟨k, n, b⟩ => in64 k ∧ in64 n ∧ b.length ≤ 17592186044416 ∧ wfB b
def wfB : List Arr → Prop
  | [] => True
  | b :: bs => wfA b ∧ wfB bs
end
theorem wfL_iff : ∀ {cs : List Cell}, wfL cs ↔ ∀ c ∈ cs, wfC c
  | [] => by simp [wfL]
  | c :: cs => by simp [wfL, wfL_iff]
theorem wfB_iff : ∀ {bs : List Arr}, wfB bs ↔ ∀ b ∈ bs, wfA b
  | [] => by simp [wfB]
  | b :: bs => by simp [wfB, wfB_iff]
theorem wfA_iff {a : Arr} : wfA a ↔ a.shape.length ≤ 17592186044416 ∧ (∀ d ∈ a.shape, in64 d) ∧ a.cells.length ≤ 17592186044416 ∧ ∀ c ∈ a.cells, wfC c := by
  cases a; simp only [wfA, wfL_iff, Arr.shape_mk, Arr.cells_mk]
theorem wfC_iff {c : Cell} : wfC c ↔ in64 c.kind ∧ in64 c.n ∧ c.box.length ≤ 17592186044416 ∧ ∀ b ∈ c.box, wfA b := by
  cases c; simp only [wfC, wfB_iff, Cell.kind_mk, Cell.n_mk, Cell.box_mk]
theorem totL_at {cs : List Cell} {k : Nat} (hk : k < cs.length) : totL (cs.drop k) = totB (cs.getD k zc).box + totL (cs.drop (k + 1)) := by
  rw [drop_cons zc hk, totL]
  cases cs.getD k zc; rfl
theorem totB_at {bs : List Arr} {k : Nat} (hk : k < bs.length) : totB (bs.drop k) = 1 + tot (bs.getD k za) + totB (bs.drop (k + 1)) := by
  rw [drop_cons za hk, totB]
theorem tot_eq (a : Arr) : tot a = a.shape.length + a.cells.length + totL a.cells := by cases a; rfl
end T
end Go.Proofs.Ytdfijdajkdkkfaa
