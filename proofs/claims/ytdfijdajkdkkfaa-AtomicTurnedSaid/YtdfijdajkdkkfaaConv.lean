/-
  The printed arrays (S25, S33) and the plain ones (T.Arr, T.Cell): one is read where the other is.
-/
import Derived.Test.YtdfijdajkdkkfaaXU0
import Derived.Test.YtdfijdajkdkkfaaW7
set_option linter.unusedVariables false
set_option linter.unusedSimpArgs false
namespace Go.Proofs.Ytdfijdajkdkkfaa
open Go.RowKit Go.Proofs.YtdfijdajkdkkfaaW.PrintWords
open T
open XU (S25 S33 S33G k25 k33 F25 kc33 sz25)
mutual
def T.ofA : S25 → T.Arr
  | ⟨s, cs⟩ => ⟨s, T.ofL cs⟩
def T.ofL : List (S33G S25) → List T.Cell
  | [] => []
  | c :: cs => T.ofC c :: T.ofL cs
def T.ofC : S33G S25 → T.Cell
  | ⟨k, n, b⟩ => ⟨k, n, T.ofB b⟩
def T.ofB : List S25 → List T.Arr
  | [] => []
  | b :: bs => T.ofA b :: T.ofB bs
end
mutual
def T.toA : T.Arr → S25
  | ⟨s, cs⟩ => ⟨s, T.toL cs⟩
def T.toL : List T.Cell → List (S33G S25)
  | [] => []
  | c :: cs => T.toC c :: T.toL cs
def T.toC : T.Cell → S33G S25
  | ⟨k, n, b⟩ => ⟨k, n, T.toB b⟩
def T.toB : List T.Arr → List S25
  | [] => []
  | b :: bs => T.toA b :: T.toB bs
end
mutual
theorem ofA_toA : ∀ a, T.ofA (T.toA a) = a
  | ⟨s, cs⟩ => by simp [T.toA, T.ofA, ofL_toL cs]
theorem ofL_toL : ∀ a, T.ofL (T.toL a) = a
  | [] => by simp [T.toL, T.ofL]
  | c :: cs => by simp [T.toL, T.ofL, ofC_toC c, ofL_toL cs]
theorem ofC_toC : ∀ a, T.ofC (T.toC a) = a
  | ⟨k, n, b⟩ => by simp [T.toC, T.ofC, ofB_toB b]
theorem ofB_toB : ∀ a, T.ofB (T.toB a) = a
  | [] => by simp [T.toB, T.ofB]
  | b :: bs => by simp [T.toB, T.ofB, ofA_toA b, ofB_toB bs]
end
mutual
theorem toA_ofA : ∀ a, T.toA (T.ofA a) = a
  | ⟨s, cs⟩ => by simp [T.toA, T.ofA, toL_ofL cs]
theorem toL_ofL : ∀ a, T.toL (T.ofL a) = a
  | [] => by simp [T.toL, T.ofL]
  | c :: cs => by simp [T.toL, T.ofL, toC_ofC c, toL_ofL cs]
theorem toC_ofC : ∀ a, T.toC (T.ofC a) = a
  | ⟨k, n, b⟩ => by simp [T.toC, T.ofC, toB_ofB b]
theorem toB_ofB : ∀ a, T.toB (T.ofB a) = a
  | [] => by simp [T.toB, T.ofB]
  | b :: bs => by simp [T.toB, T.ofB, toA_ofA b, toB_ofB bs]
end
theorem ofL_map : ∀ l, T.ofL l = l.map T.ofC
  | [] => by simp [T.ofL]
  | c :: cs => by simp [T.ofL, ofL_map cs]
theorem ofB_map : ∀ l, T.ofB l = l.map T.ofA
  | [] => by simp [T.ofB]
  | c :: cs => by simp [T.ofB, ofB_map cs]
theorem toL_map : ∀ l, T.toL l = l.map T.toC
  | [] => by simp [T.toL]
  | c :: cs => by simp [T.toL, toL_map cs]
theorem toB_map : ∀ l, T.toB l = l.map T.toA
  | [] => by simp [T.toB]
  | c :: cs => by simp [T.toB, toB_map cs]
@[simp] theorem ofL_length (l : List (S33G S25)) : (T.ofL l).length = l.length := by rw [ofL_map, List.length_map]
@[simp] theorem ofB_length (l : List S25) : (T.ofB l).length = l.length := by rw [ofB_map, List.length_map]
@[simp] theorem toL_length (l : List T.Cell) : (T.toL l).length = l.length := by rw [toL_map, List.length_map]
@[simp] theorem toB_length (l : List T.Arr) : (T.toB l).length = l.length := by rw [toB_map, List.length_map]
theorem ofA_eq (x : S25) : T.ofA x = ⟨x.f0, T.ofL x.f1⟩ := by cases x; simp [T.ofA]
theorem ofC_eq (x : S33) : T.ofC x = ⟨x.f0, x.f1, T.ofB x.f2⟩ := by cases x; simp [T.ofC]
theorem toA_eq (x : T.Arr) : T.toA x = ⟨x.shape, T.toL x.cells⟩ := by cases x; simp [T.toA]
theorem toC_eq (x : T.Cell) : T.toC x = ⟨x.kind, x.n, T.toB x.box⟩ := by cases x; simp [T.toC]
theorem Kd.C_map {α β : Type} {d : Kd α} {d' : Kd β} (f : α → β) {w : World} {A : Option Addr} {n : Nat} {xs : List α} (hs : d.sz = d'.sz) (hK : ∀ x c, d.K w x c → d'.K w (f x) c) (h : d.C w A n xs) : d'.C w A n (xs.map f) := by
  obtain ⟨h1, h2, h3⟩ := h
  refine ⟨by simpa using h1, h2, fun hn => ?_⟩
  obtain ⟨ad, e, hc⟩ := h3 hn
  refine ⟨ad, e, fun j p hj => ?_⟩
  rw [List.getElem?_map] at hj
  cases hq : xs[j]? with
  | none => rw [hq] at hj; simp at hj
  | some q =>
    rw [hq] at hj
    simp only [Option.map_some, Option.some.injEq] at hj
    obtain ⟨c, l, k, hcell⟩ := hc j q hq
    exact ⟨c, by rw [← hs]; exact l, by rw [← hj]; exact hK q c k, fun i u hu => by rw [← hs]; exact hcell i u hu⟩
theorem upto_of : ∀ n (w : World) (x : S25) (cs : List Value), (Kd.upto F25 2 [3, 25, 33] n).K w x cs → kA.K w (T.ofA x) cs
  | 0, _, _, _, h => h.elim
  | n + 1, w, x, cs, h => by
    obtain ⟨c0, c1, rfl, ⟨A0, d0, rfl, l0, g0⟩, A1, d1, rfl, l1, g1⟩ := h
    rw [ofA_eq]
    have h2 := kA_mk (w := w) (a := ⟨x.f0, T.ofL x.f1⟩) (A0 := A0) (A1 := A1) (c0 := d0) (c1 := d1) l0 (by simpa using l1) g0 (by
      rw [Arr.cells_mk, ofL_map]
      unfold CC; rw [List.length_map]
      have h3 := Kd.C_map (d := kc33 (Kd.upto F25 2 [3, 25, 33] n)) (d' := kC) T.ofC rfl (fun c v hk => by
        obtain ⟨_, _, rfl, rfl, _, _, rfl, rfl, A, d, rfl, l, g⟩ := hk
        rw [ofC_eq]
        have h4 := kC_mk (w := w) (c := ⟨c.f0, c.f1, T.ofB c.f2⟩) (A := A) (d := d) (by simpa using l) (by
          rw [Cell.box_mk, ofB_map]
          have h5 := Kd.C_map (d' := kA) T.ofA (sz25 n) (fun b v hk => upto_of n w b v hk) g
          unfold CA; rw [List.length_map]; exact h5)
        simpa using h4) g1
      exact h3)
    simpa using h2
theorem K_ofA {w : World} {x : S25} {cs : List Value} (h : k25.K w x cs) : kA.K w (T.ofA x) cs := by
  obtain ⟨n, h⟩ := h
  exact upto_of n w x cs h
theorem K_ofC {w : World} {x : S33} {cs : List Value} (h : k33.K w x cs) : kC.K w (T.ofC x) cs := by
  obtain ⟨A, d, rfl, l, g⟩ := XU.k33_open h
  rw [ofC_eq]
  have h4 := kC_mk (w := w) (c := ⟨x.f0, x.f1, T.ofB x.f2⟩) (A := A) (d := d) (by simpa using l) (by
    rw [Cell.box_mk, ofB_map]
    have h5 := Kd.C_map (d' := kA) T.ofA rfl (fun b v hk => K_ofA hk) g
    unfold CA; rw [List.length_map]; exact h5)
  simpa using h4
theorem C_ofL {w : World} {A : Option Addr} {n : Nat} {xs : List S33} (h : k33.C w A n xs) : kC.C w A n (T.ofL xs) := by
  rw [ofL_map]; exact Kd.C_map T.ofC rfl (fun _ _ hk => K_ofC hk) h
theorem CC_of {w : World} {A : Option Addr} {xs : List S33} (h : k33.C w A xs.length xs) : CC w A (T.ofL xs) := by
  have := C_ofL h
  unfold CC; rw [ofL_length]; exact this
theorem C_ofB {w : World} {A : Option Addr} {n : Nat} {xs : List S25} (h : k25.C w A n xs) : kA.C w A n (T.ofB xs) := by
  rw [ofB_map]; exact Kd.C_map T.ofA rfl (fun _ _ hk => K_ofA hk) h
theorem upto_to : ∀ n (w : World) (x : T.Arr) (cs : List Value), (Kd.upto FA 2 [3, 25, 33] n).K w x cs → k25.K w (T.toA x) cs
  | 0, _, _, _, h => h.elim
  | n + 1, w, x, cs, h => by
    obtain ⟨c0, c1, rfl, ⟨A0, d0, rfl, l0, g0⟩, A1, d1, rfl, l1, g1⟩ := h
    rw [toA_eq]
    have h2 := XU.k25_mk w ⟨x.shape, T.toL x.cells⟩ (A0 := A0) (A1 := A1) (c0 := d0) (c1 := d1) l0 g0 (by simpa using l1) (by
      show k33.C w A1 (T.toL x.cells).length (T.toL x.cells)
      rw [toL_map]
      have h3 := Kd.C_map (d := kc (Kd.upto FA 2 [3, 25, 33] n)) (d' := k33) T.toC rfl (fun c v hk => by
        obtain ⟨_, _, rfl, rfl, _, _, rfl, rfl, A, d, rfl, l, g⟩ := hk
        rw [toC_eq]
        have h4 := XU.k33_mk w ⟨c.kind, c.n, T.toB c.box⟩ (A2 := A) (c2 := d) (by simpa using l) (by
          show k25.C w A (T.toB c.box).length (T.toB c.box)
          rw [toB_map]
          have h5 := Kd.C_map (d' := k25) T.toA (sz_A n) (fun b v hk => upto_to n w b v hk) g
          simpa using h5)
        simpa using h4) g1
      simpa using h3)
    simpa using h2
theorem K_toA {w : World} {x : T.Arr} {cs : List Value} (h : kA.K w x cs) : k25.K w (T.toA x) cs := by
  obtain ⟨n, h⟩ := h
  exact upto_to n w x cs h
theorem K_toC {w : World} {x : T.Cell} {cs : List Value} (h : kC.K w x cs) : k33.K w (T.toC x) cs := by
  obtain ⟨A, d, rfl, l, g⟩ := kC_open h
  rw [toC_eq]
  have h4 := XU.k33_mk w ⟨x.kind, x.n, T.toB x.box⟩ (A2 := A) (c2 := d) (by simpa using l) (by
    show k25.C w A (T.toB x.box).length (T.toB x.box)
    rw [toB_map]
    have h5 := Kd.C_map (d' := k25) T.toA rfl (fun b v hk => K_toA hk) g
    simpa using h5)
  simpa using h4
theorem C_toL {w : World} {A : Option Addr} {n : Nat} {xs : List T.Cell} (h : kC.C w A n xs) : k33.C w A n (T.toL xs) := by
  rw [toL_map]; exact Kd.C_map T.toC rfl (fun _ _ hk => K_toC hk) h
theorem C_toB {w : World} {A : Option Addr} {n : Nat} {xs : List T.Arr} (h : kA.C w A n xs) : k25.C w A n (T.toB xs) := by
  rw [toB_map]; exact Kd.C_map T.toA rfl (fun _ _ hk => K_toA hk) h
end Go.Proofs.Ytdfijdajkdkkfaa
