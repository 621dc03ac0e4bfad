/-
  An argument that can be read as data is an array of the plain model, and fits a machine.
-/
import Derived.Test.YtdfijdajkdkkfaaKinds
import Derived.Test.YtdfijdajkdkkfaaPure2
import Derived.ChangeArms
import Derived.DataReads
import Derived.SizedLaws
import Derived.Deep.Slices
set_option linter.unusedVariables false
set_option linter.unusedSimpArgs false
namespace Go.Proofs.Ytdfijdajkdkkfaa
open Go.RowKit Go.Proofs.YtdfijdajkdkkfaaW.PrintWords
open T
theorem exists_list {α : Type} (P : Nat → α → Prop) : ∀ n, (∀ i, i < n → ∃ p, P i p) → ∃ xs : List α, xs.length = n ∧ ∀ i p, xs[i]? = some p → P i p
  | 0, _ => ⟨[], rfl, fun i p h => by simp at h⟩
  | n + 1, h => by
    obtain ⟨xs, hl, hp⟩ := exists_list P n (fun i hi => h i (by omega))
    obtain ⟨q, hq⟩ := h n (by omega)
    refine ⟨xs ++ [q], by simp [hl], fun i p hi => ?_⟩
    rcases Nat.lt_or_ge i n with hlt | hge
    · rw [List.getElem?_append_left (by omega)] at hi
      exact hp i p hi
    · rw [List.getElem?_append_right (by omega), hl] at hi
      have hi0 : i = n := by
        have := (List.getElem?_eq_some_iff.1 hi).1
        simp at this
        omega
      subst hi0
      simp at hi
      rw [← hi]
      exact hq
theorem add_of_add (a : Addr) (i j : Nat) : (a.add i).add j = a.add (i + j) := by
  unfold Addr.add
  by_cases hi : i = 0 <;> by_cases hj : j = 0 <;> simp [hi, hj, Nat.add_assoc]
section
variable {H : Type} {enc : TypeId × Value → H} {W : World} {base : Nat} {spare : Nat → Bool} {held : Bool}
theorem read_slice {α : Type} {d : Kd α} {t e : TypeId} {B fuel : Nat} {cs : List Value} {x : DataW H × List MemPlace} (Wf : α → Prop) (ht : Try.prog.underlying t = some (.slice e)) (hsz : Try.prog.cellsOf e = d.sz) (hB : Try.prog.bytesOf e = B)
    (h : DataW.trod enc Try.prog W base spare held fuel t cs = some x) (hw : ∀ m ∈ x.1.weights Try.prog t, m ≤ reachBytes)
    (hel : ∀ n, n < fuel → ∀ cs x, DataW.trod enc Try.prog W base spare held n e cs = some x → (∀ m ∈ x.1.weights Try.prog e, m ≤ reachBytes) → ∃ p, d.K W p cs ∧ Wf p) :
    ∃ A c xs, cs = [.slice A xs.length c] ∧ xs.length ≤ c ∧ d.C W A xs.length xs ∧ xs.length * B ≤ reachBytes ∧ ∀ p ∈ xs, Wf p := by
  rcases DataW.trod_slice ht h with ⟨rfl, _⟩ | ⟨a, len, cap, elems, rest, n, rfl, rfl, rfl, hb, hl, hm, hlen, hget, _, _⟩
  · exact ⟨none, 0, [], rfl, Nat.le_refl _, Kd.C_nil _ _, by simp, fun p hp => by simp at hp⟩
  · simp only [DataW.weights, ht] at hw
    have h1 := hw _ List.mem_cons_self
    simp only [List.length_map, hB] at h1
    have hwa : ∀ (l : List (DataW H)) (y : DataW H), y ∈ l → ∀ m ∈ y.weights Try.prog e, m ∈ DataW.weightsAll Try.prog e l := by
      intro l
      induction l with
      | nil => intro y hy; simp at hy
      | cons z l ih =>
        intro y hy m hmm
        simp only [DataW.weightsAll, List.mem_append]
        rcases List.mem_cons.1 hy with rfl | hy
        · exact .inl hmm
        · exact .inr (ih y hy m hmm)
    have hex : ∀ i, i < len → ∃ p, (∃ c, c.length = d.sz ∧ d.K W p c ∧ ∀ j u, c[j]? = some u → W.cell? (a.add (i * d.sz + j)) = some u) ∧ Wf p := by
      intro i hi
      have hg := hget i hi
      rw [List.getElem?_eq_getElem (by omega)] at hg
      obtain ⟨c, hc, ht2⟩ := Option.bind_eq_some_iff.1 hg
      obtain ⟨p, hK, hW⟩ := hel n (by omega) c _ ht2 (fun m hmm => hw m (List.mem_cons_of_mem _ (List.mem_append_left _ (hwa _ _ (List.mem_map.2 ⟨_, List.getElem_mem (by omega), rfl⟩) m hmm))))
      obtain ⟨_, hcl, hcell⟩ := World.cells?_some hc
      refine ⟨p, ⟨c, hcl.trans hsz, hK, fun j u hu => ?_⟩, hW⟩
      have hj : j < c.length := (List.getElem?_eq_some_iff.1 hu).1
      rw [← hu, ← hcell j (by omega), add_of_add, hsz]
    obtain ⟨xs, hxl, hxp⟩ := exists_list _ len hex
    subst hxl
    refine ⟨some a, cap, xs, rfl, hl, ⟨rfl, by simp only [maxLen] at hm; omega, fun _ => ⟨a, rfl, fun j p hj => (hxp j p hj).1⟩⟩, ?_, fun p hp => ?_⟩
    · rw [hlen] at h1
      exact Nat.le_trans (Nat.mul_le_mul_right _ (Nat.le_add_right _ _)) h1
    · obtain ⟨i, hi, rfl⟩ := List.mem_iff_getElem.1 hp
      exact (hxp i _ (List.getElem?_eq_getElem hi)).2
theorem read_i64 {t : TypeId} {fuel : Nat} {cs : List Value} {x : DataW H × List MemPlace} (ht : Try.prog.underlying t = some (.int .i64)) (h : DataW.trod enc Try.prog W base spare held fuel t cs = some x) : ∃ n, (Kd.int .i64).K W n cs ∧ in64 n := by
  obtain ⟨n, rfl, _, hwf⟩ := DataW.trod_int ht h
  refine ⟨n, rfl, ?_⟩
  simp only [Lit.wf, Bool.and_eq_true, decide_eq_true_eq] at hwf
  exact ⟨hwf.1, hwf.2⟩
theorem weights_field {ts : List TypeId} {ys : List (DataW H × List MemPlace)} {j : Nat} {t : TypeId} {y : DataW H × List MemPlace} (ht : ts[j]? = some t) (hy : ys[j]? = some y) {m : Nat} (hm : m ∈ y.1.weights Try.prog t) : m ∈ DataW.weightsEach Try.prog ts (ys.map (·.1)) :=
  DataW.weights_mem_each ht (by rw [List.getElem?_map, hy]; rfl) m hm
theorem len2 {α : Type} {l : List α} (h : l.length = 2) : ∃ a b, l = [a, b] := by
  match l, h with
  | [a, b], _ => exact ⟨a, b, rfl⟩
theorem len3 {α : Type} {l : List α} (h : l.length = 3) : ∃ a b c, l = [a, b, c] := by
  match l, h with
  | [a, b, c], _ => exact ⟨a, b, c, rfl⟩
theorem cellsOf_arr : Try.prog.cellsOf 25 = 2 := by kernel_rfl
theorem cellsOf_cell : Try.prog.cellsOf 33 = 3 := by kernel_rfl
set_option maxRecDepth 100000 in
theorem read_both : ∀ fuel : Nat, (∀ cs (x : DataW H × List MemPlace), DataW.trod enc Try.prog W base spare held fuel 25 cs = some x → (∀ m ∈ x.1.weights Try.prog 25, m ≤ reachBytes) → ∃ a, kA.K W a cs ∧ wfA a) ∧
    (∀ cs (x : DataW H × List MemPlace), DataW.trod enc Try.prog W base spare held fuel 33 cs = some x → (∀ m ∈ x.1.weights Try.prog 33, m ≤ reachBytes) → ∃ c, kC.K W c cs ∧ wfC c) := by
  intro fuel
  induction fuel using Nat.strongRecOn with
  | _ fuel ih =>
    constructor
    · intro cs x h hw
      obtain ⟨ys, n, rfl, rfl, hcl, hyl, hf⟩ := DataW.trod_struct Try.underlying25 h
      have e0 := hf 0 _ rfl
      have e1 := hf 1 _ rfl
      have hyl2 : ys.length = 2 := hyl
      obtain ⟨y0, y1, rfl⟩ := len2 hyl2
      obtain ⟨v0, v1, rfl⟩ := len2 (hcl.trans cellsOf_arr)
      · · skip
          simp only [DataW.weights, Try.underlying25] at hw
          obtain ⟨A0, c0, s, he0, l0, g0, b0, q0⟩ := read_slice (d := Kd.int .i64) in64 (cs := [v0]) Try.underlying22 (by kernel_rfl) (B := 8) (by kernel_rfl) (by exact e0) (fun m hm => hw m (weights_field (ts := _) (j := 0) (by rfl) (by rfl) hm)) (fun n' _ cs x hx _ => read_i64 Try.underlying3 hx)
          obtain ⟨A1, c1, l, he1, l1, g1, b1, q1⟩ := read_slice (d := kC) wfC (cs := [v1]) Try.underlying23 (by kernel_rfl) (B := 40) (by kernel_rfl) (by exact e1) (fun m hm => hw m (weights_field (ts := _) (j := 1) (by rfl) (by rfl) hm)) (fun n' hn cs x hx hw' => (ih n' (by omega)).2 cs x hx hw')
          simp only [List.cons.injEq, and_true] at he0 he1
          subst he0; subst he1
          refine ⟨⟨s, l⟩, kA_mk (a := ⟨s, l⟩) l0 l1 g0 g1, wfA_iff.2 ⟨?_, q0, ?_, q1⟩⟩
          · simp only [Arr.shape_mk]; unfold reachBytes at b0; omega
          · simp only [Arr.cells_mk]; unfold reachBytes at b1; omega
    · intro cs x h hw
      obtain ⟨ys, n, rfl, rfl, hcl, hyl, hf⟩ := DataW.trod_struct Try.underlying33 h
      have e0 := hf 0 _ rfl
      have e1 := hf 1 _ rfl
      have e2 := hf 2 _ rfl
      have hyl2 : ys.length = 3 := hyl
      obtain ⟨y0, y1, y2, rfl⟩ := len3 hyl2
      obtain ⟨v0, v1, v2, rfl⟩ := len3 (hcl.trans cellsOf_cell)
      · · skip
          simp only [DataW.weights, Try.underlying33] at hw
          obtain ⟨k, hk, wk⟩ := read_i64 (W := W) (cs := [v0]) Try.underlying3 (by exact e0)
          obtain ⟨q, hq, wq⟩ := read_i64 (W := W) (cs := [v1]) Try.underlying2 (by exact e1)
          obtain ⟨A2, c2, b, he2, l2, g2, b2, q2⟩ := read_slice (d := kA) wfA (cs := [v2]) Try.underlying31 (by kernel_rfl) (B := 48) (by kernel_rfl) (by exact e2) (fun m hm => hw m (weights_field (ts := _) (j := 2) (by rfl) (by rfl) hm)) (fun n' hn cs x hx hw' => (ih n' (by omega)).1 cs x hx hw')
          have hk' : [v0] = [Value.int .i64 k] := hk
          have hq' : [v1] = [Value.int .i64 q] := hq
          simp only [List.cons.injEq, and_true] at hk' hq' he2
          subst hk'; subst hq'; subst he2
          refine ⟨⟨k, q, b⟩, kC_mk (c := ⟨k, q, b⟩) l2 g2, wfC_iff.2 ⟨wk, wq, ?_, q2⟩⟩
          simp only [Cell.box_mk]; unfold reachBytes at b2; omega
/-- An argument that is an array. -/
theorem read_arr {v : Value} {d : DataW H} {ps : List MemPlace} (h : DataW.Trod enc Try.prog W base spare held 25 v d ps) (hw : ∀ m ∈ d.weights Try.prog 25, m ≤ reachBytes) : ∃ a, kA.K W a v.cells.toList ∧ wfA a := by
  obtain ⟨fuel, hf⟩ := h
  exact (read_both fuel).1 _ _ hf hw
theorem read_cell {v : Value} {d : DataW H} {ps : List MemPlace} (h : DataW.Trod enc Try.prog W base spare held 33 v d ps) (hw : ∀ m ∈ d.weights Try.prog 33, m ≤ reachBytes) : ∃ a, kC.K W a v.cells.toList ∧ wfC a := by
  obtain ⟨fuel, hf⟩ := h
  exact (read_both fuel).2 _ _ hf hw
theorem read_ints {A : Option Addr} {n c : Nat} {d : DataW H} {ps : List MemPlace} (h : DataW.Trod enc Try.prog W base spare held 22 (.slice A n c) d ps) (hw : ∀ m ∈ d.weights Try.prog 22, m ≤ reachBytes) : ∃ a : List Int, n = a.length ∧ a.length ≤ c ∧ Cint W A a ∧ a.length ≤ 17592186044416 := by
  obtain ⟨fuel, hf⟩ := h
  obtain ⟨A0, c0, s, he0, l0, g0, b0, q0⟩ := read_slice (d := Kd.int .i64) in64 Try.underlying22 (by kernel_rfl) (B := 8) (by kernel_rfl) hf hw (fun n' _ cs x hx _ => read_i64 Try.underlying3 hx)
  simp only [Value.cells, List.cons.injEq, and_true, Value.slice.injEq] at he0
  obtain ⟨rfl, rfl, rfl⟩ := he0
  exact ⟨s, rfl, l0, g0, by unfold reachBytes at b0; omega⟩
end
end Go.Proofs.Ytdfijdajkdkkfaa
