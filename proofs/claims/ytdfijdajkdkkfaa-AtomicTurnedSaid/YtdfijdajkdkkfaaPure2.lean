/-
  More of the plain model: what an array that may be is like.
-/
import Derived.Test.YtdfijdajkdkkfaaPure
namespace Go.Proofs.Ytdfijdajkdkkfaa
namespace T
theorem sizeGo_range : ∀ (s : List Int) (m : Int), 0 ≤ m → m ≤ 16384 → (∀ d ∈ s, 0 ≤ d) → (sizeGo s m).2 = 0 → 0 ≤ (sizeGo s m).1 ∧ (sizeGo s m).1 ≤ 16384
  | [], m, h0, h1, _, _ => by simp [sizeGo]; omega
  | d :: ds, m, h0, h1, hd, h => by
    unfold sizeGo at h ⊢
    by_cases hc : 16384 < m * d
    · simp [hc] at h
    · rw [if_neg hc] at h ⊢
      exact sizeGo_range ds (m * d) (Int.mul_nonneg h0 (hd d (by simp))) (by omega) (fun x hx => hd x (by simp [hx])) h
theorem size_ok {s : List Int} (h : (size s).2 = 0) : s.length ≤ 8 ∧ (∀ d ∈ s, 0 ≤ d) ∧ 0 ≤ (size s).1 ∧ (size s).1 ≤ 16384 := by
  by_cases h8 : 8 < s.length
  · rw [size_long h8] at h; simp at h
  · by_cases hn : s.any (fun d => decide (d < 0)) = true
    · simp [size, h8, hn] at h
    · rw [Bool.not_eq_true] at hn
      have hp : ∀ d ∈ s, 0 ≤ d := fun d hd => by
        have := List.any_eq_false.1 hn d hd
        simp only [decide_eq_true_eq] at this
        omega
      by_cases hz : s.any (fun d => decide (d = 0)) = true
      · rw [size_none h8 hn hz]; exact ⟨by omega, hp, by simp⟩
      · rw [Bool.not_eq_true] at hz
        rw [size_go h8 hn hz] at h ⊢
        exact ⟨by omega, hp, sizeGo_range s 1 (by omega) (by omega) hp h⟩
theorem chkL_ok {l : Nat} : ∀ {cs : List Cell}, chkL l cs = 0 ↔ ∀ c ∈ cs, chkC l c = 0
  | [] => by simp [chkL]
  | c :: cs => by
    unfold chkL
    by_cases h : chkC l c = 0
    · simp [h, chkL_ok (cs := cs)]
    · simp [h]
theorem chk_ok {l : Nat} {a : Arr} : chk l a = 0 ↔ (size a.shape).2 = 0 ∧ (size a.shape).1 = (a.cells.length : Int) ∧ (∀ d ∈ a.shape, d ≤ 16384) ∧ ∀ c ∈ a.cells, chkC l c = 0 := by
  obtain ⟨s, cs⟩ := a
  simp only [Arr.shape_mk, Arr.cells_mk]
  unfold chk
  by_cases h1 : (size s).2 = 0
  · by_cases h2 : (size s).1 = (cs.length : Int)
    · by_cases h3 : s.any (fun d => decide (16384 < d)) = true
      · have h3' := h3
        rw [List.any_eq_true] at h3'
        obtain ⟨x, hx, hx2⟩ := h3'
        simp only [decide_eq_true_eq] at hx2
        simp only [h1, ne_eq, not_true_eq_false, if_false, h2, h3, if_true]
        constructor
        · intro h; simp at h
        · rintro ⟨_, _, h, _⟩; have := h x hx; omega
      · rw [Bool.not_eq_true] at h3
        have h4 : ∀ d ∈ s, d ≤ 16384 := fun d hd => by
          have := List.any_eq_false.1 h3 d hd
          simp only [decide_eq_true_eq] at this
          omega
        rw [← chkL_ok]
        simp only [h1, ne_eq, not_true_eq_false, if_false, h2, h3]
        constructor
        · intro h; exact ⟨trivial, trivial, h4, by simpa using h⟩
        · rintro ⟨_, _, _, h⟩; simpa using h
    · simp [h1, h2]
  · simp [h1]
theorem chkC_ok {l : Nat} {c : Cell} (h : chkC l c = 0) : c.box = [] ∨ ∃ y, c.box = [y] ∧ 1 ≤ l ∧ chk (l - 1) y = 0 := by
  obtain ⟨k, n, b⟩ := c
  unfold chkC at h
  match b with
  | [] => exact .inl rfl
  | [y] =>
    refine .inr ⟨y, rfl, ?_⟩
    by_cases hk : k = 2 ∧ n = 0
    · by_cases hl : l = 0
      · simp [hk.1, hk.2, hl] at h
      · simp [hk.1, hk.2, hl, chkB] at h
        exact ⟨by omega, h⟩
    · simp at h
      split at h
      · omega
      · simp at h
  | y :: z :: r => simp at h
theorem chk_sizes {l : Nat} {a : Arr} (h : chk l a = 0) : a.shape.length ≤ 8 ∧ a.cells.length ≤ 16384 := by
  obtain ⟨h1, h2, _⟩ := chk_ok.1 h
  obtain ⟨h3, _, _, h4⟩ := size_ok h1
  exact ⟨h3, by omega⟩
end T
end Go.Proofs.Ytdfijdajkdkkfaa
