/-
  How arrays, cells and programs lie in memory: the kinds of Arr, Cell and Node, nested in each other; opened and made.
-/
import Derived.Test.YtdfijdajkdkkfaaWWords
import Derived.Test.YtdfijdajkdkkfaaPure
import Derived.Test.YtdfijdajkdkkfaaProg
set_option linter.unusedVariables false
set_option linter.unusedSimpArgs false
namespace Go.Proofs.Ytdfijdajkdkkfaa
open Go.RowKit Go.Proofs.YtdfijdajkdkkfaaW.PrintWords
open T

/-! ### the kinds -/
/-- A slice that is empty, whatever it points to, or a row of the call's own. -/
def sliceE {α : Type} (e : Nat) (d : Kd α) : Kd (List α) where
  sz := 1
  E := e :: d.E
  K := (Kd.slice e d).K
  M := fun w base ok xs cs => ∃ v, cs = [v] ∧ ((xs = [] ∧ ∃ A c, v = .slice A 0 c) ∨ d.R e w base ok v xs)
  K_len := (Kd.slice e d).K_len
  K_one := (Kd.slice e d).K_one
  K_below := (Kd.slice e d).K_below
  K_of_M := by
    rintro w base ok x cs ⟨v, rfl, ⟨rfl, A, c, rfl⟩ | h⟩
    · exact ⟨A, c, rfl, Nat.zero_le _, rfl, by simp, fun h => absurd h (Nat.lt_irrefl 0)⟩
    · exact (Kd.slice e d).K_of_M ⟨v, rfl, h⟩
  M_mono := by
    rintro w base ok ok' x cs hok ⟨v, rfl, h | h⟩
    · exact ⟨v, rfl, .inl h⟩
    · exact ⟨v, rfl, .inr (Kd.R_mono h hok)⟩
  M_bound := by
    rintro w base ok x cs ⟨v, rfl, h | h⟩
    · exact ⟨v, rfl, .inl h⟩
    · exact ⟨v, rfl, .inr (Kd.R_bound h)⟩
  M_move := by
    rintro w w1 base ok x cs hm ⟨v, rfl, h | h⟩
    · exact ⟨v, rfl, .inl h⟩
    · exact ⟨v, rfl, .inr (Kd.R_move h hm)⟩
  M_lower := by
    rintro w base base' ok x cs hb ⟨v, rfl, h | h⟩
    · exact ⟨v, rfl, .inl h⟩
    · exact ⟨v, rfl, .inr (Kd.R_lower h hb)⟩
theorem mono_sliceE {α β : Type} (e : Nat) {G : Kd α → Kd β} (hG : Kd.Mono G) : Kd.Mono (fun d => sliceE e (G d)) := by
  refine ⟨fun _ _ _ => rfl, (Kd.mono_slice e hG).K, ?_⟩
  rintro d d' hs h w base ok x cs ⟨v, rfl, hr | hr⟩
  · exact ⟨v, rfl, .inl hr⟩
  · exact ⟨v, rfl, .inr (Kd.R_imp (hG.sz d d' hs) (hG.M d d' hs h) hr)⟩
theorem sub_sliceE {α β : Type} {E : List Nat} (e : Nat) {G : Kd α → Kd β} (he : e ∈ E) (hG : Kd.Sub G E) : Kd.Sub (fun d => sliceE e (G d)) E := Kd.sub_slice (E := E) e he hG
def kc (d : Kd Arr) : Kd T.Cell := Kd.iso (Kd.pair (Kd.int .i64) (Kd.pair (Kd.int .i64) (sliceE 25 d))) (fun c => (c.kind, c.n, c.box))
theorem mono_kc : Kd.Mono kc := Kd.mono_iso _ (Kd.mono_pair (Kd.mono_const _) (Kd.mono_pair (Kd.mono_const _) (mono_sliceE 25 Kd.mono_id)))
theorem sub_kc : Kd.Sub kc [3, 25, 33] := Kd.sub_iso _ (Kd.sub_pair (Kd.sub_const _ (by decide)) (Kd.sub_pair (Kd.sub_const _ (by decide)) (sub_sliceE 25 (by decide) Kd.sub_id)))
def FA (d : Kd Arr) : Kd Arr := Kd.iso (Kd.pair (Kd.slice 3 (Kd.int .i64)) (Kd.slice 33 (kc d))) (fun a => (a.shape, a.cells))
theorem mono_A : Kd.Mono FA := Kd.mono_iso _ (Kd.mono_pair (Kd.mono_const _) (Kd.mono_slice 33 mono_kc))
theorem sub_A : Kd.Sub FA [3, 25, 33] := Kd.sub_iso _ (Kd.sub_pair (Kd.sub_const _ (by decide)) (Kd.sub_slice 33 (by decide) sub_kc))
theorem sz_A : ∀ n, (Kd.upto FA 2 [3, 25, 33] n).sz = 2 := Kd.upto_sz (fun _ => rfl)
def kA : Kd Arr := Kd.fix FA 2 [3, 25, 33] sz_A (Kd.upto_E sub_A)
def kC : Kd T.Cell := kc kA
/-- Numbers in a row (of the program's int). -/
abbrev Cint (w : World) (A : Option Addr) (xs : List Int) : Prop := (Kd.int .i64).C w A xs.length xs
abbrev CC (w : World) (A : Option Addr) (xs : List T.Cell) : Prop := kC.C w A xs.length xs
abbrev CA (w : World) (A : Option Addr) (xs : List Arr) : Prop := kA.C w A xs.length xs

theorem kc_K_back {w : World} {x : T.Cell} {cs : List Value} (h : kC.K w x cs) : ∃ n, (kc (Kd.upto FA 2 [3, 25, 33] n)).K w x cs := by
  obtain ⟨c0, c1, rfl, h0, c2, c3, rfl, h1, A, c, rfl, hl, hC⟩ := h
  obtain ⟨n, hn⟩ := Kd.fix_C_back mono_A hC
  exact ⟨n, c0, _, rfl, h0, c2, _, rfl, h1, A, c, rfl, hl, hn⟩
theorem kc_K_le {n m : Nat} (hnm : n ≤ m) {w : World} {x : T.Cell} {cs : List Value} (h : (kc (Kd.upto FA 2 [3, 25, 33] n)).K w x cs) : (kc (Kd.upto FA 2 [3, 25, 33] m)).K w x cs :=
  mono_kc.K _ _ ((sz_A n).trans (sz_A m).symm) (fun _ _ _ hk => Kd.upto_K_le mono_A sz_A hnm hk) _ _ _ h
theorem kc_M_back {w : World} {base : Nat} {ok : Nat → Prop} {x : T.Cell} {cs : List Value} (h : kC.M w base ok x cs) : ∃ n, (kc (Kd.upto FA 2 [3, 25, 33] n)).M w base ok x cs := by
  obtain ⟨c0, c1, rfl, h0, c2, c3, rfl, h1, v, rfl, hR | hR⟩ := h
  · exact ⟨0, c0, _, rfl, h0, c2, _, rfl, h1, v, rfl, .inl hR⟩
  · obtain ⟨n, hn⟩ := Kd.fix_R_back mono_A hR
    exact ⟨n, c0, _, rfl, h0, c2, _, rfl, h1, v, rfl, .inr hn⟩
theorem kc_M_le {n m : Nat} (hnm : n ≤ m) {w : World} {base : Nat} {ok : Nat → Prop} {x : T.Cell} {cs : List Value} (h : (kc (Kd.upto FA 2 [3, 25, 33] n)).M w base ok x cs) : (kc (Kd.upto FA 2 [3, 25, 33] m)).M w base ok x cs :=
  mono_kc.M _ _ ((sz_A n).trans (sz_A m).symm) (fun _ _ _ _ _ hk => Kd.upto_M_le mono_A sz_A hnm hk) _ _ _ _ _ h
theorem kc_fix_K {n : Nat} {w : World} {x : T.Cell} {cs : List Value} (h : (kc (Kd.upto FA 2 [3, 25, 33] n)).K w x cs) : kC.K w x cs :=
  mono_kc.K _ kA (sz_A n) (fun _ _ _ hk => ⟨n, hk⟩) _ _ _ h
theorem kc_fix_M {n : Nat} {w : World} {base : Nat} {ok : Nat → Prop} {x : T.Cell} {cs : List Value} (h : (kc (Kd.upto FA 2 [3, 25, 33] n)).M w base ok x cs) : kC.M w base ok x cs :=
  mono_kc.M _ kA (sz_A n) (fun _ _ _ _ _ hk => ⟨n, hk⟩) _ _ _ _ _ h
theorem kC_C_back {w : World} {A : Option Addr} {m : Nat} {xs : List T.Cell} (h : kC.C w A m xs) : ∃ n, (kc (Kd.upto FA 2 [3, 25, 33] n)).C w A m xs := by
  rcases Nat.eq_zero_or_pos m with hz | hpos
  · subst hz
    exact ⟨0, h.1, h.2.1, fun hp => absurd hp (Nat.lt_irrefl 0)⟩
  · obtain ⟨ad, e, hc⟩ := h.2.2 hpos
    obtain ⟨N, hN⟩ := Kd.bounded (P := fun n j => ∀ p, xs[j]? = some p → ∃ c, c.length = 3 ∧ (kc (Kd.upto FA 2 [3, 25, 33] n)).K w p c ∧ ∀ i u, c[i]? = some u → w.cell? (ad.add (j * 3 + i)) = some u)
      (fun n n' j hnm hp p hj => by
        obtain ⟨c, h1, h2, h3⟩ := hp p hj
        exact ⟨c, h1, kc_K_le hnm h2, h3⟩) xs.length
      (fun j hj => by
        obtain ⟨c, h1, h2, h3⟩ := hc j _ (List.getElem?_eq_getElem hj)
        obtain ⟨n, hn⟩ := kc_K_back h2
        refine ⟨n, fun p hp => ?_⟩
        rw [List.getElem?_eq_getElem hj] at hp
        injection hp with hp
        rw [← hp]
        exact ⟨c, h1, hn, h3⟩)
    exact ⟨N, h.1, h.2.1, fun _ => ⟨ad, e, fun j p hj => hN j (List.getElem?_eq_some_iff.1 hj).1 p hj⟩⟩
theorem kC_R_back {e : Nat} {w : World} {base : Nat} {ok : Nat → Prop} {v : Value} {xs : List T.Cell} (h : kC.R e w base ok v xs) : ∃ n, (kc (Kd.upto FA 2 [3, 25, 33] n)).R e w base ok v xs := by
  obtain ⟨h0, inner, ho, hr⟩ := h
  have hr' : Reps (fun p c => ∃ n, (kc (Kd.upto FA 2 [3, 25, 33] n)).M w base (fun k => ok k ∧ some k ≠ v.ownBlock) p c) 3 xs inner := ⟨hr.1, fun j p hj => kc_M_back (hr.2 j p hj)⟩
  obtain ⟨N, hN⟩ := Kd.reps_bounded (R := fun n p c => (kc (Kd.upto FA 2 [3, 25, 33] n)).M w base (fun k => ok k ∧ some k ≠ v.ownBlock) p c) (fun n m p c hnm hp => kc_M_le hnm hp) hr'
  exact ⟨N, h0, inner, ho, hN⟩

theorem kA_open {w : World} {a : Arr} {cs : List Value} (h : kA.K w a cs) : ∃ A0 c0 A1 c1, cs = [.slice A0 a.shape.length c0, .slice A1 a.cells.length c1] ∧ a.shape.length ≤ c0 ∧ a.cells.length ≤ c1 ∧ Cint w A0 a.shape ∧ CC w A1 a.cells := by
  obtain ⟨n, h⟩ := h
  cases n with
  | zero => exact h.elim
  | succ n =>
    obtain ⟨c0, c1, rfl, ⟨A0, d0, rfl, l0, g0⟩, A1, d1, rfl, l1, g1⟩ := h
    exact ⟨A0, d0, A1, d1, rfl, l0, l1, g0, Kd.C_imp (d := kc (Kd.upto FA 2 [3, 25, 33] n)) (d' := kC) rfl (fun _ _ _ hk => kc_fix_K hk) g1⟩
theorem kA_mk {w : World} {a : Arr} {A0 A1 : Option Addr} {c0 c1 : Nat} (l0 : a.shape.length ≤ c0) (l1 : a.cells.length ≤ c1) (g0 : Cint w A0 a.shape) (g1 : CC w A1 a.cells) : kA.K w a [.slice A0 a.shape.length c0, .slice A1 a.cells.length c1] := by
  obtain ⟨n, hn⟩ := kC_C_back g1
  exact ⟨n + 1, [_], [_], rfl, ⟨A0, c0, rfl, l0, g0⟩, A1, c1, rfl, l1, hn⟩
theorem kA_openM {w : World} {base : Nat} {ok : Nat → Prop} {a : Arr} {cs : List Value} (h : kA.M w base ok a cs) : ∃ v0 v1, cs = [v0, v1] ∧ (Kd.int .i64).R 3 w base ok v0 a.shape ∧ kC.R 33 w base ok v1 a.cells := by
  obtain ⟨n, h⟩ := h
  cases n with
  | zero => exact h.elim
  | succ n =>
    obtain ⟨c0, c1, rfl, ⟨v0, rfl, g0⟩, v1, rfl, g1⟩ := h
    exact ⟨v0, v1, rfl, g0, Kd.R_imp (d := kc (Kd.upto FA 2 [3, 25, 33] n)) (d' := kC) rfl (fun _ _ _ _ _ hk => kc_fix_M hk) g1⟩
theorem kA_mkM {w : World} {base : Nat} {ok : Nat → Prop} {a : Arr} {v0 v1 : Value} (g0 : (Kd.int .i64).R 3 w base ok v0 a.shape) (g1 : kC.R 33 w base ok v1 a.cells) : kA.M w base ok a [v0, v1] := by
  obtain ⟨n, hn⟩ := kC_R_back g1
  exact ⟨n + 1, [_], [_], rfl, ⟨v0, rfl, g0⟩, v1, rfl, hn⟩
theorem kC_open {w : World} {c : T.Cell} {cs : List Value} (h : kC.K w c cs) : ∃ A d, cs = [.int .i64 c.kind, .int .i64 c.n, .slice A c.box.length d] ∧ c.box.length ≤ d ∧ CA w A c.box := by
  obtain ⟨_, _, rfl, rfl, _, _, rfl, rfl, A, d, rfl, l, g⟩ := h
  exact ⟨A, d, rfl, l, g⟩
theorem kC_mk {w : World} {c : T.Cell} {A : Option Addr} {d : Nat} (l : c.box.length ≤ d) (g : CA w A c.box) : kC.K w c [.int .i64 c.kind, .int .i64 c.n, .slice A c.box.length d] :=
  ⟨[_], [_, _], rfl, rfl, [_], [_], rfl, rfl, A, d, rfl, l, g⟩
theorem kC_openM {w : World} {base : Nat} {ok : Nat → Prop} {c : T.Cell} {cs : List Value} (h : kC.M w base ok c cs) : ∃ v, cs = [.int .i64 c.kind, .int .i64 c.n, v] ∧ ((c.box = [] ∧ ∃ A d, v = .slice A 0 d) ∨ kA.R 25 w base ok v c.box) := by
  obtain ⟨_, _, rfl, rfl, _, _, rfl, rfl, v, rfl, g⟩ := h
  exact ⟨v, rfl, g⟩
theorem kC_mkM {w : World} {base : Nat} {ok : Nat → Prop} {c : T.Cell} {v : Value} (g : (c.box = [] ∧ ∃ A d, v = .slice A 0 d) ∨ kA.R 25 w base ok v c.box) : kC.M w base ok c [.int .i64 c.kind, .int .i64 c.n, v] :=
  ⟨[_], [_, _], rfl, rfl, [_], [_], rfl, rfl, v, rfl, g⟩

/-! ### an element that is read -/
theorem at_cell {w : World} {A : Option Addr} {xs : List T.Cell} (h : CC w A xs) (i : Nat) (h1 : i < xs.length) : ∃ ad A0 d, A = some ad ∧ w.cell? (ad.add (i * 3)) = some (.int .i64 (xs.getD i zc).kind) ∧ w.cell? ⟨(ad.add (i * 3)).block, (ad.add (i * 3)).off + 1, none⟩ = some (.int .i64 (xs.getD i zc).n) ∧ w.cell? ⟨(ad.add (i * 3)).block, (ad.add (i * 3)).off + 2, none⟩ = some (.slice A0 (xs.getD i zc).box.length d) ∧ (xs.getD i zc).box.length ≤ d ∧ CA w A0 (xs.getD i zc).box := by
  obtain ⟨ad, c, e, _, hK, hc0⟩ := Kd.C_get h zc (i : Int) (by omega) (by omega)
  have hc : ∀ j u, c[j]? = some u → w.cell? (ad.add (i * 3 + j)) = some u := hc0
  obtain ⟨A0, d, rfl, l0, g0⟩ := kC_open hK
  exact ⟨ad, A0, d, e, hc 0 _ rfl, by rw [← add_field _ _ 1 (by omega)]; exact hc 1 _ rfl, by rw [← add_field _ _ 2 (by omega)]; exact hc 2 _ rfl, l0, g0⟩
theorem at_arr {w : World} {A : Option Addr} {xs : List Arr} (h : CA w A xs) (i : Nat) (h1 : i < xs.length) : ∃ ad A0 c0 A1 c1, A = some ad ∧ w.cell? (ad.add (i * 2)) = some (.slice A0 (xs.getD i za).shape.length c0) ∧ w.cell? ⟨(ad.add (i * 2)).block, (ad.add (i * 2)).off + 1, none⟩ = some (.slice A1 (xs.getD i za).cells.length c1) ∧ (xs.getD i za).shape.length ≤ c0 ∧ (xs.getD i za).cells.length ≤ c1 ∧ Cint w A0 (xs.getD i za).shape ∧ CC w A1 (xs.getD i za).cells := by
  obtain ⟨ad, c, e, _, hK, hc0⟩ := Kd.C_get h za (i : Int) (by omega) (by omega)
  have hc : ∀ j u, c[j]? = some u → w.cell? (ad.add (i * 2 + j)) = some u := hc0
  obtain ⟨A0, c0, A1, c1, rfl, l0, l1, g0, g1⟩ := kA_open hK
  exact ⟨ad, A0, c0, A1, c1, e, hc 0 _ rfl, by rw [← add_field _ _ 1 (by omega)]; exact hc 1 _ rfl, l0, l1, g0, g1⟩
theorem at_int {w : World} {A : Option Addr} {xs : List Int} (h : Cint w A xs) (i : Nat) (h1 : i < xs.length) : ∃ ad, A = some ad ∧ w.cell? (ad.add i) = some (.int .i64 (xs.getD i 0)) := by
  obtain ⟨ad, e, hc⟩ := Kd.at_int h (i : Int) (by omega) (by omega)
  exact ⟨ad, e, hc⟩
theorem add_zero (ad : Addr) : ad.add 0 = ad := by unfold Addr.add; simp
/-- The first element of a row of arrays. -/
theorem at_arr0 {w : World} {A : Option Addr} {x : Arr} {xs : List Arr} (h : CA w A (x :: xs)) : ∃ ad A0 c0 A1 c1, A = some ad ∧ w.cell? ad = some (.slice A0 x.shape.length c0) ∧ w.cell? ⟨ad.block, ad.off + 1, none⟩ = some (.slice A1 x.cells.length c1) ∧ x.shape.length ≤ c0 ∧ x.cells.length ≤ c1 ∧ Cint w A0 x.shape ∧ CC w A1 x.cells := by
  obtain ⟨ad, A0, c0, A1, c1, e, x0, x1, r⟩ := at_arr h 0 (by simp)
  rw [Nat.zero_mul, add_zero] at x0 x1
  exact ⟨ad, A0, c0, A1, c1, e, x0, x1, r⟩
theorem at_cell0 {w : World} {A : Option Addr} {x : T.Cell} {xs : List T.Cell} (h : CC w A (x :: xs)) : ∃ ad A0 d, A = some ad ∧ w.cell? ad = some (.int .i64 x.kind) ∧ w.cell? ⟨ad.block, ad.off + 1, none⟩ = some (.int .i64 x.n) ∧ w.cell? ⟨ad.block, ad.off + 2, none⟩ = some (.slice A0 x.box.length d) ∧ x.box.length ≤ d ∧ CA w A0 x.box := by
  obtain ⟨ad, A0, d, e, x0, x1, x2, r⟩ := at_cell h 0 (by simp)
  rw [Nat.zero_mul, add_zero] at x0 x1 x2
  exact ⟨ad, A0, d, e, x0, x1, x2, r⟩
/-- What is read is read behind a new block, whatever it holds. -/
theorem later {W : World} {a : Addr} {v : Value} (h : W.cell? a = some v) (o : Obj) : (W.alloc o).cell? a = some v := pw_cell_below ((Below.refl _ _).alloc (Nat.le_refl _) o) h
theorem later2 {W : World} {a : Addr} {v : Value} (h : W.cell? a = some v) (o o' : Obj) : ((W.alloc o).alloc o').cell? a = some v := later (later h o) o'
end Go.Proofs.Ytdfijdajkdkkfaa
