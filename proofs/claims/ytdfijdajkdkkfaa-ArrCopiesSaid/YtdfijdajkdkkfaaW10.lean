/-
  The law ArrCopies: its walk.
-/
import Derived.Test.YtdfijdajkdkkfaaW9
set_option linter.unusedVariables false
set_option linter.unusedSimpArgs false
namespace Go.Proofs.Ytdfijdajkdkkfaa
open Go.RowKit Go.Proofs.YtdfijdajkdkkfaaW.PrintWords Go.Proofs.YtdfijdajkdkkfaaW.PrintLast
open T
/-- Only whole numbers in the blocks from B0 to B1 have turned; and there is more. -/
structure Upd (B0 B1 : Nat) (w w' : World) : Prop where
  os : w'.os = w.os
  tape : w'.tape = w.tape
  output : w'.output = w.output
  size : w.heap.size ≤ w'.heap.size
  out : ∀ k, k < w.heap.size → (k < B0 ∨ B1 ≤ k) → w'.heap[k]? = w.heap[k]?
  cell : ∀ p v, w.cell? p = some v → (∃ k n n', v = .int k n ∧ w'.cell? p = some (.int k n')) ∨ w'.cell? p = some v
  froz : ∀ p : Addr, p.block < w.heap.size → w'.frozen? p = w.frozen? p
theorem Upd.refl (B0 B1 : Nat) (w : World) : Upd B0 B1 w w := ⟨rfl, rfl, rfl, Nat.le_refl _, fun _ _ _ => rfl, fun _ _ h => .inr h, fun _ _ => rfl⟩
theorem Upd.alloc {B0 B1 : Nat} {w w' : World} (h : Upd B0 B1 w w') (o : Obj) : Upd B0 B1 w (w'.alloc o) :=
  ⟨h.os, h.tape, h.output, Nat.le_trans h.size (by simp), fun k hk hq => (Below.heap_alloc _ _ _ (Nat.lt_of_lt_of_le hk h.size)).trans (h.out k hk hq),
    fun p v hp => by
      rcases h.cell p v hp with ⟨k, n, n', e, hc⟩ | hc
      · exact .inl ⟨k, n, n', e, later hc o⟩
      · exact .inr (later hc o),
    fun p hp => ((below_alloc (Below.refl w'.heap.size w') o).frozen (Nat.lt_of_lt_of_le hp h.size)).trans (h.froz p hp)⟩
theorem Upd.drew {B0 B1 : Nat} {w w' : World} (h : Upd B0 B1 w w') : Upd B0 B1 w w'.drew := ⟨h.os, h.tape, h.output, h.size, h.out, h.cell, h.froz⟩
theorem frozen_setCell (w : World) (a : Addr) (u : Value) (p : Addr) : (w.setCell a u).frozen? p = w.frozen? p := by
  unfold World.frozen? World.setCell
  simp only [Array.getElem?_modify]
  by_cases h : a.block = p.block
  · rw [if_pos h]
    cases w.heap[p.block]? with
    | none => rfl
    | some o => cases o <;> rfl
  · rw [if_neg h]
theorem Upd.setCell {B0 B1 : Nat} {w w' : World} (h : Upd B0 B1 w w') {p : Addr} (h0 : B0 ≤ p.block) (h1 : p.block < B1) {k : IntKind} {n m : Int} (hc : w'.cell? p = some (.int k m)) : Upd B0 B1 w (w'.setCell p (.int k n)) :=
  ⟨h.os, h.tape, h.output, by simpa using h.size, fun q hq hq2 => (Below.heap_setCell _ _ _ _ (by omega)).trans (h.out q hq hq2),
    fun q v hq => by
      by_cases e : p = q
      · subst e
        rcases h.cell p v hq with ⟨k', a, b, e, hc'⟩ | hc'
        · rw [hc] at hc'
          simp only [Option.some.injEq, Value.int.injEq] at hc'
          obtain ⟨rfl, _⟩ := hc'
          exact .inl ⟨_, a, n, e, World.cell?_setCell_same _ _ _ hc⟩
        · rw [hc] at hc'
          simp only [Option.some.injEq] at hc'
          exact .inl ⟨k, m, n, hc'.symm, World.cell?_setCell_same _ _ _ hc⟩
      · rw [World.cell?_setCell_other _ _ _ _ e]
        exact h.cell q v hq,
    fun q hq => (frozen_setCell _ _ _ _).trans (h.froz q hq)⟩
theorem Upd.int {B0 B1 : Nat} {w w' : World} (h : Upd B0 B1 w w') {p : Addr} {k : IntKind} {n : Int} (hc : w.cell? p = some (.int k n)) : ∃ n', w'.cell? p = some (.int k n') := by
  rcases h.cell p _ hc with ⟨k', a, b, e, hc'⟩ | hc'
  · simp only [Value.int.injEq] at e
    obtain ⟨rfl, _⟩ := e
    exact ⟨b, hc'⟩
  · exact ⟨n, hc'⟩
theorem Upd.slice {B0 B1 : Nat} {w w' : World} (h : Upd B0 B1 w w') {p : Addr} {A : Option Addr} {n c : Nat} (hc : w.cell? p = some (.slice A n c)) : w'.cell? p = some (.slice A n c) := by
  rcases h.cell p _ hc with ⟨k', a, b, e, hc'⟩ | hc'
  · simp at e
  · exact hc'
/-- An element of a row of cells of the call's own: where it lies. -/
theorem own_cell {w : World} {base : Nat} {ok : Nat → Prop} {v : Value} {xs : List T.Cell} (h : kC.R 33 w base ok v xs) {i : Nat} (hi : i < xs.length) : ∃ g cap vb, v = .slice (some ⟨g, 0, none⟩) xs.length cap ∧ ok g ∧ base ≤ g ∧ g < w.heap.size ∧ (∀ o, w.frozen? ⟨g, o, none⟩ = false) ∧ w.cell? ⟨g, i * 3 + 1, none⟩ = some (.int .i64 (xs.getD i zc).n) ∧ w.cell? ⟨g, i * 3 + 2, none⟩ = some vb ∧
    (((xs.getD i zc).box = [] ∧ ∃ A d, vb = .slice A 0 d) ∨ kA.R 25 w base (fun k => ok k ∧ some k ≠ v.ownBlock) vb (xs.getD i zc).box) := by
  obtain ⟨g, cap, rfl, hb, hl, cells, hcells⟩ := Kd.R_form h (by omega)
  have hokg : ok g := h.1 g (by simp [Value.ownBlock])
  obtain ⟨_, inner, ho, hr⟩ := h
  have hm := hr.2 i (xs.getD i zc) (by rw [List.getD_eq_getElem?_getD, List.getElem?_eq_getElem hi]; rfl)
  obtain ⟨vb, he, hbx⟩ := kC_openM hm
  have hin : ∀ j u, [Value.int .i64 (xs.getD i zc).kind, .int .i64 (xs.getD i zc).n, vb][j]? = some u → inner[i * 3 + j]? = some u := by
    intro j u hu
    rw [← he] at hu
    rw [List.getElem?_take] at hu
    split at hu
    · rw [List.getElem?_drop] at hu
      exact hu
    · cases hu
  refine ⟨g, cap, vb, rfl, hokg, hb, hl, fun o => by simp [World.frozen?, hcells], ?_, ?_, hbx⟩
  · have := ho.cells (g := g) rfl _ _ (hin 1 _ rfl)
    rwa [add_plain] at this
  · have := ho.cells (g := g) rfl _ _ (hin 2 _ rfl)
    rwa [add_plain] at this
/-- An element of a row of arrays of the call's own. -/
theorem own_arr {w : World} {base : Nat} {ok : Nat → Prop} {v : Value} {xs : List Arr} (h : kA.R 25 w base ok v xs) {i : Nat} (hi : i < xs.length) : ∃ g cap v0 v1, v = .slice (some ⟨g, 0, none⟩) xs.length cap ∧ w.cell? ⟨g, i * 2, none⟩ = some v0 ∧ w.cell? ⟨g, i * 2 + 1, none⟩ = some v1 ∧
    (Kd.int .i64).R 3 w base (fun k => ok k ∧ some k ≠ v.ownBlock) v0 (xs.getD i za).shape ∧ kC.R 33 w base (fun k => ok k ∧ some k ≠ v.ownBlock) v1 (xs.getD i za).cells := by
  obtain ⟨g, cap, rfl, hb, hl, cells, hcells⟩ := Kd.R_form h (by omega)
  obtain ⟨_, inner, ho, hr⟩ := h
  have hm := hr.2 i (xs.getD i za) (by rw [List.getD_eq_getElem?_getD, List.getElem?_eq_getElem hi]; rfl)
  obtain ⟨v0, v1, he, h0, h1⟩ := kA_openM hm
  have hin : ∀ j u, [v0, v1][j]? = some u → inner[i * 2 + j]? = some u := by
    intro j u hu
    rw [← he] at hu
    rw [List.getElem?_take] at hu
    split at hu
    · rw [List.getElem?_drop] at hu
      exact hu
    · cases hu
  refine ⟨g, cap, v0, v1, rfl, ?_, ?_, h0, h1⟩
  · have := ho.cells (g := g) rfl _ _ (hin 0 _ rfl)
    rwa [add_plain] at this
  · have := ho.cells (g := g) rfl _ _ (hin 1 _ rfl)
    rwa [add_plain] at this
theorem own_int {w : World} {base : Nat} {ok : Nat → Prop} {v : Value} {xs : List Int} (h : (Kd.int .i64).R 3 w base ok v xs) {i : Nat} (hi : i < xs.length) : ∃ g cap, v = .slice (some ⟨g, 0, none⟩) xs.length cap ∧ ok g ∧ base ≤ g ∧ g < w.heap.size ∧ (∀ o, w.frozen? ⟨g, o, none⟩ = false) ∧ w.cell? ⟨g, i, none⟩ = some (.int .i64 (xs.getD i 0)) := by
  obtain ⟨g, cap, rfl, hb, hl, cells, hcells⟩ := Kd.R_form h (by omega)
  refine ⟨g, cap, rfl, h.1 g (by simp [Value.ownBlock]), hb, hl, fun o => by simp [World.frozen?, hcells], ?_⟩
  have := (Kd.R_cell (enc := Value.int .i64) (h1 := fun _ => rfl) (0 : Int) h (i : Int) (by omega) (by omega)).1
  exact this
set_option maxHeartbeats 8000000 in
set_option maxRecDepth 100000 in
theorem light3_calls (a : Arr) (A0 A1 : Option Addr) (c0 c1 : Nat) (w : World) (hwf : wfA a) (l0 : a.shape.length ≤ c0) (l1 : a.cells.length ≤ c1) (g0 : Cint w A0 a.shape) (g1 : CC w A1 a.cells) :
    Calls Try.prog 18 #[.agg #[.slice A0 a.shape.length c0, .slice A1 a.cells.length c1]] w fun e w' => ∃ b : Bool, e = .returned (.bool b) ∧ (b = true → tot a ≤ 4000) ∧ Below w.heap.size w w' := by
  have G0 := Aside0.mk g0
  have G1 := Aside0.mk g1
  have HW := Aside0.mk hwf
  clear g0 g1 hwf
  go_enter Try.func18, Try.ntmps18
  go_wp2_with fail
  refine (refWeigh_calls a 4000 A0 A1 c0 c1 _ (by omega) (by omega) HW.out l0 l1 (Kd.C_below G0.out ?hb) (Kd.C_below G1.out ?hb)).mono ?_; (case hb => (repeat (first | exact Below.refl _ _ | apply below_alloc | apply below_drew | apply pw_below_drewN)))
  rintro e w1 ⟨⟨r, rfl, hr0, hr1, hr2⟩, hb⟩
  replace hr2 := Aside0.mk hr2
  go_wp2_with fail
  go_ret
  exact ⟨decide (r ≤ 4000), rfl, fun h => by have := hr2.out (by simpa using h); simp at h; omega, (then_below (by (repeat (first | exact Below.refl _ _ | apply below_alloc | apply below_drew | apply pw_below_drewN))) hb)⟩
set_option maxHeartbeats 8000000 in
set_option maxRecDepth 100000 in
theorem arrCopies_calls (a : Arr) (A0 A1 : Option Addr) (c0 c1 : Nat) (w : World) (hwf : wfA a) (l0 : a.shape.length ≤ c0) (l1 : a.cells.length ≤ c1) (g0 : Cint w A0 a.shape) (g1 : CC w A1 a.cells) :
    Calls Try.prog 3 #[.agg #[.slice A0 a.shape.length c0, .slice A1 a.cells.length c1]] w fun e w' => e = .returned (.bool true) ∧ Below w.heap.size w w' := by
  have G0 := Aside0.mk g0
  have G1 := Aside0.mk g1
  have HW := Aside0.mk hwf
  clear g0 g1 hwf
  by_cases hck : chk 8 a = 0
  · have HK := Aside0.mk hck
    clear hck
    go_enter Try.func3, Try.ntmps3
    go_wp2_with fail
    refine (light3_calls a A0 A1 c0 c1 _ HW.out l0 l1 (Kd.C_below G0.out ?hb) (Kd.C_below G1.out ?hb)).mono ?_; (case hb => (repeat (first | exact Below.refl _ _ | apply below_alloc | apply below_drew | apply pw_below_drewN)))
    rintro e w1 ⟨b, rfl, hbt, hb⟩
    have hb1 := Aside0.mk (show Below w.heap.size w w1 from (then_below (by (repeat (first | exact Below.refl _ _ | apply below_alloc | apply below_drew | apply pw_below_drewN))) hb))
    have x0 : w1.cell? ⟨w.heap.size, 0, none⟩ = some (.slice A0 a.shape.length c0) := (hb.cell (p := ⟨w.heap.size, 0, none⟩) (by simp)).trans (by simp)
    have x1 : w1.cell? ⟨w.heap.size, 1, none⟩ = some (.slice A1 a.cells.length c1) := (hb.cell (p := ⟨w.heap.size, 1, none⟩) (by simp)).trans (by simp)
    have hz1 : w.heap.size < w1.heap.size := by have := hb.size; simp at this; omega
    clear hb
    cases b with
    | false =>
      go_wp2_with fail
      refine (works3_calls _).mono ?_; rintro e w2 ⟨rfl, hb⟩
      go_wp2_with fail
      go_ret
      exact ret_below rfl (then_below hb1.out hb)
    | true =>
      go_wp2_with fail
      refine (refCheck_calls a A0 A1 c0 c1 _ l0 l1 (Kd.C_below G0.out hb1.out) (Kd.C_below G1.out hb1.out)).mono ?_
      rintro e w2 ⟨rfl, hb2⟩
      rw [HK.out]
      have y0 := (hb2.cell hz1).trans x0
      have y1 := (hb2.cell hz1).trans x1
      have hz2 : w.heap.size < w2.heap.size := Nat.lt_of_lt_of_le hz1 hb2.size
      have hw2 := Aside0.mk (then_below hb1.out hb2)
      clear x0 x1 hb2 hz1
      go_wp2_with fail
      refine ((copy_all _).1 a 8 A0 A1 c0 c1 _ (Nat.lt_succ_self _) HK.out l0 l1 (Kd.C_below G0.out hw2.out) (Kd.C_below G1.out hw2.out)).mono ?_
      rintro e wb ⟨v0, v1, rfl, hMb, hbb⟩
      obtain ⟨v0', v1', he, r0, r1⟩ := kA_openM hMb
      simp only [List.cons.injEq, and_true] at he
      obtain ⟨rfl, rfl⟩ := he
      obtain ⟨V0, d0, rfl⟩ := Kd.R_slice r0
      obtain ⟨V1, d1, rfl⟩ := Kd.R_slice r1
      have x0 := (hbb.cell hz2).trans y0
      have x1 := (hbb.cell hz2).trans y1
      have hz3 : w.heap.size < wb.heap.size := Nat.lt_of_lt_of_le hz2 hbb.size
      have hwb := Aside0.mk (then_below hw2.out hbb)
      have hsb : w2.heap.size ≤ wb.heap.size := hbb.size
      have R0 := Aside0.mk (Kd.R_mono (Kd.R_bound r0) (ok' := fun k => k < wb.heap.size) (fun k hk => hk.2.2.1))
      have R1 := Aside0.mk (Kd.R_mono (Kd.R_bound r1) (ok' := fun k => k < wb.heap.size) (fun k hk => hk.2.2.1))
      clear hMb y0 y1 r0 r1 hbb hz2
      go_wp2_with fail
      refine ((copy_all _).1 a 8 A0 A1 c0 c1 _ (Nat.lt_succ_self _) HK.out l0 l1 (Kd.C_below G0.out (below_alloc hwb.out _)) (Kd.C_below G1.out (below_alloc hwb.out _))).mono ?_
      rintro e wc ⟨u0, u1, rfl, hMc, hbc⟩
      obtain ⟨u0', u1', he, s0, s1⟩ := kA_openM hMc
      simp only [List.cons.injEq, and_true] at he
      obtain ⟨rfl, rfl⟩ := he
      obtain ⟨U0, e0, rfl⟩ := Kd.R_slice s0
      obtain ⟨U1, e1, rfl⟩ := Kd.R_slice s1
      have hbwc : Below wb.heap.size wb wc := (below_alloc (Below.refl _ _) _).trans (hbc.mono (by simp))
      have hsc : wb.heap.size < wc.heap.size := by have := hbc.size; simp at this; omega
      have y0 := later ((hbwc.cell hz3).trans x0) (.cells #[.slice U0 a.shape.length e0, .slice U1 a.cells.length e1] 25)
      have y1 := later ((hbwc.cell hz3).trans x1) (.cells #[.slice U0 a.shape.length e0, .slice U1 a.cells.length e1] 25)
      have b0 : (wc.alloc (.cells #[.slice U0 a.shape.length e0, .slice U1 a.cells.length e1] 25)).cell? ⟨wb.heap.size, 0, none⟩ = some (.slice V0 a.shape.length d0) := later ((hbc.cell (p := ⟨wb.heap.size, 0, none⟩) (by simp)).trans (by simp)) _
      have b1 : (wc.alloc (.cells #[.slice U0 a.shape.length e0, .slice U1 a.cells.length e1] 25)).cell? ⟨wb.heap.size, 1, none⟩ = some (.slice V1 a.cells.length d1) := later ((hbc.cell (p := ⟨wb.heap.size, 1, none⟩) (by simp)).trans (by simp)) _
      have Y0 := Aside0.mk y0
      have Y1 := Aside0.mk y1
      have B0 := Aside0.mk b0
      have B1 := Aside0.mk b1
      have hwc := Aside0.mk (then_below hwb.out hbwc)
      have Rm0 := Aside0.mk (Kd.R_alloc (Kd.R_below R0.out hbwc) (.cells #[.slice U0 a.shape.length e0, .slice U1 a.cells.length e1] 25))
      have Rm1 := Aside0.mk (Kd.R_alloc (Kd.R_below R1.out hbwc) (.cells #[.slice U0 a.shape.length e0, .slice U1 a.cells.length e1] 25))
      have S0 := Aside0.mk (Kd.R_bound s0)
      have S1 := Aside0.mk (Kd.R_bound s1)
      have ms := Kd.C_max G0.out
      have mc := Kd.C_max G1.out
      clear hMc x0 x1 y0 y1 b0 b1 s0 s1 hbc R0 R1
      replace hbwc := Aside0.mk hbwc
      go_wp2_with fail
      go_loopw [5] (fun i W => ∃ k : Nat, k ≤ a.shape.length ∧ i = .int .i64 k ∧ Aside0 (Upd w2.heap.size wb.heap.size (wc.alloc (.cells #[.slice U0 a.shape.length e0, .slice U1 a.cells.length e1] 25)) W)) (fun i _ => a.shape.length - (intOf i).toNat)
      case atStart => exact ⟨0, by omega, rfl, ⟨Upd.refl _ _ _⟩⟩
      case round =>
        obtain ⟨k, hk, rfl, hU⟩ := hrel
        have x0 := hU.out.slice B0.out
        by_cases hlt : k < a.shape.length
        · obtain ⟨g, cap, he, hgok, hgb, hgl, hgf, hgc⟩ := own_int Rm0.out hlt
          simp only [Value.slice.injEq] at he
          obtain ⟨rfl, _, rfl⟩ := he
          obtain ⟨n', hn⟩ := hU.out.int hgc
          have hfz := (hU.out.froz ⟨g, k, none⟩ hgl).trans (hgf k)
          clear hgc hgf
          go_wp2_with fail
          exact ⟨⟨k + 1, by omega, by go_num, ⟨hU.out.setCell hgb hgok hn⟩⟩, by simp [intOf]; omega⟩
        · go_wp2_with fail
          clear x0
          go_loopw [6] (fun i W => ∃ k : Nat, k ≤ a.cells.length ∧ i = .int .i64 k ∧ Aside0 (Upd w2.heap.size wb.heap.size (wc.alloc (.cells #[.slice U0 a.shape.length e0, .slice U1 a.cells.length e1] 25)) W)) (fun i _ => a.cells.length - (intOf i).toNat)
          case atStart => exact ⟨0, by omega, rfl, hU⟩
          case round =>
            clear hU
            obtain ⟨k, hk, rfl, hU⟩ := hrel
            have x1 := hU.out.slice B1.out
            by_cases hlt : k < a.cells.length
            · obtain ⟨g, cap, vb, he, hgok, hgb, hgl, hgf, hgc, hgx, hbx⟩ := own_cell Rm1.out hlt
              simp only [Value.slice.injEq] at he
              obtain ⟨rfl, _, rfl⟩ := he
              generalize a.cells.getD k zc = x at hgc hbx
              obtain ⟨n', hn⟩ := hU.out.int hgc
              have hfz := (hU.out.froz ⟨g, k * 3 + 1, none⟩ hgl).trans (hgf _)
              replace hgx := Aside0.mk hgx
              replace hbx := Aside0.mk hbx
              clear hgc hgf
              have hU2 := Aside0.mk (hU.out.setCell hgb hgok hn (n := wrap64 (n' + 1)))
              go_wp2_with fail
              clear x1 hn hfz
              have hbox : ∃ A d, vb = .slice A x.box.length d := by
                rcases hbx.out with ⟨hb0, A, d, rfl⟩ | hR
                · exact ⟨A, d, by rw [hb0]; rfl⟩
                · exact Kd.R_slice hR
              obtain ⟨Ab, db, hvb⟩ := hbox
              subst hvb
              go_loopw [7] (fun i W => ∃ q : Nat, q ≤ x.box.length ∧ i = .int .i64 q ∧ Aside0 (Upd w2.heap.size wb.heap.size (wc.alloc (.cells #[.slice U0 a.shape.length e0, .slice U1 a.cells.length e1] 25)) W)) (fun i _ => x.box.length - (intOf i).toNat)
              case atStart => exact ⟨0, by omega, rfl, hU2⟩
              case round =>
                clear hU2 hU
                obtain ⟨q, hq, rfl, hU⟩ := hrel
                have x1 := hU.out.slice B1.out
                have x2 := hU.out.slice hgx.out
                by_cases hqt : q < x.box.length
                · have hR : kA.R 25 (wc.alloc (.cells #[.slice U0 a.shape.length e0, .slice U1 a.cells.length e1] 25)) w2.heap.size (fun k => k < wb.heap.size ∧ some k ≠ (Value.slice (some ⟨g, 0, none⟩) a.cells.length d1).ownBlock) (.slice Ab x.box.length db) x.box := by
                    rcases hbx.out with ⟨hb0, _⟩ | hR
                    · rw [hb0] at hqt; simp at hqt
                    · exact hR
                  have hmx : x.box.length ≤ 9223372036854775807 := by obtain ⟨_, _, _, _, hC⟩ := Kd.R_reads hR; exact Kd.C_max hC
                  obtain ⟨g2, cap2, v0, v1, he, hc0, hc1, hR0, hR1⟩ := own_arr hR hqt
                  simp only [Value.slice.injEq] at he
                  obtain ⟨rfl, _, rfl⟩ := he
                  generalize x.box.getD q za = y at hR0 hR1
                  obtain ⟨P0, p0, rfl⟩ := Kd.R_slice hR0
                  obtain ⟨P1, p1, rfl⟩ := Kd.R_slice hR1
                  have z0 := hU.out.slice hc0
                  have z1 := hU.out.slice hc1
                  have hmy : y.cells.length ≤ 9223372036854775807 := by obtain ⟨_, _, _, _, hC⟩ := Kd.R_reads hR1; exact Kd.C_max hC
                  replace hR1 := Aside0.mk hR1
                  have hsw : wb.heap.size < wr.heap.size := by have := hU.out.size; simp at this; omega
                  clear hR hR0 hc0 hc1
                  go_wp2_with fail
                  clear x1 x2 z0 z1
                  go_loopw [9] (fun i W => ∃ r : Nat, r ≤ y.cells.length ∧ i = .int .i64 r ∧ Aside0 (Upd w2.heap.size wb.heap.size (wc.alloc (.cells #[.slice U0 a.shape.length e0, .slice U1 a.cells.length e1] 25)) W) ∧ Aside0 (W.cell? ⟨wr.heap.size, 1, none⟩ = some (.slice P1 y.cells.length p1))) (fun i _ => y.cells.length - (intOf i).toNat)
                  case atStart => exact ⟨0, by omega, rfl, ⟨hU.out.alloc _⟩, ⟨by simp⟩⟩
                  case round =>
                    clear hU
                    obtain ⟨r, hr, rfl, hU, hxc⟩ := hrel
                    have x1 := hxc.out
                    by_cases hrt : r < y.cells.length
                    · obtain ⟨g3, cap3, vb3, he, hgok3, hgb3, hgl3, hgf3, hgc3, _, _⟩ := own_cell hR1.out hrt
                      simp only [Value.slice.injEq] at he
                      obtain ⟨rfl, _, rfl⟩ := he
                      obtain ⟨m', hm⟩ := hU.out.int hgc3
                      have hfz := (hU.out.froz ⟨g3, r * 3 + 1, none⟩ hgl3).trans (hgf3 _)
                      have hg3 : g3 < wb.heap.size := hgok3.1.1
                      clear hgc3 hgf3
                      go_wp2_with fail
                      refine ⟨⟨r + 1, by omega, by go_num, ⟨hU.out.setCell hgb3 hg3 hm⟩, ⟨?_⟩⟩, by simp [intOf]; omega⟩
                      rw [World.cell?_setCell_other _ _ _ _ (fun he => by simp only [Addr.mk.injEq] at he; omega)]
                      exact hxc.out
                    · go_wp2_with fail
                      exact ⟨⟨q + 1, by omega, by go_num, hU⟩, by simp [intOf]; omega⟩
                · go_wp2_with fail
                  exact ⟨⟨k + 1, by omega, by go_num, hU⟩, by simp [intOf]; omega⟩
            · have hWm : ∀ q, q < wb.heap.size → (wc.alloc (.cells #[.slice U0 a.shape.length e0, .slice U1 a.cells.length e1] 25)).heap[q]? = wb.heap[q]? := fun q hq => (Below.heap_alloc _ _ _ (by omega)).trans (hbwc.out.block q hq)
              have hbr : Below w.heap.size w wr := by
                have h1 := below_alloc hwc.out (.cells #[.slice U0 a.shape.length e0, .slice U1 a.cells.length e1] 25)
                exact ⟨hU.out.os.trans h1.os, hU.out.tape.trans h1.tape, hU.out.output.trans h1.output, Nat.le_trans h1.size hU.out.size, fun q hq => (hU.out.out q (Nat.lt_of_lt_of_le hq h1.size) (.inl (Nat.lt_of_lt_of_le hq hw2.out.size))).trans (h1.block q hq)⟩
              have x2 := hU.out.slice Y0.out
              have x3 := hU.out.slice Y1.out
              have c0' : (wc.alloc (.cells #[.slice U0 a.shape.length e0, .slice U1 a.cells.length e1] 25)).cell? ⟨wc.heap.size, 0, none⟩ = some (.slice U0 a.shape.length e0) := by simp
              have c1' : (wc.alloc (.cells #[.slice U0 a.shape.length e0, .slice U1 a.cells.length e1] 25)).cell? ⟨wc.heap.size, 1, none⟩ = some (.slice U1 a.cells.length e1) := by simp
              have x4 := hU.out.slice c0'
              have x5 := hU.out.slice c1'
              have hst : ∀ q, wb.heap.size + 1 ≤ q → q < wc.heap.size → wr.heap[q]? = wc.heap[q]? := fun q hq1 hq2 => (hU.out.out q (by simp; omega) (.inr (by omega))).trans (Below.heap_alloc _ _ _ hq2)
              have T0 := Kd.R_move S0.out (fun q hq => hst q (by have := hq.2.1; simp at this; omega) hq.2.2.1)
              have T1 := Kd.R_move S1.out (fun q hq => hst q (by have := hq.2.1; simp at this; omega) hq.2.2.1)
              have t0 := Aside0.mk (Kd.R_reads' T0)
              have t1 := Aside0.mk (Kd.R_reads' T1)
              replace hbr := Aside0.mk hbr
              clear hWm c0' c1' hst T0 T1
              go_wp2_with fail
              refine (refSame_calls a a A0 A1 U0 U1 c0 c1 e0 e1 _ l0 l1 t0.out.2.1 t1.out.2.1 (Kd.C_below G0.out hbr.out) (Kd.C_below G1.out hbr.out) t0.out.2.2 t1.out.2.2).mono ?_
              rintro e w8 ⟨rfl, hb8⟩
              rw [cmpA_self]
              replace hb8 := Aside0.mk hb8
              go_wp2_with fail
              refine (works3_calls _).mono ?_; rintro e w9 ⟨rfl, hb⟩
              go_wp2_with fail
              go_ret
              exact ret_below rfl (then_below (then_below hbr.out hb8.out) hb)
  · have hc1 : (chk 8 a == 0) = false := by simpa using hck
    have hc2 : (chk 8 a != 0) = true := by simpa using hck
    clear hck
    go_enter Try.func3, Try.ntmps3
    go_wp2_with fail
    refine (light3_calls a A0 A1 c0 c1 _ HW.out l0 l1 (Kd.C_below G0.out ?hb) (Kd.C_below G1.out ?hb)).mono ?_; (case hb => (repeat (first | exact Below.refl _ _ | apply below_alloc | apply below_drew | apply pw_below_drewN)))
    rintro e w1 ⟨b, rfl, hbt, hb⟩
    have hb1 := Aside0.mk (show Below w.heap.size w w1 from (then_below (by (repeat (first | exact Below.refl _ _ | apply below_alloc | apply below_drew | apply pw_below_drewN))) hb))
    have x0 : w1.cell? ⟨w.heap.size, 0, none⟩ = some (.slice A0 a.shape.length c0) := (hb.cell (p := ⟨w.heap.size, 0, none⟩) (by simp)).trans (by simp)
    have x1 : w1.cell? ⟨w.heap.size, 1, none⟩ = some (.slice A1 a.cells.length c1) := (hb.cell (p := ⟨w.heap.size, 1, none⟩) (by simp)).trans (by simp)
    clear hb
    cases b with
    | false =>
      go_wp2_with fail
      refine (works3_calls _).mono ?_; rintro e w2 ⟨rfl, hb⟩
      go_wp2_with fail
      go_ret
      exact ret_below rfl (then_below hb1.out hb)
    | true =>
      go_wp2_with fail
      refine (refCheck_calls a A0 A1 c0 c1 _ l0 l1 (Kd.C_below G0.out hb1.out) (Kd.C_below G1.out hb1.out)).mono ?_
      rintro e w2 ⟨rfl, hb2⟩
      replace hb2 := Aside0.mk hb2
      go_wp2_with fail
      refine (works3_calls _).mono ?_; rintro e w3 ⟨rfl, hb⟩
      go_wp2_with fail
      go_ret
      exact ret_below rfl (then_below (then_below hb1.out hb2.out) hb)
end Go.Proofs.Ytdfijdajkdkkfaa
