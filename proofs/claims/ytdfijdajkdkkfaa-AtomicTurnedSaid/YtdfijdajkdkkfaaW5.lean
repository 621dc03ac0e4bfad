/-
  Walks: Cmp, Cell, Same of the reference.
-/
import Derived.Test.YtdfijdajkdkkfaaW4
import Derived.StillTailTactics
import Derived.BigQuiet
import Derived.Deep.RegionWith
set_option linter.unusedVariables false
set_option linter.unusedSimpArgs false
namespace Go.Proofs.Ytdfijdajkdkkfaa
open Go.RowKit Go.Proofs.YtdfijdajkdkkfaaW.PrintWords
open T
theorem then_below {w W w1 : World} (h : Below w.heap.size w W) (hb : Below W.heap.size W w1) : Below w.heap.size w w1 := below_then h h.size hb
theorem from_box2 {W w : World} {O O' : Obj} (hb : Below (w.heap.size + 2) ((w.alloc O).alloc O') W) : Below w.heap.size w W := (((Below.refl _ _).alloc (Nat.le_refl _) O).alloc (by simp) O').trans (hb.mono (by omega))
theorem on_box2 {W w w1 : World} {O O' : Obj} (hb : Below (w.heap.size + 2) ((w.alloc O).alloc O') W) (h : Below W.heap.size W w1) : Below (w.heap.size + 2) ((w.alloc O).alloc O') w1 := hb.trans (h.mono (by have := hb.size; simp at this; omega))
def RefCmp (N : Nat) : Prop := ∀ (a b : Arr) (A0 A1 B0 B1 : Option Addr) (c0 c1 d0 d1 : Nat) (w : World), SizeOf.sizeOf a < N → a.shape.length ≤ c0 → a.cells.length ≤ c1 → b.shape.length ≤ d0 → b.cells.length ≤ d1 → Cint w A0 a.shape → CC w A1 a.cells → Cint w B0 b.shape → CC w B1 b.cells →
  Calls Try.prog 67 #[.agg #[.slice A0 a.shape.length c0, .slice A1 a.cells.length c1], .agg #[.slice B0 b.shape.length d0, .slice B1 b.cells.length d1]] w fun e w' => e = .returned (.int .i64 (cmpA a b)) ∧ Below w.heap.size w w'
def RefCmpC (N : Nat) : Prop := ∀ (a b : T.Cell) (A B : Option Addr) (c d : Nat) (w : World), SizeOf.sizeOf a < N → a.box.length ≤ c → b.box.length ≤ d → CA w A a.box → CA w B b.box →
  Calls Try.prog 51 #[.agg #[.int .i64 a.kind, .int .i64 a.n, .slice A a.box.length c], .agg #[.int .i64 b.kind, .int .i64 b.n, .slice B b.box.length d]] w fun e w' => e = .returned (.int .i64 (cmpC a b)) ∧ Below w.heap.size w w'
set_option maxHeartbeats 8000000 in
set_option maxRecDepth 100000 in
theorem refCmpC_of {N : Nat} (h : RefCmp N) : RefCmpC (N + 1) := by
  rintro ⟨k, n, x⟩ ⟨k', n', y⟩ A B c d w hN hc hd gA gB
  simp only [Cell.kind_mk, Cell.n_mk, Cell.box_mk] at *
  have HA := Aside0.mk gA
  have HB := Aside0.mk gB
  clear gA gB
  by_cases hk : ord k k' = 0
  · by_cases hn : ord n n' = 0
    · have HK := Aside0.mk hk
      have HN := Aside0.mk hn
      clear hk hn
      match x, y with
      | [], y =>
        go_enter Try.func51, Try.ntmps51
        go_wp2_with fail
        refine (ints_calls _ _ _).mono ?_; rintro e w' ⟨rfl, rfl⟩; rw [HK.out]
        go_wp2_with fail
        refine (ints_calls _ _ _).mono ?_; rintro e w' ⟨rfl, rfl⟩; rw [HN.out]
        go_wp2_with (go_at_call 104; refine (ints_calls _ _ _).mono ?_; rintro e w' ⟨rfl, rfl⟩)
        go_ret
        exact ret_below (by simp [cmpC, HK.out, HN.out, cmpB]) (((Below.refl _ _).alloc (Nat.le_refl _) _).alloc (by simp) _)
      | x1 :: xr, [] =>
        go_enter Try.func51, Try.ntmps51
        go_wp2_with fail
        refine (ints_calls _ _ _).mono ?_; rintro e w' ⟨rfl, rfl⟩; rw [HK.out]
        go_wp2_with fail
        refine (ints_calls _ _ _).mono ?_; rintro e w' ⟨rfl, rfl⟩; rw [HN.out]
        go_wp2_with (go_at_call 104; refine (ints_calls _ _ _).mono ?_; rintro e w' ⟨rfl, rfl⟩)
        go_ret
        exact ret_below (by simp [cmpC, HK.out, HN.out, cmpB]) (by (repeat (first | exact Below.refl _ _ | apply below_alloc | apply below_drew | apply pw_below_drewN)))
      | x1 :: xr, y1 :: yr =>
        obtain ⟨ad, A0, c0, A1, c1, e, u0, u1, l0, l1, g0, g1⟩ := at_arr0 HA.out
        subst e
        obtain ⟨ad2, B0, d0, B1, d1, e, v0, v1, m0, m1, z0, z1⟩ := at_arr0 HB.out
        subst e
        replace u0 := later2 u0
        replace u1 := later2 u1
        replace v0 := later2 v0
        replace v1 := later2 v1
        replace g0 := Aside0.mk g0
        replace g1 := Aside0.mk g1
        replace z0 := Aside0.mk z0
        replace z1 := Aside0.mk z1
        go_enter Try.func51, Try.ntmps51
        go_wp2_with fail
        refine (ints_calls _ _ _).mono ?_; rintro e w' ⟨rfl, rfl⟩; rw [HK.out]
        go_wp2_with fail
        refine (ints_calls _ _ _).mono ?_; rintro e w' ⟨rfl, rfl⟩; rw [HN.out]
        go_wp2_with fail
        have HN' := Aside0.mk (show SizeOf.sizeOf x1 < N by simp only [Cell.mk.sizeOf_spec, List.cons.sizeOf_spec] at hN; omega)
        refine wp_region_still_tail 8 (by kernel_rfl) (by kernel_rfl) ?_; simp only [List.take_succ_cons, List.take_zero, List.drop_succ_cons, List.drop_zero]; show wpStill _ _ (World.drew _) _ _ _; (repeat still_step); refine wpStill_nil ?_; show wpList _ _ _ _ _ (World.drew _)
        go_wp2_with (go_at_call 67; refine (h x1 y1 A0 A1 B0 B1 c0 c1 d0 d1 _ HN'.out l0 l1 m0 m1 (Kd.C_below g0.out ?hb) (Kd.C_below g1.out ?hb) (Kd.C_below z0.out ?hb) (Kd.C_below z1.out ?hb)).mono ?_; (case hb => (repeat (first | exact Below.refl _ _ | apply below_alloc | apply below_drew | apply pw_below_drewN))); rintro e w1 ⟨rfl, hb⟩)
        go_ret
        exact ret_below (by simp [cmpC, HK.out, HN.out, cmpB]) (then_below (by (repeat (first | exact Below.refl _ _ | apply below_alloc | apply below_drew | apply pw_below_drewN))) hb)
    · have hn1 : (ord n n' == 0) = false := by simpa using hn
      have HN := Aside0.mk hn
      have HK := Aside0.mk hk
      clear hn hk
      go_enter Try.func51, Try.ntmps51
      go_wp2_with fail
      refine (ints_calls _ _ _).mono ?_; rintro e w' ⟨rfl, rfl⟩; rw [HK.out]
      go_wp2_with (go_at_call 104; refine (ints_calls _ _ _).mono ?_; rintro e w' ⟨rfl, rfl⟩)
      go_ret
      exact ret_below (by simp [cmpC, HN.out, HK.out]) (((Below.refl _ _).alloc (Nat.le_refl _) _).alloc (by simp) _)
  · have hk1 : (ord k k' == 0) = false := by simpa using hk
    have HK := Aside0.mk hk
    clear hk
    go_enter Try.func51, Try.ntmps51
    go_wp2_with (go_at_call 104; refine (ints_calls _ _ _).mono ?_; rintro e w' ⟨rfl, rfl⟩)
    go_ret
    exact ret_below (by simp [cmpC, HK.out]) (((Below.refl _ _).alloc (Nat.le_refl _) _).alloc (by simp) _)
theorem refCmpS_at {s t : List Int} {k : Nat} (h1 : k < s.length) (h2 : k < t.length) : cmpS (s.drop k) (t.drop k) = if ord (s.getD k 0) (t.getD k 0) ≠ 0 then ord (s.getD k 0) (t.getD k 0) else cmpS (s.drop (k + 1)) (t.drop (k + 1)) := by
  rw [drop_cons 0 h1, drop_cons 0 h2, cmpS]
theorem cmpL_at {s t : List T.Cell} {k : Nat} (h1 : k < s.length) (h2 : k < t.length) : cmpL (s.drop k) (t.drop k) = if cmpC (s.getD k zc) (t.getD k zc) ≠ 0 then cmpC (s.getD k zc) (t.getD k zc) else cmpL (s.drop (k + 1)) (t.drop (k + 1)) := by
  rw [drop_cons zc h1, drop_cons zc h2, cmpL]
theorem cmpL_end {s t : List T.Cell} {k : Nat} (h : s.length ≤ k ∨ t.length ≤ k) : cmpL (s.drop k) (t.drop k) = 0 := by
  rcases h with h | h
  · rw [List.drop_of_length_le h]; simp [cmpL]
  · rw [List.drop_of_length_le h]; cases s.drop k <;> simp [cmpL]
theorem cmpS_end {s t : List Int} {k : Nat} (h : s.length ≤ k) : cmpS (s.drop k) (t.drop k) = 0 := by
  rw [List.drop_of_length_le h]; simp [cmpS]
theorem cmpA_eq (s t : List Int) (cs ds : List T.Cell) : cmpA ⟨s, cs⟩ ⟨t, ds⟩ = if ord s.length t.length ≠ 0 then ord s.length t.length else if cmpS s t ≠ 0 then cmpS s t else if cmpL cs ds ≠ 0 then cmpL cs ds else ord cs.length ds.length := by
  simp [cmpA]
set_option maxHeartbeats 8000000 in
set_option maxRecDepth 100000 in
theorem refCmp_of {N : Nat} (h : RefCmpC N) : RefCmp (N + 1) := by
  rintro ⟨s, cs⟩ ⟨t, ds⟩ A0 A1 B0 B1 c0 c1 d0 d1 w hN l0 l1 m0 m1 gs gc ht hd
  simp only [Arr.shape_mk, Arr.cells_mk] at *
  have GS := Aside0.mk gs
  have GC := Aside0.mk gc
  have GT := Aside0.mk ht
  have GD := Aside0.mk hd
  have ms := Kd.C_max gs
  have mc := Kd.C_max gc
  have HN := Aside0.mk (show SizeOf.sizeOf cs < N by simp only [Arr.mk.sizeOf_spec] at hN; omega)
  have HF := Aside0.mk (cmpA_eq s t cs ds)
  clear gs gc ht hd hN
  go_enter Try.func67, Try.ntmps67
  go_wp2_with (go_at_call 104; refine (ints_calls _ _ _).mono ?_; rintro e w' ⟨rfl, rfl⟩)
  go_loopw [5, 6] (fun o i W => ∃ (k : Nat) (v : Int), k ≤ s.length ∧ i = .int .i64 k ∧ o = .int .i64 v ∧ Aside0 (v = 0 → s.length = t.length) ∧ Aside0 (cmpA ⟨s, cs⟩ ⟨t, ds⟩ = if v ≠ 0 then v else if cmpS (s.drop k) (t.drop k) ≠ 0 then cmpS (s.drop k) (t.drop k) else if cmpL cs ds ≠ 0 then cmpL cs ds else ord cs.length ds.length) ∧ Aside0 (Below (w.heap.size + 2) ((w.alloc (.cells #[.slice A0 s.length c0, .slice A1 cs.length c1] 25)).alloc (.cells #[.slice B0 t.length d0, .slice B1 ds.length d1] 25)) W)) (fun _ i _ => s.length - (intOf i).toNat)
  case atStart => exact ⟨0, _, by omega, rfl, rfl, ⟨fun h => by have := ord_zero.1 h; omega⟩, HF, ⟨Below.refl _ _⟩⟩
  case round =>
    obtain ⟨k, v, hk, rfl, rfl, hlen, hinv, hbl⟩ := hrel
    have x0 : wr.cell? ⟨w.heap.size, 0, none⟩ = some (.slice A0 s.length c0) := (hbl.out.cell (p := ⟨w.heap.size, 0, none⟩) (by simp)).trans (by simp)
    have y0 : wr.cell? ⟨w.heap.size + 1, 0, none⟩ = some (.slice B0 t.length d0) := (hbl.out.cell (p := ⟨w.heap.size + 1, 0, none⟩) (by simp)).trans (by simp)
    by_cases hv : v = 0 ∧ k < s.length
    · obtain ⟨rfl, hlt⟩ := hv
      have hl := Aside0.mk (hlen.out rfl)
      have hlt2 : k < t.length := by have := hl.out; omega
      obtain ⟨ad, e, u0⟩ := at_int (Kd.C_below GS.out (from_box2 hbl.out)) k hlt
      subst e
      obtain ⟨ad2, e, u1⟩ := at_int (Kd.C_below GT.out (from_box2 hbl.out)) k hlt2
      subst e
      have hstep := Aside0.mk (refCmpS_at hlt hlt2)
      generalize s.getD k 0 = p at u0 hstep
      generalize t.getD k 0 = q at u1 hstep
      have hlt3 : (k : Int) < (t.length : Int) := by omega
      go_wp2_with fail
      refine wp_region_still_tail 10 (by kernel_rfl) (by kernel_rfl) ?_; simp only [List.take_succ_cons, List.take_zero, List.drop_succ_cons, List.drop_zero]; show wpStill _ _ (World.drew _) _ _ _; (repeat still_step); refine wpStill_nil ?_; show wpList _ _ _ _ _ (World.drew _)
      go_wp2_with (go_at_call 104; refine (ints_calls _ _ _).mono ?_; rintro e w' ⟨rfl, rfl⟩)
      refine ⟨⟨k + 1, ord p q, by omega, by go_num, rfl, ⟨fun _ => hl.out⟩, ⟨?_⟩, ⟨on_box2 hbl.out (below_drew (Below.refl _ _))⟩⟩, by simp [intOf]; omega⟩
      rw [hinv.out, hstep.out]
      go_light
      by_cases hz : ord p q = 0 <;> simp [hz]
    · have hrest : Aside0 (cmpA ⟨s, cs⟩ ⟨t, ds⟩ = if v ≠ 0 then v else if cmpL cs ds ≠ 0 then cmpL cs ds else ord cs.length ds.length) := by
        refine ⟨?_⟩
        rw [hinv.out]
        by_cases hz : v = 0
        · rw [cmpS_end (by omega)]
          simp [hz]
        · simp [hz]
      have hcase : (v = 0 ∧ ¬ k < s.length) ∨ ((v == 0) = false ∧ k < s.length) ∨ ((v == 0) = false ∧ ¬ k < s.length) := by
        by_cases hz : v = 0
        · exact .inl ⟨hz, fun h => hv ⟨hz, h⟩⟩
        · by_cases h : k < s.length
          · exact .inr (.inl ⟨by simpa using hz, h⟩)
          · exact .inr (.inr ⟨by simpa using hz, h⟩)
      clear hv hlen hinv
      rcases hcase with ⟨rfl, hlt⟩ | ⟨hv', hlt⟩ | ⟨hv', hlt⟩
      all_goals
        go_wp2_with fail
        clear x0 y0
        go_loopw [5, 7] (fun o i W => ∃ (k : Nat) (v : Int), k ≤ cs.length ∧ i = .int .i64 k ∧ o = .int .i64 v ∧ Aside0 (cmpA ⟨s, cs⟩ ⟨t, ds⟩ = if v ≠ 0 then v else if cmpL (cs.drop k) (ds.drop k) ≠ 0 then cmpL (cs.drop k) (ds.drop k) else ord cs.length ds.length) ∧ Aside0 (Below (w.heap.size + 2) ((w.alloc (.cells #[.slice A0 s.length c0, .slice A1 cs.length c1] 25)).alloc (.cells #[.slice B0 t.length d0, .slice B1 ds.length d1] 25)) W)) (fun _ i _ => cs.length - (intOf i).toNat)
        case atStart => exact ⟨0, _, by omega, rfl, rfl, hrest, hbl⟩
        case round =>
          clear hrest hbl
          obtain ⟨k, v, hk, rfl, rfl, hinv, hbl⟩ := hrel
          have x1 : wr.cell? ⟨w.heap.size, 1, none⟩ = some (.slice A1 cs.length c1) := (hbl.out.cell (p := ⟨w.heap.size, 1, none⟩) (by simp)).trans (by simp)
          have y1 : wr.cell? ⟨w.heap.size + 1, 1, none⟩ = some (.slice B1 ds.length d1) := (hbl.out.cell (p := ⟨w.heap.size + 1, 1, none⟩) (by simp)).trans (by simp)
          by_cases hv : v = 0 ∧ k < cs.length ∧ k < ds.length
          · obtain ⟨rfl, hlt, hlt2⟩ := hv
            obtain ⟨ad, A2, m, e, u0, u1, u2, l2, g2⟩ := at_cell (Kd.C_below GC.out (from_box2 hbl.out)) k hlt
            subst e
            obtain ⟨ad2, B2, m2, e, v0, v1, v2, n2, z2⟩ := at_cell (Kd.C_below GD.out (from_box2 hbl.out)) k hlt2
            subst e
            have hstep := Aside0.mk (cmpL_at hlt hlt2)
            have HN' := Aside0.mk (Nat.lt_trans (getD_size (d := zc) hlt) HN.out)
            generalize cs.getD k zc = p at u0 u1 u2 l2 g2 hstep HN'
            generalize ds.getD k zc = q at v0 v1 v2 n2 z2 hstep
            replace g2 := Aside0.mk g2
            replace z2 := Aside0.mk z2
            have hlt3 : (k : Int) < (ds.length : Int) := by omega
            go_wp2_with fail
            refine wp_region_still_tail 10 (by kernel_rfl) (by kernel_rfl) ?_; simp only [List.take_succ_cons, List.take_zero, List.drop_succ_cons, List.drop_zero]; show wpStill _ _ (World.drew _) _ _ _; (repeat still_step); refine wpStill_nil ?_; show wpList _ _ _ _ _ (World.drew _)
            go_wp2_with (go_at_call 51; refine (h p q A2 B2 m m2 _ HN'.out l2 n2 (Kd.C_below g2.out ?hb) (Kd.C_below z2.out ?hb)).mono ?_; (case hb => (repeat (first | exact Below.refl _ _ | apply below_alloc | apply below_drew | apply pw_below_drewN))); rintro e w1 ⟨rfl, hb⟩)
            refine ⟨⟨k + 1, cmpC p q, by omega, by go_num, rfl, ⟨?_⟩, ⟨on_box2 hbl.out (then_below (by (repeat (first | exact Below.refl _ _ | apply below_alloc | apply below_drew | apply pw_below_drewN))) hb)⟩⟩, by simp [intOf]; omega⟩
            rw [hinv.out, hstep.out]
            go_light
            by_cases hz : cmpC p q = 0 <;> simp [hz]
          · have hrest : Aside0 (cmpA ⟨s, cs⟩ ⟨t, ds⟩ = if v ≠ 0 then v else ord cs.length ds.length) := by
              refine ⟨?_⟩
              rw [hinv.out]
              by_cases hz : v = 0
              · rw [cmpL_end (by omega)]
                simp [hz]
              · simp [hz]
            clear hinv
            by_cases hz : v = 0
            · subst hz
              by_cases hlt : k < cs.length
              · have hlt2 : ¬ (k : Int) < (ds.length : Int) := by omega
                go_wp2_with (go_at_call 104; refine (ints_calls _ _ _).mono ?_; rintro e w' ⟨rfl, rfl⟩)
                go_ret
                exact ret_below (by rw [hrest.out]; simp) (from_box2 hbl.out)
              · go_wp2_with (go_at_call 104; refine (ints_calls _ _ _).mono ?_; rintro e w' ⟨rfl, rfl⟩)
                go_ret
                exact ret_below (by rw [hrest.out]; simp) (from_box2 hbl.out)
            · have hz' : (v == 0) = false := by simpa using hz
              have hr := Aside0.mk (hrest.out.trans (if_pos hz))
              clear hz hrest
              by_cases hlt : k < cs.length
              · by_cases hlt2 : (k : Int) < (ds.length : Int)
                · go_wp2_with fail
                  go_ret
                  exact ret_below (by rw [hr.out]; rfl) (from_box2 hbl.out)
                · go_wp2_with fail
                  go_ret
                  exact ret_below (by rw [hr.out]; rfl) (from_box2 hbl.out)
              · go_wp2_with fail
                go_ret
                exact ret_below (by rw [hr.out]; rfl) (from_box2 hbl.out)
theorem refCmp_all : ∀ N, RefCmp N ∧ RefCmpC N
  | 0 => ⟨fun a b A0 A1 B0 B1 c0 c1 d0 d1 w hN => absurd hN (Nat.not_lt_zero _), fun a b A B c d w hN => absurd hN (Nat.not_lt_zero _)⟩
  | N + 1 => ⟨refCmp_of (refCmp_all N).2, refCmpC_of (refCmp_all N).1⟩
/-- ref03.Same. -/
theorem refSame_calls (a b : Arr) (A0 A1 B0 B1 : Option Addr) (c0 c1 d0 d1 : Nat) (w : World) (l0 : a.shape.length ≤ c0) (l1 : a.cells.length ≤ c1) (m0 : b.shape.length ≤ d0) (m1 : b.cells.length ≤ d1) (g0 : Cint w A0 a.shape) (g1 : CC w A1 a.cells) (z0 : Cint w B0 b.shape) (z1 : CC w B1 b.cells) :
    Calls Try.prog 22 #[.agg #[.slice A0 a.shape.length c0, .slice A1 a.cells.length c1], .agg #[.slice B0 b.shape.length d0, .slice B1 b.cells.length d1]] w fun e w' => e = .returned (.bool (cmpA a b == 0)) ∧ Below w.heap.size w w' := by
  have G0 := Aside0.mk g0
  have G1 := Aside0.mk g1
  have Z0 := Aside0.mk z0
  have Z1 := Aside0.mk z1
  clear g0 g1 z0 z1
  go_enter Try.func22, Try.ntmps22
  go_wp2_with (go_at_call 67; refine ((refCmp_all _).1 a b A0 A1 B0 B1 c0 c1 d0 d1 _ (Nat.lt_succ_self _) l0 l1 m0 m1 (Kd.C_below G0.out ?hb) (Kd.C_below G1.out ?hb) (Kd.C_below Z0.out ?hb) (Kd.C_below Z1.out ?hb)).mono ?_; (case hb => (repeat (first | exact Below.refl _ _ | apply below_alloc | apply below_drew | apply pw_below_drewN))); rintro e w1 ⟨rfl, hb⟩)
  go_ret
  exact ret_below rfl (then_below (by (repeat (first | exact Below.refl _ _ | apply below_alloc | apply below_drew | apply pw_below_drewN))) hb)
end Go.Proofs.Ytdfijdajkdkkfaa
