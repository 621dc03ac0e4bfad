/-
  Walks: Cmp, Cell, Same of the program's arrays: by closures.
-/
import Derived.Test.YtdfijdajkdkkfaaW5
set_option linter.unusedVariables false
set_option linter.unusedSimpArgs false
namespace Go.Proofs.Ytdfijdajkdkkfaa
open Go.RowKit Go.Proofs.YtdfijdajkdkkfaaW.PrintWords
open T
def ArrCmp (N : Nat) : Prop := ∀ (a b : Arr) (A0 A1 B0 B1 : Option Addr) (c0 c1 d0 d1 : Nat) (w : World), SizeOf.sizeOf a < N → a.shape.length ≤ c0 → a.cells.length ≤ c1 → b.shape.length ≤ d0 → b.cells.length ≤ d1 → Cint w A0 a.shape → CC w A1 a.cells → Cint w B0 b.shape → CC w B1 b.cells →
  Calls Try.prog 64 #[.agg #[.slice A0 a.shape.length c0, .slice A1 a.cells.length c1], .agg #[.slice B0 b.shape.length d0, .slice B1 b.cells.length d1]] w fun e w' => e = .returned (.int .i64 (cmpA a b)) ∧ Below w.heap.size w w'
def ArrCmpC (N : Nat) : Prop := ∀ (a b : T.Cell) (A B : Option Addr) (c d : Nat) (w : World), SizeOf.sizeOf a < N → a.box.length ≤ c → b.box.length ≤ d → CA w A a.box → CA w B b.box →
  Calls Try.prog 112 #[.agg #[.int .i64 a.kind, .int .i64 a.n, .slice A a.box.length c], .agg #[.int .i64 b.kind, .int .i64 b.n, .slice B b.box.length d]] w fun e w' => e = .returned (.int .i64 (cmpC a b)) ∧ Below w.heap.size w w'
set_option maxHeartbeats 8000000 in
set_option maxRecDepth 100000 in
theorem arrCmpC_of {N : Nat} (h : ArrCmp N) : ArrCmpC (N + 1) := by
  rintro ⟨k, n, x⟩ ⟨k', n', y⟩ A B c d w hN hc hd gA gB
  simp only [Cell.kind_mk, Cell.n_mk, Cell.box_mk] at *
  have HA := Aside0.mk gA
  have HB := Aside0.mk gB
  clear gA gB
  by_cases hk : ord k k' = 0
  · have HK := Aside0.mk hk
    clear hk
    by_cases hn : ord n n' = 0
    · have HN := Aside0.mk hn
      clear hn
      match x, y with
      | [], y =>
        go_enter Try.func112, Try.ntmps112
        go_wp2_with fail
        refine (order_calls _ _ _).mono ?_; rintro e w' ⟨rfl, rfl⟩; rw [HK.out]
        go_wp2_with fail
        refine (order64_calls _ _ _).mono ?_; rintro e w' ⟨rfl, rfl⟩; rw [HN.out]
        go_wp2_with (go_at_call 109; refine (order_calls _ _ _).mono ?_; rintro e w' ⟨rfl, rfl⟩)
        go_ret
        exact ret_below (by simp [cmpC, HK.out, HN.out, cmpB]) (by (repeat (first | exact Below.refl _ _ | apply below_alloc | apply below_drew | apply pw_below_drewN)))
      | x1 :: xr, [] =>
        go_enter Try.func112, Try.ntmps112
        go_wp2_with fail
        refine (order_calls _ _ _).mono ?_; rintro e w' ⟨rfl, rfl⟩; rw [HK.out]
        go_wp2_with fail
        refine (order64_calls _ _ _).mono ?_; rintro e w' ⟨rfl, rfl⟩; rw [HN.out]
        go_wp2_with (go_at_call 109; refine (order_calls _ _ _).mono ?_; rintro e w' ⟨rfl, rfl⟩)
        go_ret
        exact ret_below (by simp [cmpC, HK.out, HN.out, cmpB]) (by (repeat (first | exact Below.refl _ _ | apply below_alloc | apply below_drew | apply pw_below_drewN)))
      | x1 :: xr, y1 :: yr =>
        obtain ⟨ad, A0, c0, A1, c1, e, u0, u1, l0, l1, g0, g1⟩ := at_arr0 HA.out
        subst e
        obtain ⟨ad2, B0, d0, B1, d1, e, v0, v1, m0, m1, z0, z1⟩ := at_arr0 HB.out
        subst e
        replace u0 := later2 u0
        replace u1 := later2 u1
        replace v0 := later2 v0
        replace v1 := later2 v1
        replace g0 := Aside0.mk g0
        replace g1 := Aside0.mk g1
        replace z0 := Aside0.mk z0
        replace z1 := Aside0.mk z1
        have hx0 : ((xr.length : Int) + 1 == 0) = false := by rw [beq_eq_false_iff_ne]; omega
        have hy0 : ((yr.length : Int) + 1 == 0) = false := by rw [beq_eq_false_iff_ne]; omega
        have HN' := Aside0.mk (show SizeOf.sizeOf x1 < N by simp only [Cell.mk.sizeOf_spec, List.cons.sizeOf_spec] at hN; omega)
        go_enter Try.func112, Try.ntmps112
        go_wp2_with fail
        refine (order_calls _ _ _).mono ?_; rintro e w' ⟨rfl, rfl⟩; rw [HK.out]
        go_wp2_with fail
        refine (order64_calls _ _ _).mono ?_; rintro e w' ⟨rfl, rfl⟩; rw [HN.out]
        go_wp2_with fail
        refine wp_region_still_tail 8 (by kernel_rfl) (by kernel_rfl) ?_; simp only [List.take_succ_cons, List.take_zero, List.drop_succ_cons, List.drop_zero]; show wpStill _ _ (World.drew _) _ _ _; (repeat still_step); refine wpStill_nil ?_; show wpList _ _ _ _ _ (World.drew _)
        go_wp2_with (go_at_call 64; refine (h x1 y1 A0 A1 B0 B1 c0 c1 d0 d1 _ HN'.out l0 l1 m0 m1 (Kd.C_below g0.out ?hb) (Kd.C_below g1.out ?hb) (Kd.C_below z0.out ?hb) (Kd.C_below z1.out ?hb)).mono ?_; (case hb => (repeat (first | exact Below.refl _ _ | apply below_alloc | apply below_drew | apply pw_below_drewN))); rintro e w1 ⟨rfl, hb⟩)
        go_ret
        exact ret_below (by simp [cmpC, HK.out, HN.out, cmpB]) (then_below (by (repeat (first | exact Below.refl _ _ | apply below_alloc | apply below_drew | apply pw_below_drewN))) hb)
    · have hn1 : (ord n n' == 0) = false := by simpa using hn
      have hn2 : (ord n n' != 0) = true := by simpa using hn
      have HN := Aside0.mk hn
      clear hn
      go_enter Try.func112, Try.ntmps112
      go_wp2_with fail
      refine (order_calls _ _ _).mono ?_; rintro e w' ⟨rfl, rfl⟩; rw [HK.out]
      go_wp2_with (go_at_call 143; refine (order64_calls _ _ _).mono ?_; rintro e w' ⟨rfl, rfl⟩)
      go_ret
      exact ret_below (by simp [cmpC, HN.out, HK.out]) (by (repeat (first | exact Below.refl _ _ | apply below_alloc | apply below_drew | apply pw_below_drewN)))
  · have hk1 : (ord k k' == 0) = false := by simpa using hk
    have hk2 : (ord k k' != 0) = true := by simpa using hk
    have HK := Aside0.mk hk
    clear hk
    go_enter Try.func112, Try.ntmps112
    go_wp2_with (go_at_call 109; refine (order_calls _ _ _).mono ?_; rintro e w' ⟨rfl, rfl⟩)
    go_ret
    exact ret_below (by simp [cmpC, HK.out]) (by (repeat (first | exact Below.refl _ _ | apply below_alloc | apply below_drew | apply pw_below_drewN)))
/-- The first of f k, f (k + 1), .. that is not 0, of so many. -/
def firstNZ (f : Nat → Int) : Nat → Nat → Int
  | _, 0 => 0
  | k, m + 1 => if f k ≠ 0 then f k else firstNZ f (k + 1) m
theorem firstS (s t : List Int) (d : Nat) : ∀ k, k + d = s.length → s.length ≤ t.length → cmpS (s.drop k) (t.drop k) = firstNZ (fun i => ord (s.getD i 0) (t.getD i 0)) k d := by
  induction d with
  | zero => intro k hk _; rw [cmpS_end (by omega), firstNZ]
  | succ d ih => intro k hk h2; rw [refCmpS_at (by omega) (by omega), ih (k + 1) (by omega) h2]; rfl
theorem firstL (s t : List T.Cell) (d : Nat) : ∀ k, k + d = min s.length t.length → cmpL (s.drop k) (t.drop k) = firstNZ (fun i => cmpC (s.getD i zc) (t.getD i zc)) k d := by
  induction d with
  | zero => intro k hk; rw [cmpL_end (by omega), firstNZ]
  | succ d ih => intro k hk; rw [cmpL_at (by omega) (by omega), ih (k + 1) (by omega)]; rfl
set_option maxHeartbeats 8000000 in
set_option maxRecDepth 100000 in
/-- steps: the closure that asks a function at 0, 1, .. till its answer is not 0. -/
theorem steps2_calls (f : Nat → Int) (p q : Value) (n : Nat) (w : World) (hn : n ≤ 9223372036854775807)
    (hf : Aside0 (∀ (k : Nat) (W : World), k < n → Below w.heap.size w W → Calls Try.prog 110 #[.int .i64 k, p, q] W fun e w' => e = .returned (.int .i64 (f k)) ∧ Below W.heap.size W w')) :
    Calls Try.prog 108 #[.int .i64 n, .func (.func 110) #[] #[p, q]] w fun e w' => e = .returned (.int .i64 (firstNZ f 0 n)) ∧ Below w.heap.size w w' := by
  go_enter Try.func108, Try.ntmps108
  go_wp2_with fail
  go_loopw [8] (fun i W => ∃ k : Nat, k ≤ n ∧ i = .int .i64 k ∧ Aside0 (firstNZ f 0 n = firstNZ f k (n - k)) ∧ Aside0 (Below w.heap.size w W)) (fun i _ => n - (intOf i).toNat)
  case atStart => exact ⟨0, by omega, rfl, ⟨rfl⟩, ⟨Below.refl _ _⟩⟩
  case round =>
    obtain ⟨k, hk, rfl, hinv, hbl⟩ := hrel
    by_cases hlt : k < n
    · have hstep := Aside0.mk (show firstNZ f k (n - k) = if f k ≠ 0 then f k else firstNZ f (k + 1) (n - (k + 1)) by rw [show n - k = (n - (k + 1)) + 1 by omega, firstNZ])
      have hfk := Aside0.mk (hf.out k wr hlt hbl.out)
      generalize f k = r at hstep hfk
      by_cases hr : r = 0
      · subst hr
        go_wp2_with (go_at_call 110; refine hfk.out.mono ?_; rintro e w1 ⟨rfl, hb⟩)
        exact ⟨⟨k + 1, by omega, by go_num, ⟨by rw [hinv.out, hstep.out]; simp⟩, ⟨then_below hbl.out hb⟩⟩, by simp [intOf]; omega⟩
      · have hr1 : (r == 0) = false := by simpa using hr
        have hr2 : (r != 0) = true := by simpa using hr
        have hR := Aside0.mk hr
        clear hr
        go_wp2_with (go_at_call 110; refine hfk.out.mono ?_; rintro e w1 ⟨rfl, hb⟩)
        go_ret
        exact ret_below (by rw [hinv.out, hstep.out, if_pos hR.out]; rfl) (then_below hbl.out hb)
    · go_wp2_with fail
      go_ret
      exact ret_below (by rw [hinv.out, show n - k = 0 by omega]; rfl) hbl.out
set_option maxHeartbeats 8000000 in
set_option maxRecDepth 100000 in
/-- steps: the closure that asks a function at 0, 1, .. till its answer is not 0. -/
theorem steps3_calls (f : Nat → Int) (p q : Value) (n : Nat) (w : World) (hn : n ≤ 9223372036854775807)
    (hf : Aside0 (∀ (k : Nat) (W : World), k < n → Below w.heap.size w W → Calls Try.prog 111 #[.int .i64 k, p, q] W fun e w' => e = .returned (.int .i64 (f k)) ∧ Below W.heap.size W w')) :
    Calls Try.prog 108 #[.int .i64 n, .func (.func 111) #[] #[p, q]] w fun e w' => e = .returned (.int .i64 (firstNZ f 0 n)) ∧ Below w.heap.size w w' := by
  go_enter Try.func108, Try.ntmps108
  go_wp2_with fail
  go_loopw [8] (fun i W => ∃ k : Nat, k ≤ n ∧ i = .int .i64 k ∧ Aside0 (firstNZ f 0 n = firstNZ f k (n - k)) ∧ Aside0 (Below w.heap.size w W)) (fun i _ => n - (intOf i).toNat)
  case atStart => exact ⟨0, by omega, rfl, ⟨rfl⟩, ⟨Below.refl _ _⟩⟩
  case round =>
    obtain ⟨k, hk, rfl, hinv, hbl⟩ := hrel
    by_cases hlt : k < n
    · have hstep := Aside0.mk (show firstNZ f k (n - k) = if f k ≠ 0 then f k else firstNZ f (k + 1) (n - (k + 1)) by rw [show n - k = (n - (k + 1)) + 1 by omega, firstNZ])
      have hfk := Aside0.mk (hf.out k wr hlt hbl.out)
      generalize f k = r at hstep hfk
      by_cases hr : r = 0
      · subst hr
        go_wp2_with (go_at_call 111; refine hfk.out.mono ?_; rintro e w1 ⟨rfl, hb⟩)
        exact ⟨⟨k + 1, by omega, by go_num, ⟨by rw [hinv.out, hstep.out]; simp⟩, ⟨then_below hbl.out hb⟩⟩, by simp [intOf]; omega⟩
      · have hr1 : (r == 0) = false := by simpa using hr
        have hr2 : (r != 0) = true := by simpa using hr
        have hR := Aside0.mk hr
        clear hr
        go_wp2_with (go_at_call 111; refine hfk.out.mono ?_; rintro e w1 ⟨rfl, hb⟩)
        go_ret
        exact ret_below (by rw [hinv.out, hstep.out, if_pos hR.out]; rfl) (then_below hbl.out hb)
    · go_wp2_with fail
      go_ret
      exact ret_below (by rw [hinv.out, show n - k = 0 by omega]; rfl) hbl.out
set_option maxHeartbeats 8000000 in
set_option maxRecDepth 100000 in
theorem cmp2_calls (s t : List Int) (A0 B0 : Option Addr) (c0 d0 k pb qb : Nat) (w : World) (h1 : k < s.length) (h2 : k < t.length) (hp : w.cell? ⟨pb, 0, none⟩ = some (.slice A0 s.length c0)) (hq : w.cell? ⟨qb, 0, none⟩ = some (.slice B0 t.length d0)) (gs : Cint w A0 s) (gt : Cint w B0 t) :
    Calls Try.prog 110 #[.int .i64 k, .pointer (some ⟨pb, 0, none⟩), .pointer (some ⟨qb, 0, none⟩)] w fun e w' => e = .returned (.int .i64 (ord (s.getD k 0) (t.getD k 0))) ∧ Below w.heap.size w w' := by
  obtain ⟨ad, e, u0⟩ := at_int gs k h1
  subst e
  obtain ⟨ad2, e, u1⟩ := at_int gt k h2
  subst e
  generalize s.getD k 0 = p at u0
  generalize t.getD k 0 = q at u1
  clear gs gt
  go_enter Try.func110, Try.ntmps110
  go_wp2_with fail
  refine wp_region_still_tail 10 (by kernel_rfl) (by kernel_rfl) ?_; simp only [List.take_succ_cons, List.take_zero, List.drop_succ_cons, List.drop_zero]; show wpStill _ _ (World.drew _) _ _ _; (repeat still_step); refine wpStill_nil ?_; show wpList _ _ _ _ _ (World.drew _)
  go_wp2_with (go_at_call 109; refine (order_calls _ _ _).mono ?_; rintro e w' ⟨rfl, rfl⟩)
  go_ret
  exact ret_below rfl (by (repeat (first | exact Below.refl _ _ | apply below_alloc | apply below_drew | apply pw_below_drewN)))
set_option maxHeartbeats 8000000 in
set_option maxRecDepth 100000 in
theorem cmp3_calls {N : Nat} (h : ArrCmpC N) (s t : List T.Cell) (A0 B0 : Option Addr) (c0 d0 k pb qb : Nat) (w : World) (hN : SizeOf.sizeOf s ≤ N) (h1 : k < s.length) (h2 : k < t.length) (hp : w.cell? ⟨pb, 1, none⟩ = some (.slice A0 s.length c0)) (hq : w.cell? ⟨qb, 1, none⟩ = some (.slice B0 t.length d0)) (gs : CC w A0 s) (gt : CC w B0 t) :
    Calls Try.prog 111 #[.int .i64 k, .pointer (some ⟨pb, 0, none⟩), .pointer (some ⟨qb, 0, none⟩)] w fun e w' => e = .returned (.int .i64 (cmpC (s.getD k zc) (t.getD k zc))) ∧ Below w.heap.size w w' := by
  obtain ⟨ad, A2, m, e, u0, u1, u2, l2, g2⟩ := at_cell gs k h1
  subst e
  obtain ⟨ad2, B2, m2, e, v0, v1, v2, n2, z2⟩ := at_cell gt k h2
  subst e
  have HN' := Aside0.mk (Nat.lt_of_lt_of_le (getD_size (d := zc) h1) hN)
  generalize s.getD k zc = p at u0 u1 u2 l2 g2 HN'
  generalize t.getD k zc = q at v0 v1 v2 n2 z2
  replace g2 := Aside0.mk g2
  replace z2 := Aside0.mk z2
  clear gs gt
  go_enter Try.func111, Try.ntmps111
  go_wp2_with fail
  refine wp_region_still_tail 10 (by kernel_rfl) (by kernel_rfl) ?_; simp only [List.take_succ_cons, List.take_zero, List.drop_succ_cons, List.drop_zero]; show wpStill _ _ (World.drew _) _ _ _; (repeat still_step); refine wpStill_nil ?_; show wpList _ _ _ _ _ (World.drew _)
  go_wp2_with (go_at_call 112; refine (h p q A2 B2 m m2 _ HN'.out l2 n2 (Kd.C_below g2.out ?hb) (Kd.C_below z2.out ?hb)).mono ?_; (case hb => (repeat (first | exact Below.refl _ _ | apply below_alloc | apply below_drew | apply pw_below_drewN))); rintro e w1 ⟨rfl, hb⟩)
  go_ret
  exact ret_below rfl (then_below (by (repeat (first | exact Below.refl _ _ | apply below_alloc | apply below_drew | apply pw_below_drewN))) hb)
set_option maxHeartbeats 8000000 in
set_option maxRecDepth 100000 in
theorem arrCmp_of {N : Nat} (hC : ArrCmpC N) : ArrCmp (N + 1) := by
  rintro ⟨s, cs⟩ ⟨t, ds⟩ A0 A1 B0 B1 c0 c1 d0 d1 w hN l0 l1 m0 m1 gs gc ht hd
  simp only [Arr.shape_mk, Arr.cells_mk] at *
  have GS := Aside0.mk gs
  have GC := Aside0.mk gc
  have GT := Aside0.mk ht
  have GD := Aside0.mk hd
  have ms := Kd.C_max gs
  have mc := Kd.C_max gc
  have md := Kd.C_max hd
  have HN := Aside0.mk (show SizeOf.sizeOf cs ≤ N by simp only [Arr.mk.sizeOf_spec] at hN; omega)
  have HF := Aside0.mk (cmpA_eq s t cs ds)
  have HLn : Aside0 (∀ n, n = min cs.length ds.length → cmpL cs ds = firstNZ (fun i => cmpC (cs.getD i zc) (ds.getD i zc)) 0 n) := ⟨fun n hn => by have := firstL cs ds n 0 (by omega); simpa using this⟩
  clear gs gc ht hd hN
  by_cases hL : ord s.length t.length = 0
  · have hlen : s.length = t.length := by have := ord_zero.1 hL; omega
    have HL := Aside0.mk hlen
    have HO := Aside0.mk hL
    have hS := firstS s t s.length 0 (by omega) (by omega)
    simp only [List.drop_zero] at hS
    have HS := Aside0.mk hS
    have H2 : Aside0 (∀ (k : Nat) (W : World), k < s.length → Below ((w.alloc (.cells #[.slice A0 s.length c0, .slice A1 cs.length c1] 25)).alloc (.cells #[.slice B0 t.length d0, .slice B1 ds.length d1] 25)).heap.size ((w.alloc (.cells #[.slice A0 s.length c0, .slice A1 cs.length c1] 25)).alloc (.cells #[.slice B0 t.length d0, .slice B1 ds.length d1] 25)) W → Calls Try.prog 110 #[.int .i64 k, .pointer (some ⟨w.heap.size, 0, none⟩), .pointer (some ⟨w.heap.size + 1, 0, none⟩)] W fun e w' => e = .returned (.int .i64 ((fun i => ord (s.getD i 0) (t.getD i 0)) k)) ∧ Below W.heap.size W w') :=
      ⟨fun k W hk hb => cmp2_calls s t A0 B0 c0 d0 k _ _ W hk (by omega) ((hb.cell (p := ⟨w.heap.size, 0, none⟩) (by simp; omega)).trans (by simp)) ((hb.cell (p := ⟨w.heap.size + 1, 0, none⟩) (by simp)).trans (by simp)) (Kd.C_below GS.out (then_below (by (repeat (first | exact Below.refl _ _ | apply below_alloc | apply below_drew | apply pw_below_drewN))) hb)) (Kd.C_below GT.out (then_below (by (repeat (first | exact Below.refl _ _ | apply below_alloc | apply below_drew | apply pw_below_drewN))) hb))⟩
    clear hL hlen hS
    by_cases hcS : cmpS s t = 0
    · have HcS := Aside0.mk hcS
      clear hcS
      go_enter Try.func64, Try.ntmps64
      go_wp2_with fail
      refine (order_calls _ _ _).mono ?_; rintro e w' ⟨rfl, rfl⟩; rw [HO.out]
      go_wp2_with fail
      refine (steps2_calls _ _ _ s.length _ ms H2).mono ?_; rintro e w1 ⟨rfl, hb⟩; rw [← HS.out, HcS.out]
      have hb1 := Aside0.mk hb
      have x1 : w1.cell? ⟨w.heap.size, 1, none⟩ = some (.slice A1 cs.length c1) := (hb.cell (p := ⟨w.heap.size, 1, none⟩) (by simp; omega)).trans (by simp)
      have y1 : w1.cell? ⟨w.heap.size + 1, 1, none⟩ = some (.slice B1 ds.length d1) := (hb.cell (p := ⟨w.heap.size + 1, 1, none⟩) (by simp)).trans (by simp)
      clear hb
      by_cases hcL : cmpL cs ds = 0
      · have HcL := Aside0.mk hcL
        clear hcL
        go_wp2_with fail
        all_goals
          refine (steps3_calls (fun i => cmpC (cs.getD i zc) (ds.getD i zc)) _ _ _ _ (by omega) ⟨fun k W hk hb => cmp3_calls hC cs ds A1 B1 c1 d1 k _ _ W HN.out (by omega) (by omega) ((hb.cell (p := ⟨w.heap.size, 1, none⟩) (by have := hb1.out.size; simp at this ⊢; omega)).trans x1) ((hb.cell (p := ⟨w.heap.size + 1, 1, none⟩) (by have := hb1.out.size; simp at this ⊢; omega)).trans y1) (Kd.C_below GC.out (then_below (then_below (by (repeat (first | exact Below.refl _ _ | apply below_alloc | apply below_drew | apply pw_below_drewN))) hb1.out) hb)) (Kd.C_below GD.out (then_below (then_below (by (repeat (first | exact Below.refl _ _ | apply below_alloc | apply below_drew | apply pw_below_drewN))) hb1.out) hb))⟩).mono ?_
          rintro e w2 ⟨rfl, hb2⟩
          rw [← HLn.out _ (by omega)]
          rw [HcL.out]
          have x2 : w2.cell? ⟨w.heap.size, 1, none⟩ = some (.slice A1 cs.length c1) := (hb2.cell (p := ⟨w.heap.size, 1, none⟩) (by have := hb1.out.size; simp at this ⊢; omega)).trans x1
          have y2 : w2.cell? ⟨w.heap.size + 1, 1, none⟩ = some (.slice B1 ds.length d1) := (hb2.cell (p := ⟨w.heap.size + 1, 1, none⟩) (by have := hb1.out.size; simp at this ⊢; omega)).trans y1
          replace hb2 := Aside0.mk hb2
          clear x1 y1
          go_wp2_with (go_at_call 109; refine (order_calls _ _ _).mono ?_; rintro e w' ⟨rfl, rfl⟩)
          go_ret
          exact ret_below (by rw [HF.out, HO.out, HcS.out, HcL.out]; simp) (then_below (then_below (by (repeat (first | exact Below.refl _ _ | apply below_alloc | apply below_drew | apply pw_below_drewN))) hb1.out) hb2.out)
      · have h1 : (cmpL cs ds == 0) = false := by simpa using hcL
        have h2 : (cmpL cs ds != 0) = true := by simpa using hcL
        have HcL := Aside0.mk hcL
        clear hcL
        go_wp2_with fail
        all_goals
          refine (steps3_calls (fun i => cmpC (cs.getD i zc) (ds.getD i zc)) _ _ _ _ (by omega) ⟨fun k W hk hb => cmp3_calls hC cs ds A1 B1 c1 d1 k _ _ W HN.out (by omega) (by omega) ((hb.cell (p := ⟨w.heap.size, 1, none⟩) (by have := hb1.out.size; simp at this ⊢; omega)).trans x1) ((hb.cell (p := ⟨w.heap.size + 1, 1, none⟩) (by have := hb1.out.size; simp at this ⊢; omega)).trans y1) (Kd.C_below GC.out (then_below (then_below (by (repeat (first | exact Below.refl _ _ | apply below_alloc | apply below_drew | apply pw_below_drewN))) hb1.out) hb)) (Kd.C_below GD.out (then_below (then_below (by (repeat (first | exact Below.refl _ _ | apply below_alloc | apply below_drew | apply pw_below_drewN))) hb1.out) hb))⟩).mono ?_
          rintro e w2 ⟨rfl, hb2⟩
          rw [← HLn.out _ (by omega)]
          replace hb2 := Aside0.mk hb2
          go_wp2_with fail
          go_ret
          exact ret_below (by rw [HF.out, HO.out, HcS.out, if_neg (by simp), if_neg (by simp), if_pos HcL.out]; rfl) (then_below (then_below (by (repeat (first | exact Below.refl _ _ | apply below_alloc | apply below_drew | apply pw_below_drewN))) hb1.out) hb2.out)
    · have h1 : (cmpS s t == 0) = false := by simpa using hcS
      have h2 : (cmpS s t != 0) = true := by simpa using hcS
      have HcS := Aside0.mk hcS
      clear hcS
      go_enter Try.func64, Try.ntmps64
      go_wp2_with fail
      refine (order_calls _ _ _).mono ?_; rintro e w' ⟨rfl, rfl⟩; rw [HO.out]
      go_wp2_with fail
      refine (steps2_calls _ _ _ s.length _ ms H2).mono ?_; rintro e w1 ⟨rfl, hb⟩; rw [← HS.out]
      go_wp2_with fail
      go_ret
      exact ret_below (by rw [HF.out, HO.out, if_neg (by simp), if_pos HcS.out]; rfl) (then_below (by (repeat (first | exact Below.refl _ _ | apply below_alloc | apply below_drew | apply pw_below_drewN))) hb)
  · have h1 : (ord s.length t.length == 0) = false := by simpa using hL
    have h2 : (ord s.length t.length != 0) = true := by simpa using hL
    have HO := Aside0.mk hL
    clear hL
    go_enter Try.func64, Try.ntmps64
    go_wp2_with fail
    refine (order_calls _ _ _).mono ?_; rintro e w' ⟨rfl, rfl⟩
    go_wp2_with fail
    go_ret
    exact ret_below (by rw [HF.out, if_pos HO.out]; rfl) (by (repeat (first | exact Below.refl _ _ | apply below_alloc | apply below_drew | apply pw_below_drewN)))
theorem arrCmp_all : ∀ N, ArrCmp N ∧ ArrCmpC N
  | 0 => ⟨fun a b A0 A1 B0 B1 c0 c1 d0 d1 w hN => absurd hN (Nat.not_lt_zero _), fun a b A B c d w hN => absurd hN (Nat.not_lt_zero _)⟩
  | N + 1 => ⟨arrCmp_of (arrCmp_all N).2, arrCmpC_of (arrCmp_all N).1⟩
/-- arr.Same. -/
theorem arrSame_calls (a b : Arr) (A0 A1 B0 B1 : Option Addr) (c0 c1 d0 d1 : Nat) (w : World) (l0 : a.shape.length ≤ c0) (l1 : a.cells.length ≤ c1) (m0 : b.shape.length ≤ d0) (m1 : b.cells.length ≤ d1) (g0 : Cint w A0 a.shape) (g1 : CC w A1 a.cells) (z0 : Cint w B0 b.shape) (z1 : CC w B1 b.cells) :
    Calls Try.prog 73 #[.agg #[.slice A0 a.shape.length c0, .slice A1 a.cells.length c1], .agg #[.slice B0 b.shape.length d0, .slice B1 b.cells.length d1]] w fun e w' => e = .returned (.bool (cmpA a b == 0)) ∧ Below w.heap.size w w' := by
  have G0 := Aside0.mk g0
  have G1 := Aside0.mk g1
  have Z0 := Aside0.mk z0
  have Z1 := Aside0.mk z1
  clear g0 g1 z0 z1
  go_enter Try.func73, Try.ntmps73
  go_wp2_with (go_at_call 64; refine ((arrCmp_all _).1 a b A0 A1 B0 B1 c0 c1 d0 d1 _ (Nat.lt_succ_self _) l0 l1 m0 m1 (Kd.C_below G0.out ?hb) (Kd.C_below G1.out ?hb) (Kd.C_below Z0.out ?hb) (Kd.C_below Z1.out ?hb)).mono ?_; (case hb => (repeat (first | exact Below.refl _ _ | apply below_alloc | apply below_drew | apply pw_below_drewN))); rintro e w1 ⟨rfl, hb⟩)
  go_ret
  exact ret_below rfl (then_below (by (repeat (first | exact Below.refl _ _ | apply below_alloc | apply below_drew | apply pw_below_drewN))) hb)
end Go.Proofs.Ytdfijdajkdkkfaa
