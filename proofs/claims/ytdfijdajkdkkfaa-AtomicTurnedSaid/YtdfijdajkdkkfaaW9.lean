/-
  Walks: Place.
-/
import Derived.Test.YtdfijdajkdkkfaaW8
set_option linter.unusedVariables false
set_option linter.unusedSimpArgs false
namespace Go.Proofs.Ytdfijdajkdkkfaa
open Go.RowKit Go.Proofs.YtdfijdajkdkkfaaW.PrintWords Go.Proofs.YtdfijdajkdkkfaaW.PrintLast
open T
def T.placeGo : List Int → List Int → Int → Int × Int
  | d :: ds, k :: ks, n => if k < 0 ∨ d ≤ k then (0, 8) else T.placeGo ds ks (wrap64 (wrap64 (n * d) + k))
  | _, _, n => (n, 0)
def T.place (s l : List Int) : Int × Int := if (size s).2 ≠ 0 then (0, (size s).2) else if l.length ≠ s.length then (0, 6) else T.placeGo s l 0
theorem placeGo_at {s l : List Int} {k : Nat} {n : Int} (h1 : k < s.length) (h2 : k < l.length) : T.placeGo (s.drop k) (l.drop k) n = if l.getD k 0 < 0 ∨ s.getD k 0 ≤ l.getD k 0 then (0, 8) else T.placeGo (s.drop (k + 1)) (l.drop (k + 1)) (wrap64 (wrap64 (n * s.getD k 0) + l.getD k 0)) := by
  rw [drop_cons 0 h1, drop_cons 0 h2, T.placeGo]
theorem placeGo_end {s l : List Int} {k : Nat} {n : Int} (h1 : s.length ≤ k) : T.placeGo (s.drop k) (l.drop k) n = (n, 0) := by
  rw [List.drop_of_length_le h1]; simp [T.placeGo]
set_option maxHeartbeats 8000000 in
set_option maxRecDepth 100000 in
theorem arrPlace_calls (s l : List Int) (A B : Option Addr) (c d : Nat) (w : World) (hc : s.length ≤ c) (hd : l.length ≤ d) (gs : Cint w A s) (gl : Cint w B l) :
    Calls Try.prog 62 #[.slice A s.length c, .slice B l.length d] w fun e w' => e = .returned (.tuple #[.int .i64 (T.place s l).1, .int .i64 (T.place s l).2]) ∧ w = w' := by
  have GS := Aside0.mk gs
  have GL := Aside0.mk gl
  have ms := Kd.C_max gs
  clear gs gl
  obtain ⟨z, e, hze⟩ : ∃ z e, size s = (z, e) := ⟨_, _, rfl⟩
  have HZ := Aside0.mk hze
  clear hze
  by_cases he : e = 0
  · subst he
    by_cases hl : l.length = s.length
    · have HL := Aside0.mk hl
      have hl1 : ((l.length : Int) == (s.length : Int)) = true := by rw [beq_iff_eq]; omega
      have hl2 : ((l.length : Int) != (s.length : Int)) = false := by rw [bne_eq_false_iff_eq]; omega
      have HP := Aside0.mk (show T.place s l = T.placeGo (s.drop 0) (l.drop 0) 0 by simp [T.place, HZ.out, hl])
      clear hl
      go_enter Try.func62, Try.ntmps62
      go_wp2_with (go_at_call 61; refine (arrSize_calls _ _ _ _ GS.out hc).mono ?_; rintro e w' ⟨rfl, rfl⟩; rw [HZ.out])
      go_loop [8, 26] (fun n i => ∃ (k : Nat) (v : Int), k ≤ l.length ∧ i = .int .i64 k ∧ n = .int .i64 v ∧ Aside0 (T.place s l = T.placeGo (s.drop k) (l.drop k) v)) (fun _ i => l.length - (intOf i).toNat)
      case atStart => exact ⟨0, 0, by omega, rfl, rfl, HP⟩
      case round =>
        obtain ⟨k, v, hk, rfl, rfl, hinv⟩ := hrel
        by_cases hlt : k < l.length
        · have hlt2 : k < s.length := by have := HL.out; omega
          obtain ⟨ad, ea, u0⟩ := at_int GS.out k hlt2
          subst ea
          obtain ⟨ad2, ea, u1⟩ := at_int GL.out k hlt
          subst ea
          have hst := Aside0.mk (placeGo_at (n := v) hlt2 hlt)
          generalize s.getD k 0 = p at u0 hst
          generalize l.getD k 0 = q at u1 hst
          go_wp2
          all_goals first
            | (go_ret2; exact ⟨by rw [hinv.out, hst.out, if_pos (by omega)]; rfl, rfl⟩)
            | exact ⟨⟨k + 1, wrap64 (wrap64 (v * p) + q), by omega, by go_num, rfl, ⟨by rw [hinv.out, hst.out, if_neg (by omega)]⟩⟩, by simp [intOf]; omega⟩
        · go_wp2
          go_ret2
          exact ⟨by rw [hinv.out, placeGo_end (by have := HL.out; omega)]; rfl, rfl⟩
    · have hl1 : ((l.length : Int) == (s.length : Int)) = false := by rw [beq_eq_false_iff_ne]; omega
      have hl2 : ((l.length : Int) != (s.length : Int)) = true := by rw [bne_iff_ne]; omega
      have HL := Aside0.mk hl
      clear hl
      go_enter Try.func62, Try.ntmps62
      go_wp2_with (go_at_call 61; refine (arrSize_calls _ _ _ _ GS.out hc).mono ?_; rintro e w' ⟨rfl, rfl⟩; rw [HZ.out])
      go_ret2
      exact ⟨by simp [T.place, HZ.out, HL.out], rfl⟩
  · have he' : (e == 0) = false := by simpa using he
    have he'' : (e != 0) = true := by simpa using he
    have HE := Aside0.mk he
    clear he
    go_enter Try.func62, Try.ntmps62
    go_wp2_with (go_at_call 61; refine (arrSize_calls _ _ _ _ GS.out hc).mono ?_; rintro e w' ⟨rfl, rfl⟩; rw [HZ.out])
    go_ret2
    exact ⟨by simp [T.place, HZ.out, HE.out], rfl⟩
theorem calls_val {P : Program} {f : FuncId} {args : Array Value} {w : World} {k : IntKind} {v v' : Int} {B : World → Prop} (h : Calls P f args w fun e w' => e = .returned (.int k v) ∧ B w') (hv : v = v') : Calls P f args w fun e w' => e = .returned (.int k v') ∧ B w' := hv ▸ h
theorem MadeA.open_ {a : Arr} {w : World} {e : Ending} {w' : World} (h : MadeA a w e w') : ∃ A0 c0 A1 c1, e = .returned (.agg #[.slice A0 a.shape.length c0, .slice A1 a.cells.length c1]) ∧ a.shape.length ≤ c0 ∧ a.cells.length ≤ c1 ∧ Cint w' A0 a.shape ∧ CC w' A1 a.cells ∧ Below w.heap.size w w' := by
  obtain ⟨v0, v1, rfl, hM, hb⟩ := h
  obtain ⟨A0, c0, A1, c1, he, l0, l1, g0, g1⟩ := kA_open (kA.K_of_M hM)
  simp only [List.cons.injEq, and_true] at he
  obtain ⟨rfl, rfl⟩ := he
  exact ⟨A0, c0, A1, c1, rfl, l0, l1, g0, g1, hb⟩
theorem lit_ints (w : World) (l : List Int) (e : TypeId) (hl : l.length ≤ 9223372036854775807) : Cint (w.alloc (.cells (l.map (Value.int .i64)).toArray e)) (some ⟨w.heap.size, 0, none⟩) l := by
  have h := OwnRow.lit (R := (Kd.int .i64).M (w.alloc (.cells (l.map (Value.int .i64)).toArray e)) w.heap.size (fun _ => True)) (e := e) (size := 1) (ps := l) (inner := l.map (Value.int .i64)) w w.heap.size (Kd.reps_scalar (enc := Value.int .i64) l) (Nat.le_refl _) hl
  obtain ⟨A, c, he, _, hr⟩ := OwnRow.reads h
  injection he with he _ _
  subst he
  exact hr.imp_ (Below.refl _ _) (fun _ _ hp => hp)
theorem lit_ints' (w : World) (l : List Int) (e : TypeId) (g : Nat) (hg : g = w.heap.size) (hl : l.length ≤ 9223372036854775807) : Cint (w.alloc (.cells (l.map (Value.int .i64)).toArray e)) (some ⟨g, 0, none⟩) l := by subst hg; exact lit_ints w l e hl
set_option maxHeartbeats 8000000 in
set_option maxRecDepth 100000 in
theorem works3_calls (w : World) : Calls Try.prog 20 #[] w fun e w' => e = .returned (.bool true) ∧ Below w.heap.size w w' := by
  go_enter Try.func20, Try.ntmps20
  go_wp2_with fail
  refine (arrNums_calls [1, 2] _ 2 _ (by decide) (by decide) (lit_ints w [1, 2] 2 (by decide))).mono ?_
  rintro e w1 hm
  obtain ⟨A0, c0, A1, c1, rfl, l0, l1, g0, g1, hb⟩ : ∃ A0 c0 A1 c1, e = .returned (.agg #[.slice A0 1 c0, .slice A1 2 c1]) ∧ 1 ≤ c0 ∧ 2 ≤ c1 ∧ Cint w1 A0 [2] ∧ CC w1 A1 [T.numc 1, T.numc 2] ∧ Below (w.alloc (.cells #[.int .i64 1, .int .i64 2] 2)).heap.size (w.alloc (.cells #[.int .i64 1, .int .i64 2] 2)) w1 := hm.open_
  have HG0 := Aside0.mk g0
  have HG1 := Aside0.mk g1
  replace hb := Aside0.mk hb
  clear hm g0 g1
  go_wp2_with fail
  refine (arrSize_calls _ 2 [2, 3] _ (lit_ints' _ [2, 3] 3 _ (by simp) (by decide)) (by decide)).mono ?_
  rintro e w' ⟨rfl, rfl⟩
  rw [show size [2, 3] = (6, 0) by decide]
  go_wp2_with fail
  refine (arrPlace_calls [2, 3] [1, 2] _ _ 2 2 _ (by decide) (by decide) (Cint_alloc (lit_ints' _ [2, 3] 3 _ (by simp) (by decide)) _) (lit_ints' _ [1, 2] 3 _ (by simp) (by decide))).mono ?_
  rintro e w' ⟨rfl, rfl⟩
  rw [show T.place [2, 3] [1, 2] = (5, 0) by decide +kernel]
  go_wp2_with fail
  have hw1 : Aside0 (Below w.heap.size w w1) := ⟨then_below (by (repeat (first | exact Below.refl _ _ | apply below_alloc | apply below_drew | apply pw_below_drewN))) hb.out⟩
  refine start_ (n := 38) (S := fun w' => w'.cell? ⟨w1.heap.size, 0, none⟩ = some (.slice A0 1 c0) ∧ w'.cell? ⟨w1.heap.size, 1, none⟩ = some (.slice A1 2 c1)) (ds := []) #[false, false, false, false, false, false, false, false, false, false, false, false, false, false, false, false, false, false, false, false, false, false, false, false, false, false, false, false, false, false, false, false, false, false, false, false, false, false] (by kernel_rfl) rfl rfl ⟨(by go_simp), (by go_simp)⟩ (fun hHeld => ?_)
  refine pure_ (i := 0) (N := some 19) (v := ?_) (a' := ?_) #[true, false, false, false, false, false, false, false, false, false, false, false, false, false, false, false, false, false, false, false, false, false, false, false, false, false, false, false, false, false, false, false, false, false, false, false, false, false] rfl rfl (by kernel_rfl) (fun _ _ _ h => h) (Or.inl ⟨by rfl, ?_⟩) ?_ ?_
  rotate_left
  · intro w'
    go_simp
    with_reducible rfl
  rotate_left
  · simp only [Act.put, List.setIfInBounds_toArray, List.set_cons_zero, List.set_cons_succ, i64_w, i32_w]
    rfl
  refine take_ (i := 1) (N := some 20) (v := ?_) (a' := ?_) #[true, true, false, false, false, false, false, false, false, false, false, false, false, false, false, false, false, false, false, false, false, false, false, false, false, false, false, false, false, false, false, false, false, false, false, false, false, false] rfl rfl (by kernel_rfl) (fun _ _ _ h => h) (Or.inl ⟨by rfl, ?_⟩) hHeld ?_ ?_
  rotate_left
  · rintro w' ⟨s0, s1⟩
    go_simp
    with_reducible rfl
  rotate_left
  · simp only [Act.put, List.setIfInBounds_toArray, List.set_cons_zero, List.set_cons_succ, i64_w, i32_w]
    rfl
  refine pure_ (i := 2) (N := some 21) (v := ?_) (a' := ?_) #[true, true, true, false, false, false, false, false, false, false, false, false, false, false, false, false, false, false, false, false, false, false, false, false, false, false, false, false, false, false, false, false, false, false, false, false, false, false] rfl rfl (by kernel_rfl) (fun _ _ _ h => h) (Or.inl ⟨by rfl, ?_⟩) ?_ ?_
  rotate_left
  · intro w'
    go_simp
    with_reducible rfl
  rotate_left
  · simp only [Act.put, List.setIfInBounds_toArray, List.set_cons_zero, List.set_cons_succ, i64_w, i32_w]
    rfl
  refine pure_ (i := 3) (N := some 22) (v := ?_) (a' := ?_) #[true, true, true, true, false, false, false, false, false, false, false, false, false, false, false, false, false, false, false, false, false, false, false, false, false, false, false, false, false, false, false, false, false, false, false, false, false, false] rfl rfl (by kernel_rfl) (fun _ _ _ h => h) (Or.inl ⟨by rfl, ?_⟩) ?_ ?_
  rotate_left
  · intro w'
    go_simp
    with_reducible rfl
  rotate_left
  · simp only [Act.put, List.setIfInBounds_toArray, List.set_cons_zero, List.set_cons_succ, i64_w, i32_w]
    rfl
  refine pure_ (i := 4) (N := some 23) (v := ?_) (a' := ?_) #[true, true, true, true, true, false, false, false, false, false, false, false, false, false, false, false, false, false, false, false, false, false, false, false, false, false, false, false, false, false, false, false, false, false, false, false, false, false] rfl rfl (by kernel_rfl) (fun _ _ _ h => h) (Or.inl ⟨by rfl, ?_⟩) ?_ ?_
  rotate_left
  · intro w'
    go_simp
    with_reducible rfl
  rotate_left
  · simp only [Act.put, List.setIfInBounds_toArray, List.set_cons_zero, List.set_cons_succ, i64_w, i32_w]
    rfl
  refine take_ (i := 5) (N := some 24) (v := ?_) (a' := ?_) #[true, true, true, true, true, true, false, false, false, false, false, false, false, false, false, false, false, false, false, false, false, false, false, false, false, false, false, false, false, false, false, false, false, false, false, false, false, false] rfl rfl (by kernel_rfl) (fun _ _ _ h => h) (Or.inl ⟨by rfl, ?_⟩) hHeld ?_ ?_
  rotate_left
  · rintro w' ⟨s0, s1⟩
    go_simp
    with_reducible rfl
  rotate_left
  · simp only [Act.put, List.setIfInBounds_toArray, List.set_cons_zero, List.set_cons_succ, i64_w, i32_w]
    rfl
  refine one_ (i := 6) (N := some 25) #[true, true, true, true, true, true, true, false, false, false, false, false, false, false, false, false, false, false, false, false, false, false, false, false, false, false, false, false, false, false, false, false, false, false, false, false, false, false] rfl rfl (by kernel_rfl) (by decide) (fun K hK => ?_)
  have HZ : w1.heap.size < w1.heap.size + 1 := by omega
  refine goes_ Try.func63 (by kernel_rfl) rfl #[.agg #[.slice A0 1 c0, .slice A1 2 c1]] (by rfl) rfl rfl (by simp only [List.map_toArray, List.map_cons, List.map_nil]; rfl) ?_
  refine (calls_val (v' := 0) (arrCheck_calls (T.nums [1, 2]) A0 A1 c0 c1 _ l0 l1 (Kd.C_below HG0.out (by (repeat (first | exact Below.refl _ _ | apply below_alloc | apply below_drew | apply pw_below_drewN)))) (Kd.C_below HG1.out (by (repeat (first | exact Below.refl _ _ | apply below_alloc | apply below_drew | apply pw_below_drewN))))) (by decide +kernel)).mono ?_
  rintro e w2 ⟨rfl, hb2⟩
  refine ⟨_, rfl, ?_⟩
  have hw2 : Aside0 (Below w1.heap.size w1 w2) := ⟨then_below (by (repeat (first | exact Below.refl _ _ | apply below_alloc | apply below_drew | apply pw_below_drewN))) hb2⟩
  have HZ2 : w1.heap.size < w2.heap.size := by have := hb2.size; simp at this; omega
  replace hb2 := Aside0.mk hb2
  refine hK.out _ _ ⟨(hb2.out.cell (p := ⟨w1.heap.size, 0, none⟩) (by have := HZ; simp <;> omega)).trans hHeld.1, (hb2.out.cell (p := ⟨w1.heap.size, 1, none⟩) (by have := HZ; simp <;> omega)).trans hHeld.2⟩ (fun hHeld => ?_)
  clear hK K
  refine norm_ (a' := ?_) ?_ ?_
  rotate_left
  · show Act.put _ (some 25) _ = _
    simp only [Act.put, List.setIfInBounds_toArray, List.set_cons_zero, List.set_cons_succ, i64_w, i32_w]
    rfl
  refine pure_ (i := 7) (N := some 26) (v := ?_) (a' := ?_) #[true, true, true, true, true, true, true, true, false, false, false, false, false, false, false, false, false, false, false, false, false, false, false, false, false, false, false, false, false, false, false, false, false, false, false, false, false, false] rfl rfl (by kernel_rfl) (fun _ _ _ h => h) (Or.inl ⟨by rfl, ?_⟩) ?_ ?_
  rotate_left
  · intro w'
    go_simp
    with_reducible rfl
  rotate_left
  · simp only [Act.put, List.setIfInBounds_toArray, List.set_cons_zero, List.set_cons_succ, i64_w, i32_w]
    rfl
  refine pure_ (i := 8) (N := some 27) (v := ?_) (a' := ?_) #[true, true, true, true, true, true, true, true, true, false, false, false, false, false, false, false, false, false, false, false, false, false, false, false, false, false, false, false, false, false, false, false, false, false, false, false, false, false] rfl rfl (by kernel_rfl) (fun _ _ _ h => h) (Or.inl ⟨by rfl, ?_⟩) ?_ ?_
  rotate_left
  · intro w'
    go_simp
    with_reducible rfl
  rotate_left
  · simp only [Act.put, List.setIfInBounds_toArray, List.set_cons_zero, List.set_cons_succ, i64_w, i32_w]
    rfl
  refine pure_ (i := 9) (N := some 28) (v := ?_) (a' := ?_) #[true, true, true, true, true, true, true, true, true, true, false, false, false, false, false, false, false, false, false, false, false, false, false, false, false, false, false, false, false, false, false, false, false, false, false, false, false, false] rfl rfl (by kernel_rfl) (fun _ _ _ h => h) (Or.inl ⟨by rfl, ?_⟩) ?_ ?_
  rotate_left
  · intro w'
    go_simp
    with_reducible rfl
  rotate_left
  · simp only [Act.put, List.setIfInBounds_toArray, List.set_cons_zero, List.set_cons_succ, i64_w, i32_w]
    rfl
  refine one_ (i := 10) (N := some 29) #[true, true, true, true, true, true, true, true, true, true, true, false, false, false, false, false, false, false, false, false, false, false, false, false, false, false, false, false, false, false, false, false, false, false, false, false, false, false] rfl rfl (by kernel_rfl) (by decide) (fun K hK => ?_)
  refine value_ (w1 := ?_) (v := ?_) (by rfl) rfl ?_ ?_
  rotate_left 2
  · go_simp
    constructor
    · rfl
    · rfl
  refine hK.out _ _ ⟨later hHeld.1 _, later hHeld.2 _⟩ (fun hHeld => ?_)
  clear hK K
  refine norm_ (a' := ?_) ?_ ?_
  rotate_left
  · show Act.put _ (some 29) _ = _
    simp only [Act.put, List.setIfInBounds_toArray, List.set_cons_zero, List.set_cons_succ, i64_w, i32_w]
    rfl
  refine pure_ (i := 11) (N := some 30) (v := ?_) (a' := ?_) #[true, true, true, true, true, true, true, true, true, true, true, true, false, false, false, false, false, false, false, false, false, false, false, false, false, false, false, false, false, false, false, false, false, false, false, false, false, false] rfl rfl (by kernel_rfl) (fun _ _ _ h => h) (Or.inl ⟨by rfl, ?_⟩) ?_ ?_
  rotate_left
  · intro w'
    go_simp
    with_reducible rfl
  rotate_left
  · simp only [Act.put, List.setIfInBounds_toArray, List.set_cons_zero, List.set_cons_succ, i64_w, i32_w]
    rfl
  refine one_ (i := 12) (N := some 31) #[true, true, true, true, true, true, true, true, true, true, true, true, true, false, false, false, false, false, false, false, false, false, false, false, false, false, false, false, false, false, false, false, false, false, false, false, false, false] rfl rfl (by kernel_rfl) (by decide) (fun K hK => ?_)
  refine goes_ Try.func63 (by kernel_rfl) rfl #[.agg #[.slice (some ⟨w2.heap.size, 0, none⟩) 1 1, .slice none 0 0]] (by rfl) rfl rfl (by simp only [List.map_toArray, List.map_cons, List.map_nil]; rfl) ?_
  refine (calls_val (v' := 1) (arrCheck_calls ⟨[3], []⟩ (some ⟨w2.heap.size, 0, none⟩) none 1 0 _ (by decide) (by decide) (lit_ints' _ [3] 3 _ rfl (by decide)) (Kd.C_nil _ _)) (by decide +kernel)).mono ?_
  rintro e w3 ⟨rfl, hb3⟩
  refine ⟨_, rfl, ?_⟩
  have hw3 : Aside0 (Below w1.heap.size w1 w3) := ⟨then_below (by apply below_alloc; exact hw2.out) hb3⟩
  have HZ3 : w1.heap.size < w3.heap.size := by have := hb3.size; simp at this; omega
  replace hb3 := Aside0.mk hb3
  refine hK.out _ _ ⟨(hb3.out.cell (p := ⟨w1.heap.size, 0, none⟩) (by have := HZ; simp <;> omega)).trans hHeld.1, (hb3.out.cell (p := ⟨w1.heap.size, 1, none⟩) (by have := HZ; simp <;> omega)).trans hHeld.2⟩ (fun hHeld => ?_)
  clear hK K
  refine norm_ (a' := ?_) ?_ ?_
  rotate_left
  · show Act.put _ (some 31) _ = _
    simp only [Act.put, List.setIfInBounds_toArray, List.set_cons_zero, List.set_cons_succ, i64_w, i32_w]
    rfl
  refine pure_ (i := 13) (N := some 32) (v := ?_) (a' := ?_) #[true, true, true, true, true, true, true, true, true, true, true, true, true, true, false, false, false, false, false, false, false, false, false, false, false, false, false, false, false, false, false, false, false, false, false, false, false, false] rfl rfl (by kernel_rfl) (fun _ _ _ h => h) (Or.inl ⟨by rfl, ?_⟩) ?_ ?_
  rotate_left
  · intro w'
    go_simp
    with_reducible rfl
  rotate_left
  · simp only [Act.put, List.setIfInBounds_toArray, List.set_cons_zero, List.set_cons_succ, i64_w, i32_w]
    rfl
  refine pure_ (i := 14) (N := some 33) (v := ?_) (a' := ?_) #[true, true, true, true, true, true, true, true, true, true, true, true, true, true, true, false, false, false, false, false, false, false, false, false, false, false, false, false, false, false, false, false, false, false, false, false, false, false] rfl rfl (by kernel_rfl) (fun _ _ _ h => h) (Or.inl ⟨by rfl, ?_⟩) ?_ ?_
  rotate_left
  · intro w'
    go_simp
    with_reducible rfl
  rotate_left
  · simp only [Act.put, List.setIfInBounds_toArray, List.set_cons_zero, List.set_cons_succ, i64_w, i32_w]
    rfl
  refine pure_ (i := 15) (N := some 34) (v := ?_) (a' := ?_) #[true, true, true, true, true, true, true, true, true, true, true, true, true, true, true, true, false, false, false, false, false, false, false, false, false, false, false, false, false, false, false, false, false, false, false, false, false, false] rfl rfl (by kernel_rfl) (fun _ _ _ h => h) (Or.inl ⟨by rfl, ?_⟩) ?_ ?_
  rotate_left
  · intro w'
    go_simp
    with_reducible rfl
  rotate_left
  · simp only [Act.put, List.setIfInBounds_toArray, List.set_cons_zero, List.set_cons_succ, i64_w, i32_w]
    rfl
  refine pure_ (i := 16) (N := some 35) (v := ?_) (a' := ?_) #[true, true, true, true, true, true, true, true, true, true, true, true, true, true, true, true, true, false, false, false, false, false, false, false, false, false, false, false, false, false, false, false, false, false, false, false, false, false] rfl rfl (by kernel_rfl) (fun _ _ _ h => h) (Or.inl ⟨by rfl, ?_⟩) ?_ ?_
  rotate_left
  · intro w'
    go_simp
    with_reducible rfl
  rotate_left
  · simp only [Act.put, List.setIfInBounds_toArray, List.set_cons_zero, List.set_cons_succ, i64_w, i32_w]
    rfl
  refine pure_ (i := 17) (N := some 36) (v := ?_) (a' := ?_) #[true, true, true, true, true, true, true, true, true, true, true, true, true, true, true, true, true, true, false, false, false, false, false, false, false, false, false, false, false, false, false, false, false, false, false, false, false, false] rfl rfl (by kernel_rfl) (fun _ _ _ h => h) (Or.inl ⟨by rfl, ?_⟩) ?_ ?_
  rotate_left
  · intro w'
    go_simp
    with_reducible rfl
  rotate_left
  · simp only [Act.put, List.setIfInBounds_toArray, List.set_cons_zero, List.set_cons_succ, i64_w, i32_w]
    rfl
  refine pure_ (i := 18) (N := some 37) (v := ?_) (a' := ?_) #[true, true, true, true, true, true, true, true, true, true, true, true, true, true, true, true, true, true, true, false, false, false, false, false, false, false, false, false, false, false, false, false, false, false, false, false, false, false] rfl rfl (by kernel_rfl) (fun _ _ _ h => h) (Or.inl ⟨by rfl, ?_⟩) ?_ ?_
  rotate_left
  · intro w'
    go_simp
    with_reducible rfl
  rotate_left
  · simp only [Act.put, List.setIfInBounds_toArray, List.set_cons_zero, List.set_cons_succ, i64_w, i32_w]
    rfl
  refine pure_ (i := 19) (N := some 38) (v := ?_) (a' := ?_) #[true, true, true, true, true, true, true, true, true, true, true, true, true, true, true, true, true, true, true, true, false, false, false, false, false, false, false, false, false, false, false, false, false, false, false, false, false, false] rfl rfl (by kernel_rfl) (fun _ _ _ h => h) (Or.inl ⟨by rfl, ?_⟩) ?_ ?_
  rotate_left
  · intro w'
    go_simp
    with_reducible rfl
  rotate_left
  · simp only [Act.put, List.setIfInBounds_toArray, List.set_cons_zero, List.set_cons_succ, i64_w, i32_w]
    rfl
  refine pure_ (i := 20) (N := some 39) (v := ?_) (a' := ?_) #[true, true, true, true, true, true, true, true, true, true, true, true, true, true, true, true, true, true, true, true, true, false, false, false, false, false, false, false, false, false, false, false, false, false, false, false, false, false] rfl rfl (by kernel_rfl) (fun _ _ _ h => h) (Or.inl ⟨by rfl, ?_⟩) ?_ ?_
  rotate_left
  · intro w'
    go_simp
    with_reducible rfl
  rotate_left
  · simp only [Act.put, List.setIfInBounds_toArray, List.set_cons_zero, List.set_cons_succ, i64_w, i32_w]
    rfl
  refine pure_ (i := 21) (N := some 40) (v := ?_) (a' := ?_) #[true, true, true, true, true, true, true, true, true, true, true, true, true, true, true, true, true, true, true, true, true, true, false, false, false, false, false, false, false, false, false, false, false, false, false, false, false, false] rfl rfl (by kernel_rfl) (fun _ _ _ h => h) (Or.inl ⟨by rfl, ?_⟩) ?_ ?_
  rotate_left
  · intro w'
    go_simp
    with_reducible rfl
  rotate_left
  · simp only [Act.put, List.setIfInBounds_toArray, List.set_cons_zero, List.set_cons_succ, i64_w, i32_w]
    rfl
  refine pure_ (i := 22) (N := some 41) (v := ?_) (a' := ?_) #[true, true, true, true, true, true, true, true, true, true, true, true, true, true, true, true, true, true, true, true, true, true, true, false, false, false, false, false, false, false, false, false, false, false, false, false, false, false] rfl rfl (by kernel_rfl) (fun _ _ _ h => h) (Or.inl ⟨by rfl, ?_⟩) ?_ ?_
  rotate_left
  · intro w'
    go_simp
    with_reducible rfl
  rotate_left
  · simp only [Act.put, List.setIfInBounds_toArray, List.set_cons_zero, List.set_cons_succ, i64_w, i32_w]
    rfl
  refine pure_ (i := 23) (N := some 42) (v := ?_) (a' := ?_) #[true, true, true, true, true, true, true, true, true, true, true, true, true, true, true, true, true, true, true, true, true, true, true, true, false, false, false, false, false, false, false, false, false, false, false, false, false, false] rfl rfl (by kernel_rfl) (fun _ _ _ h => h) (Or.inl ⟨by rfl, ?_⟩) ?_ ?_
  rotate_left
  · intro w'
    go_simp
    with_reducible rfl
  rotate_left
  · simp only [Act.put, List.setIfInBounds_toArray, List.set_cons_zero, List.set_cons_succ, i64_w, i32_w]
    rfl
  refine pure_ (i := 24) (N := some 43) (v := ?_) (a' := ?_) #[true, true, true, true, true, true, true, true, true, true, true, true, true, true, true, true, true, true, true, true, true, true, true, true, true, false, false, false, false, false, false, false, false, false, false, false, false, false] rfl rfl (by kernel_rfl) (fun _ _ _ h => h) (Or.inl ⟨by rfl, ?_⟩) ?_ ?_
  rotate_left
  · intro w'
    go_simp
    with_reducible rfl
  rotate_left
  · simp only [Act.put, List.setIfInBounds_toArray, List.set_cons_zero, List.set_cons_succ, i64_w, i32_w]
    rfl
  refine pure_ (i := 25) (N := some 44) (v := ?_) (a' := ?_) #[true, true, true, true, true, true, true, true, true, true, true, true, true, true, true, true, true, true, true, true, true, true, true, true, true, true, false, false, false, false, false, false, false, false, false, false, false, false] rfl rfl (by kernel_rfl) (fun _ _ _ h => h) (Or.inl ⟨by rfl, ?_⟩) ?_ ?_
  rotate_left
  · intro w'
    go_simp
    with_reducible rfl
  rotate_left
  · simp only [Act.put, List.setIfInBounds_toArray, List.set_cons_zero, List.set_cons_succ, i64_w, i32_w]
    rfl
  refine pure_ (i := 26) (N := some 45) (v := ?_) (a' := ?_) #[true, true, true, true, true, true, true, true, true, true, true, true, true, true, true, true, true, true, true, true, true, true, true, true, true, true, true, false, false, false, false, false, false, false, false, false, false, false] rfl rfl (by kernel_rfl) (fun _ _ _ h => h) (Or.inl ⟨by rfl, ?_⟩) ?_ ?_
  rotate_left
  · intro w'
    go_simp
    with_reducible rfl
  rotate_left
  · simp only [Act.put, List.setIfInBounds_toArray, List.set_cons_zero, List.set_cons_succ, i64_w, i32_w]
    rfl
  refine pure_ (i := 27) (N := some 46) (v := ?_) (a' := ?_) #[true, true, true, true, true, true, true, true, true, true, true, true, true, true, true, true, true, true, true, true, true, true, true, true, true, true, true, true, false, false, false, false, false, false, false, false, false, false] rfl rfl (by kernel_rfl) (fun _ _ _ h => h) (Or.inl ⟨by rfl, ?_⟩) ?_ ?_
  rotate_left
  · intro w'
    go_simp
    with_reducible rfl
  rotate_left
  · simp only [Act.put, List.setIfInBounds_toArray, List.set_cons_zero, List.set_cons_succ, i64_w, i32_w]
    rfl
  refine pure_ (i := 28) (N := some 47) (v := ?_) (a' := ?_) #[true, true, true, true, true, true, true, true, true, true, true, true, true, true, true, true, true, true, true, true, true, true, true, true, true, true, true, true, true, false, false, false, false, false, false, false, false, false] rfl rfl (by kernel_rfl) (fun _ _ _ h => h) (Or.inl ⟨by rfl, ?_⟩) ?_ ?_
  rotate_left
  · intro w'
    go_simp
    with_reducible rfl
  rotate_left
  · simp only [Act.put, List.setIfInBounds_toArray, List.set_cons_zero, List.set_cons_succ, i64_w, i32_w]
    rfl
  refine pure_ (i := 29) (N := some 48) (v := ?_) (a' := ?_) #[true, true, true, true, true, true, true, true, true, true, true, true, true, true, true, true, true, true, true, true, true, true, true, true, true, true, true, true, true, true, false, false, false, false, false, false, false, false] rfl rfl (by kernel_rfl) (fun _ _ _ h => h) (Or.inl ⟨by rfl, ?_⟩) ?_ ?_
  rotate_left
  · intro w'
    go_simp
    with_reducible rfl
  rotate_left
  · simp only [Act.put, List.setIfInBounds_toArray, List.set_cons_zero, List.set_cons_succ, i64_w, i32_w]
    rfl
  refine pure_ (i := 30) (N := some 49) (v := ?_) (a' := ?_) #[true, true, true, true, true, true, true, true, true, true, true, true, true, true, true, true, true, true, true, true, true, true, true, true, true, true, true, true, true, true, true, false, false, false, false, false, false, false] rfl rfl (by kernel_rfl) (fun _ _ _ h => h) (Or.inl ⟨by rfl, ?_⟩) ?_ ?_
  rotate_left
  · intro w'
    go_simp
    with_reducible rfl
  rotate_left
  · simp only [Act.put, List.setIfInBounds_toArray, List.set_cons_zero, List.set_cons_succ, i64_w, i32_w]
    rfl
  refine pure_ (i := 31) (N := some 50) (v := ?_) (a' := ?_) #[true, true, true, true, true, true, true, true, true, true, true, true, true, true, true, true, true, true, true, true, true, true, true, true, true, true, true, true, true, true, true, true, false, false, false, false, false, false] rfl rfl (by kernel_rfl) (fun _ _ _ h => h) (Or.inl ⟨by rfl, ?_⟩) ?_ ?_
  rotate_left
  · intro w'
    go_simp
    with_reducible rfl
  rotate_left
  · simp only [Act.put, List.setIfInBounds_toArray, List.set_cons_zero, List.set_cons_succ, i64_w, i32_w]
    rfl
  refine take_ (i := 32) (N := some 51) (v := ?_) (a' := ?_) #[true, true, true, true, true, true, true, true, true, true, true, true, true, true, true, true, true, true, true, true, true, true, true, true, true, true, true, true, true, true, true, true, true, false, false, false, false, false] rfl rfl (by kernel_rfl) (fun _ _ _ h => h) (Or.inl ⟨by rfl, ?_⟩) hHeld ?_ ?_
  rotate_left
  · rintro w' ⟨s0, s1⟩
    go_simp
    with_reducible rfl
  rotate_left
  · simp only [Act.put, List.setIfInBounds_toArray, List.set_cons_zero, List.set_cons_succ, i64_w, i32_w]
    rfl
  refine one_ (i := 33) (N := some 52) #[true, true, true, true, true, true, true, true, true, true, true, true, true, true, true, true, true, true, true, true, true, true, true, true, true, true, true, true, true, true, true, true, true, true, false, false, false, false] rfl rfl (by kernel_rfl) (by decide) (fun K hK => ?_)
  refine goes_ Try.func65 (by kernel_rfl) rfl #[.int .i64 5] (by rfl) rfl rfl (by simp only [List.map_toArray, List.map_cons, List.map_nil]; rfl) ?_
  refine (arrAtom_calls 5 _).mono ?_
  rintro e w4 hm4
  obtain ⟨B0, d0, B1, d1, rfl, m0, m1, z0, z1, hb4⟩ : ∃ B0 d0 B1 d1, e = .returned (.agg #[.slice B0 0 d0, .slice B1 1 d1]) ∧ 0 ≤ d0 ∧ 1 ≤ d1 ∧ Cint w4 B0 [] ∧ CC w4 B1 [⟨0, 5, []⟩] ∧ Below w3.heap.size w3 w4 := hm4.open_
  clear hm4
  refine ⟨_, rfl, ?_⟩
  have hw4 : Aside0 (Below w1.heap.size w1 w4) := ⟨then_below hw3.out hb4⟩
  have HZ4 : w1.heap.size < w4.heap.size := by have := hb4.size; omega
  replace hb4 := Aside0.mk hb4
  replace z0 := Aside0.mk z0
  replace z1 := Aside0.mk z1
  refine hK.out _ _ ⟨(hb4.out.cell (p := ⟨w1.heap.size, 0, none⟩) HZ3).trans hHeld.1, (hb4.out.cell (p := ⟨w1.heap.size, 1, none⟩) HZ3).trans hHeld.2⟩ (fun hHeld => ?_)
  clear hK K
  refine norm_ (a' := ?_) ?_ ?_
  rotate_left
  · show Act.put _ (some 52) _ = _
    simp only [Act.put, List.setIfInBounds_toArray, List.set_cons_zero, List.set_cons_succ, i64_w, i32_w]
    rfl
  refine one_ (i := 34) (N := some 53) #[true, true, true, true, true, true, true, true, true, true, true, true, true, true, true, true, true, true, true, true, true, true, true, true, true, true, true, true, true, true, true, true, true, true, true, false, false, false] rfl rfl (by kernel_rfl) (by decide) (fun K hK => ?_)
  refine goes_ Try.func64 (by kernel_rfl) rfl #[.agg #[.slice A0 1 c0, .slice A1 2 c1], .agg #[.slice B0 0 d0, .slice B1 1 d1]] (by rfl) rfl rfl (by simp only [List.map_toArray, List.map_cons, List.map_nil]; rfl) ?_
  refine (calls_val (v' := 1) ((arrCmp_all _).1 (T.nums [1, 2]) (T.atom 5) A0 A1 B0 B1 c0 c1 d0 d1 _ (Nat.lt_succ_self _) l0 l1 m0 m1 (Kd.C_below HG0.out hw4.out) (Kd.C_below HG1.out hw4.out) z0.out z1.out) (by decide +kernel)).mono ?_
  rintro e w5 ⟨rfl, hb5⟩
  refine ⟨_, rfl, ?_⟩
  have hw5 : Aside0 (Below w1.heap.size w1 w5) := ⟨then_below hw4.out hb5⟩
  replace hb5 := Aside0.mk hb5
  refine hK.out _ _ ⟨(hb5.out.cell (p := ⟨w1.heap.size, 0, none⟩) HZ4).trans hHeld.1, (hb5.out.cell (p := ⟨w1.heap.size, 1, none⟩) HZ4).trans hHeld.2⟩ (fun hHeld => ?_)
  clear hK K
  refine norm_ (a' := ?_) ?_ ?_
  rotate_left
  · show Act.put _ (some 53) _ = _
    simp only [Act.put, List.setIfInBounds_toArray, List.set_cons_zero, List.set_cons_succ, i64_w, i32_w]
    rfl
  refine pure_ (i := 35) (N := some 54) (v := ?_) (a' := ?_) #[true, true, true, true, true, true, true, true, true, true, true, true, true, true, true, true, true, true, true, true, true, true, true, true, true, true, true, true, true, true, true, true, true, true, true, true, false, false] rfl rfl (by kernel_rfl) (fun _ _ _ h => h) (Or.inl ⟨by rfl, ?_⟩) ?_ ?_
  rotate_left
  · intro w'
    go_simp
    with_reducible rfl
  rotate_left
  · simp only [Act.put, List.setIfInBounds_toArray, List.set_cons_zero, List.set_cons_succ, i64_w, i32_w]
    rfl
  refine pure_ (i := 36) (N := some 55) (v := ?_) (a' := ?_) #[true, true, true, true, true, true, true, true, true, true, true, true, true, true, true, true, true, true, true, true, true, true, true, true, true, true, true, true, true, true, true, true, true, true, true, true, true, false] rfl rfl (by kernel_rfl) (fun _ _ _ h => h) (Or.inl ⟨by rfl, ?_⟩) ?_ ?_
  rotate_left
  · intro w'
    go_simp
    with_reducible rfl
  rotate_left
  · simp only [Act.put, List.setIfInBounds_toArray, List.set_cons_zero, List.set_cons_succ, i64_w, i32_w]
    rfl
  refine pure_ (i := 37) (N := some 0) (v := ?_) (a' := ?_) #[true, true, true, true, true, true, true, true, true, true, true, true, true, true, true, true, true, true, true, true, true, true, true, true, true, true, true, true, true, true, true, true, true, true, true, true, true, true] rfl rfl (by kernel_rfl) (fun _ _ _ h => h) (Or.inl ⟨by rfl, ?_⟩) ?_ ?_
  rotate_left
  · intro w'
    go_simp
    with_reducible rfl
  rotate_left
  · simp only [Act.put, List.setIfInBounds_toArray, List.set_cons_zero, List.set_cons_succ, i64_w, i32_w]
    rfl
  refine done_ (by kernel_rfl) ?_
  go_wp2_with fail
  go_ret
  exact ret_below rfl (then_below hw1.out hw5.out)
end Go.Proofs.Ytdfijdajkdkkfaa
