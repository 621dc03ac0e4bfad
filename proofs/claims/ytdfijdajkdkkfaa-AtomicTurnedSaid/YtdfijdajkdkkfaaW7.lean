/-
  Walks: Copy of arrays: all that it makes is new.
-/
import Derived.Test.YtdfijdajkdkkfaaW6
import Derived.Test.YtdfijdajkdkkfaaPure2
import Derived.Test.YtdfijdajkdkkfaaWLast
set_option linter.unusedVariables false
set_option linter.unusedSimpArgs false
namespace Go.Proofs.Ytdfijdajkdkkfaa
open Go.RowKit Go.Proofs.YtdfijdajkdkkfaaW.PrintWords Go.Proofs.YtdfijdajkdkkfaaW.PrintLast
open T
theorem info_int : (Try.prog.info? 3).map (fun i => (i.zero, i.size, i.bytes)) = some (some (.int .i64 0), 1, 8) := by kernel_rfl
theorem info_cell : (Try.prog.info? 33).map (fun i => (i.zero, i.size, i.bytes)) = some (some (.agg #[.int .i64 0, .int .i64 0, .slice none 0 0]), 3, 40) := by kernel_rfl
theorem info_arr : (Try.prog.info? 25).map (fun i => (i.zero, i.size, i.bytes)) = some (some (.agg #[.slice none 0 0, .slice none 0 0]), 2, 48) := by kernel_rfl
section
variable {α : Type} {d : Kd α} {w X : World} {base e : Nat} {ok : Nat → Prop}
/-- What is made stays made where its blocks stay. -/
theorem M_stay {x : α} {cs : List Value} (h : d.M w base ok x cs) (hk : ∀ k, base ≤ k → k < w.heap.size → X.heap[k]? = w.heap[k]?) : d.M X base (fun k => ok k ∧ k < w.heap.size) x cs :=
  d.M_mono (fun k hk => ⟨hk.1, hk.2.2.1⟩) (d.M_move (fun k h => hk k h.2.1 h.2.2.1) (d.M_bound h))
theorem R_stay {v : Value} {xs : List α} (h : d.R e w base ok v xs) (hk : ∀ k, base ≤ k → k < w.heap.size → X.heap[k]? = w.heap[k]?) : d.R e X base (fun k => ok k ∧ k < w.heap.size) v xs :=
  Kd.R_mono (Kd.R_move (Kd.R_bound h) (fun k h => hk k h.2.1 h.2.2.1)) (fun k hk => ⟨hk.1, hk.2.2.1⟩)
theorem Kd.M_lower_ {x : α} {cs : List Value} {b0 b1 : Nat} (h : d.M w base ok x cs) (h0 : b0 ≤ base) (h1 : b1 ≤ base) : d.M w b0 (fun k => b1 ≤ k) x cs :=
  d.M_lower h0 (d.M_mono (fun k hk => Nat.le_trans h1 hk.2.1) (d.M_bound h))
/-- A literal of one element. -/
theorem R_one {okp : Nat → Prop} {p : α} {cs : List Value} (hp : d.M X base okp p cs) (hok : ∀ k, okp k → ok k ∧ k < X.heap.size) (hfresh : ok X.heap.size) (hbase : base ≤ X.heap.size) :
    d.R e (X.alloc (.cells cs.toArray e)) base ok (.slice (some ⟨X.heap.size, 0, none⟩) 1 1) [p] := by
  have hr : Reps (d.M (X.alloc (.cells cs.toArray e)) base (fun k => ok k ∧ some k ≠ (Value.slice (some ⟨X.heap.size, 0, none⟩) 1 1).ownBlock)) d.sz [p] cs := by
    have hl := d.K_len (d.K_of_M hp)
    refine Reps.snoc (ps := []) (cs := []) (Reps.none _ _) (d.M_mono (fun k hk => ⟨(hok k hk).1, fun he => ?_⟩) (Kd.M_below hp (below_alloc (Below.refl _ _) _))) hl
    have := (hok k hk).2
    have h3 : k = X.heap.size := by simpa [Value.ownBlock] using he
    omega
  refine ⟨fun k hk => ?_, OwnRow.lit (ps := [p]) (inner := cs) X base (by simpa using hr) hbase (by simp)⟩
  have h3 : k = X.heap.size := by simp [Value.ownBlock] at hk; omega
  rw [h3]; exact hfresh
end
def CopyA (N : Nat) : Prop := ∀ (a : Arr) (l : Nat) (A0 A1 : Option Addr) (c0 c1 : Nat) (w : World), SizeOf.sizeOf a < N → chk l a = 0 → a.shape.length ≤ c0 → a.cells.length ≤ c1 → Cint w A0 a.shape → CC w A1 a.cells →
  Calls Try.prog 21 #[.agg #[.slice A0 a.shape.length c0, .slice A1 a.cells.length c1]] w fun e w' => ∃ v0 v1, e = .returned (.agg #[v0, v1]) ∧ kA.M w' w.heap.size (fun _ => True) a [v0, v1] ∧ Below w.heap.size w w'
def CopyC (N : Nat) : Prop := ∀ (c : T.Cell) (l : Nat) (A : Option Addr) (m : Nat) (w : World), SizeOf.sizeOf c < N → chkC l c = 0 → c.box.length ≤ m → CA w A c.box →
  Calls Try.prog 66 #[.agg #[.int .i64 c.kind, .int .i64 c.n, .slice A c.box.length m]] w fun e w' => ∃ v, e = .returned (.agg #[.int .i64 c.kind, .int .i64 c.n, v]) ∧ kC.M w' w.heap.size (fun _ => True) c [.int .i64 c.kind, .int .i64 c.n, v] ∧ Below w.heap.size w w'
set_option maxHeartbeats 8000000 in
set_option maxRecDepth 100000 in
theorem copyC_of {N : Nat} (h : CopyA N) : CopyC (N + 1) := by
  rintro ⟨k, n, b⟩ l A m w hN hc hm gA
  have hbx := chkC_ok hc
  simp only [Cell.kind_mk, Cell.n_mk, Cell.box_mk] at *
  have HA := Aside0.mk gA
  clear gA hc
  rcases hbx with rfl | ⟨y, rfl, hl, hy⟩
  · go_enter Try.func66, Try.ntmps66
    go_wp2_with fail
    refine bodyPost_ret (v := .agg #[.int .i64 k, .int .i64 n, .slice A 0 m]) (by simp only [results, Try.results66]; go_simp) rfl ⟨_, rfl, kC_mkM (.inl ⟨rfl, A, m, rfl⟩), ?_⟩
    (repeat (first | exact Below.refl _ _ | apply below_alloc | apply below_drew | apply pw_below_drewN))
  · obtain ⟨ad, A0, c0, A1, c1, e, u0, u1, l0, l1, g0, g1⟩ := at_arr0 HA.out
    subst e
    replace u0 := later2 u0
    replace u1 := later2 u1
    replace g0 := Aside0.mk g0
    replace g1 := Aside0.mk g1
    have HY := Aside0.mk hy
    clear hy
    have HN' := Aside0.mk (show SizeOf.sizeOf y < N by simp only [Cell.mk.sizeOf_spec, List.cons.sizeOf_spec] at hN; omega)
    go_enter Try.func66, Try.ntmps66
    go_wp2_with fail
    refine (h y (l - 1) A0 A1 c0 c1 _ HN'.out HY.out l0 l1 (Kd.C_below g0.out ?hb) (Kd.C_below g1.out ?hb)).mono ?_; (case hb => (repeat (first | exact Below.refl _ _ | apply below_alloc | apply below_drew | apply pw_below_drewN)))
    rintro e w1 ⟨v0, v1, rfl, hM, hb⟩
    have z0 : w1.cell? ⟨w.heap.size, 0, none⟩ = some (.int .i64 k) := (hb.cell (p := ⟨w.heap.size, 0, none⟩) (by simp; omega)).trans (by simp)
    have z1 : w1.cell? ⟨w.heap.size, 1, none⟩ = some (.int .i64 n) := (hb.cell (p := ⟨w.heap.size, 1, none⟩) (by simp; omega)).trans (by simp)
    have z2 : w1.cell? ⟨w.heap.size, 2, none⟩ = some (.slice (some ad) 1 m) := (hb.cell (p := ⟨w.heap.size, 2, none⟩) (by simp; omega)).trans (by simp)
    have y0 : w1.cell? ⟨w.heap.size + 1, 0, none⟩ = some (.int .i64 0) := (hb.cell (p := ⟨w.heap.size + 1, 0, none⟩) (by simp)).trans (by simp)
    have y1 : w1.cell? ⟨w.heap.size + 1, 1, none⟩ = some (.int .i64 0) := (hb.cell (p := ⟨w.heap.size + 1, 1, none⟩) (by simp)).trans (by simp)
    have y2 : w1.cell? ⟨w.heap.size + 1, 2, none⟩ = some (.slice none 0 0) := (hb.cell (p := ⟨w.heap.size + 1, 2, none⟩) (by simp)).trans (by simp)
    have zf : ∀ j, w1.frozen? ⟨w.heap.size, j, none⟩ = false := fun j => (hb.frozen (p := ⟨w.heap.size, j, none⟩) (by simp; omega)).trans (by go_simp)
    have yf : ∀ j, w1.frozen? ⟨w.heap.size + 1, j, none⟩ = false := fun j => (hb.frozen (p := ⟨w.heap.size + 1, j, none⟩) (by simp)).trans (by go_simp)
    have hz0 : w.heap.size < w1.heap.size := by have := hb.size; simp at this; omega
    have hz1 : w.heap.size + 1 < w1.heap.size := by have := hb.size; simp at this; omega
    replace hb := Aside0.mk hb
    replace hM := Aside0.mk hM
    go_wp2_with fail
    refine bodyPost_ret (v := .agg #[.int .i64 k, .int .i64 n, .slice (some ⟨w1.heap.size, 0, none⟩) 1 1]) (by simp only [results, Try.results66]; go_simp) rfl ⟨_, rfl, ?_, ?_⟩
    · refine kC_mkM (.inr ?_)
      have hsz : w1.heap.size = (((((w1.setCell ⟨w.heap.size, 2, none⟩ (.slice (some ⟨w1.heap.size, 0, none⟩) 1 1)).setCell ⟨w.heap.size + 1, 0, none⟩ (.int .i64 k)).setCell ⟨w.heap.size + 1, 1, none⟩ (.int .i64 n)).setCell ⟨w.heap.size + 1, 2, none⟩ (.slice (some ⟨w1.heap.size, 0, none⟩) 1 1))).heap.size := by simp
      have h1 := M_stay (X := ((((w1.setCell ⟨w.heap.size, 2, none⟩ (.slice (some ⟨w1.heap.size, 0, none⟩) 1 1)).setCell ⟨w.heap.size + 1, 0, none⟩ (.int .i64 k)).setCell ⟨w.heap.size + 1, 1, none⟩ (.int .i64 n)).setCell ⟨w.heap.size + 1, 2, none⟩ (.slice (some ⟨w1.heap.size, 0, none⟩) 1 1))) hM.out (fun k hk _ => by
        simp at hk
        repeat (refine (Below.heap_setCell _ _ _ _ (by simp; omega)).trans ?_)
        rfl)
      have h2 := R_one (e := 25) (ok := fun _ => True) h1 (fun k hk => ⟨trivial, by rw [← hsz]; exact hk.2⟩) trivial (by simp; omega)
      rw [← hsz] at h2
      exact Kd.R_lower h2 (by simp; omega)
    · refine below_alloc ?_ _
      repeat (refine Below.setCell ?_ (by simp) _)
      exact then_below (by (repeat (first | exact Below.refl _ _ | apply below_alloc | apply below_drew | apply pw_below_drewN))) hb.out
set_option maxHeartbeats 8000000 in
set_option maxRecDepth 100000 in
theorem copyA_of {N : Nat} (h : CopyC N) : CopyA (N + 1) := by
  rintro ⟨s, cs⟩ l A0 A1 c0 c1 w hN hc l0 l1 g0 g1
  obtain ⟨hs8, hc16⟩ := chk_sizes hc
  obtain ⟨_, _, _, hcc⟩ := chk_ok.1 hc
  simp only [Arr.shape_mk, Arr.cells_mk] at *
  have HS := Aside0.mk g0
  have HC := Aside0.mk g1
  have HCC := Aside0.mk hcc
  have HN := Aside0.mk (show SizeOf.sizeOf cs < N by simp only [Arr.mk.sizeOf_spec] at hN; omega)
  clear hc hcc g0 g1 hN
  go_enter Try.func21, Try.ntmps21
  go_wp2_with (at_builtin; go_loud (refine Kd.R_append_rows (Kd.int .i64) (Rr := (Kd.int .i64).K w) (w.heap.size + 2) rfl (.const (.slice none 0 0)) (.tmp 7) 22 3 (.int .i64 0) 8 rfl Try.underlying22 info_int rfl (by decide) (by omega) (.slice none 0 0) [] s A0 s.length c0 (fun _ => True) (fun _ => False) rfl rfl (Kd.R_nil _ _ _ _ _) ?aR (fun _ _ hq => hq) (fun _ hq => hq.elim) (fun _ _ => trivial) (Below.refl _ _) (by simp) (by simp; omega) ?_); (case aR => exact Kd.C_alloc (Kd.C_alloc HS.out _) _); intro v1 w1 hR hb hg hat; rw [List.nil_append] at hR; obtain ⟨S0, e0, rfl⟩ := Kd.R_slice hR; replace hR := Aside0.mk hR; have hz0 : w.heap.size + 1 < w1.heap.size := (by have := hb.size; simp at this; omega); have hz1 : w.heap.size < w1.heap.size := (by omega); have x1 : w1.cell? ⟨w.heap.size, 1, none⟩ = some (.slice A1 cs.length c1) := (hb.cell (p := ⟨w.heap.size, 1, none⟩) (by simp)).trans (by simp); replace hb := Aside0.mk hb; clear hg hat)
  have hg0 := heap_alloc_new w1 (.cells #[.slice S0 s.length e0, .slice none 0 0] 25)
  have hl0 : Aside0 (∃ vc, (w1.alloc (.cells #[.slice S0 s.length e0, .slice none 0 0] 25)).heap[w1.heap.size]? = some (.cells #[.slice S0 s.length e0, vc] 25 (0, 0)) ∧ (Kd.int .i64).R 3 (w1.alloc (.cells #[.slice S0 s.length e0, .slice none 0 0] 25)) (w.heap.size + 2) (fun k => k ≠ w1.heap.size) (.slice S0 s.length e0) s ∧ kC.R 33 (w1.alloc (.cells #[.slice S0 s.length e0, .slice none 0 0] 25)) (w.heap.size + 2) (fun k => k ≠ w1.heap.size) vc (cs.take 0)) :=
    ⟨_, hg0, Kd.R_mono (R_stay hR.out (fun k _ hk => Below.heap_alloc _ _ _ hk)) (fun k hk => by omega), Kd.R_nil _ _ _ _ _⟩
  clear hg0 hR
  go_loopw [13] (fun i W => ∃ k : Nat, k ≤ cs.length ∧ i = .int .i64 k ∧ Aside0 (∃ vc, W.heap[w1.heap.size]? = some (.cells #[.slice S0 s.length e0, vc] 25 (0, 0)) ∧ (Kd.int .i64).R 3 W (w.heap.size + 2) (fun k => k ≠ w1.heap.size) (.slice S0 s.length e0) s ∧ kC.R 33 W (w.heap.size + 2) (fun k => k ≠ w1.heap.size) vc (cs.take k)) ∧ Aside0 (Below (w.heap.size + 2) ((w.alloc (.cells #[.slice A0 s.length c0, .slice A1 cs.length c1] 25)).alloc (.cells #[.slice none 0 0, .slice none 0 0] 25)) W)) (fun i _ => cs.length - (intOf i).toNat)
  case atStart => exact ⟨0, by omega, rfl, hl0, ⟨hb.out.alloc (by omega) _⟩⟩
  case round =>
    clear hl0 hb x1
    obtain ⟨k, hk, rfl, hown, hbl⟩ := hrel
    obtain ⟨vc, hblk, hRS, hRC⟩ := hown.out
    clear hown
    have HRS := Aside0.mk hRS
    have HRC := Aside0.mk hRC
    have HBK := Aside0.mk hblk
    have hgl : w1.heap.size < wr.heap.size := (Array.getElem?_eq_some_iff.1 hblk).1
    clear hRS hRC
    by_cases hlt : k < cs.length
    · obtain ⟨ad, A2, m, ea, x0, x1, x2, l2, g2⟩ := at_cell (Kd.C_below HC.out (from_box2 hbl.out)) k hlt
      subst ea
      have hcc := Aside0.mk (HCC.out _ (getD_mem zc hlt))
      have HN' := Aside0.mk (Nat.lt_trans (getD_size (d := zc) hlt) HN.out)
      have hts := Aside0.mk (take_snoc zc hlt)
      generalize cs.getD k zc = x at x0 x1 x2 l2 g2 hcc HN' hts
      replace g2 := Aside0.mk g2
      have hxl : (cs.take k).length ≤ 16384 := by rw [List.length_take]; omega
      generalize cs.take k = xs at HRC hts hxl
      obtain ⟨V, ec, rfl⟩ := Kd.R_slice HRC.out
      have y1 : wr.cell? ⟨w1.heap.size, 1, none⟩ = some (.slice V xs.length ec) := cell_of_row wr w1.heap.size 1 _ _ _ hblk
      have yf : ∀ j, wr.frozen? ⟨w1.heap.size, j, none⟩ = false := fun j => by simp [World.frozen?, hblk]
      clear hblk
      go_wp2_with fail
      refine start_ (n := 8) (S := fun w' => w'.cell? ⟨w1.heap.size, 1, none⟩ = some (.slice V xs.length ec) ∧ w'.cell? ⟨wr.heap.size, 0, none⟩ = some (.int .i64 x.kind) ∧ w'.cell? ⟨wr.heap.size, 1, none⟩ = some (.int .i64 x.n) ∧ w'.cell? ⟨wr.heap.size, 2, none⟩ = some (.slice A2 x.box.length m)) (ds := [7]) #[false, false, false, false, false, false, false, false] (by kernel_rfl) rfl rfl ⟨(by go_simp), (by go_simp), (by go_simp), (by go_simp)⟩ (fun hHeld => ?_)
      refine pure_ (i := 0) (N := some 17) (v := ?_) (a' := ?_) #[true, false, false, false, false, false, false, false] rfl rfl (by kernel_rfl) (fun _ _ _ h => h) (Or.inl ⟨by rfl, ?_⟩) ?_ ?_
      rotate_left
      · intro w'
        go_simp
        with_reducible rfl
      rotate_left
      · simp only [Act.put, List.setIfInBounds_toArray, List.set_cons_zero, List.set_cons_succ, i64_w, i32_w]
        rfl
      refine take_ (i := 1) (N := some 18) (v := ?_) (a' := ?_) #[true, true, false, false, false, false, false, false] rfl rfl (by kernel_rfl) (fun _ _ _ h => h) (Or.inl ⟨by rfl, ?_⟩) hHeld ?_ ?_
      rotate_left
      · rintro w' ⟨s0, s1, s2, s3⟩
        go_simp
        with_reducible rfl
      rotate_left
      · simp only [Act.put, List.setIfInBounds_toArray, List.set_cons_zero, List.set_cons_succ, i64_w, i32_w]
        rfl
      refine take_ (i := 2) (N := some 19) (v := ?_) (a' := ?_) #[true, true, true, false, false, false, false, false] rfl rfl (by kernel_rfl) (fun _ _ _ h => h) (Or.inl ⟨by rfl, ?_⟩) hHeld ?_ ?_
      rotate_left
      · rintro w' ⟨s0, s1, s2, s3⟩
        go_simp
        with_reducible rfl
      rotate_left
      · simp only [Act.put, List.setIfInBounds_toArray, List.set_cons_zero, List.set_cons_succ, i64_w, i32_w]
        rfl
      refine one_ (i := 3) (N := some 20) #[true, true, true, true, false, false, false, false] rfl rfl (by kernel_rfl) (by decide) (fun K hK => ?_)
      refine goes_ Try.func66 (by kernel_rfl) rfl #[.agg #[.int .i64 x.kind, .int .i64 x.n, .slice A2 x.box.length m]] (by rfl) rfl rfl (by simp only [List.map_toArray, List.map_cons, List.map_nil]; rfl) ?_
      refine (h x l A2 m _ HN'.out hcc.out l2 (Kd.C_below g2.out (by (repeat (first | exact Below.refl _ _ | apply below_alloc | apply below_drew | apply pw_below_drewN))))).mono ?_
      rintro e w2 ⟨v, rfl, hM, hb⟩
      refine ⟨_, rfl, ?_⟩
      have hMx := Aside0.mk (Kd.M_lower_ hM (show w.heap.size + 2 ≤ _ by simp; omega) (show wr.heap.size + 1 ≤ _ by simp))
      clear hM
      have hb2 := Aside0.mk hb
      clear hb
      have hq0 := Aside0.mk ((hb2.out.cell (p := ⟨w1.heap.size, 1, none⟩) (by simp; omega)).trans hHeld.1)
      have hq1 := Aside0.mk ((hb2.out.cell (p := ⟨wr.heap.size, 0, none⟩) (by simp)).trans hHeld.2.1)
      have hq2 := Aside0.mk ((hb2.out.cell (p := ⟨wr.heap.size, 1, none⟩) (by simp)).trans hHeld.2.2.1)
      have hq3 := Aside0.mk ((hb2.out.cell (p := ⟨wr.heap.size, 2, none⟩) (by simp)).trans hHeld.2.2.2)
      have hne0 := Aside0.mk (Kd.R_away HRC.out (g := w1.heap.size) (fun k hk => hk))
      have hne1 : Aside0 (some wr.heap.size ≠ (Value.slice V xs.length ec).ownBlock) := ⟨fun he => by have := Kd.R_lt HRC.out _ he.symm; omega⟩
      refine hK.out _ _ ⟨hq0.out, hq1.out, hq2.out, hq3.out⟩ (fun hHeld => ?_)
      clear hK K
      refine norm_ (a' := ?_) ?_ ?_
      rotate_left
      · show Act.put _ (some 20) _ = _
        simp only [Act.put, List.setIfInBounds_toArray, List.set_cons_zero, List.set_cons_succ, i64_w, i32_w]
        rfl
      refine one_ (i := 4) (N := some 21) #[true, true, true, true, true, false, false, false] rfl rfl (by kernel_rfl) (by decide) (fun K hK => ?_)
      refine value_ (w1 := ?_) (v := ?_) (by rfl) rfl ?_ ?_
      rotate_left 2
      · go_simp
        constructor
        · rfl
        · rfl
      refine hK.out _ _ ⟨later hHeld.1 _, later hHeld.2.1 _, later hHeld.2.2.1 _, later hHeld.2.2.2 _⟩ (fun hHeld => ?_)
      clear hK K
      refine norm_ (a' := ?_) ?_ ?_
      rotate_left
      · show Act.put _ (some 21) _ = _
        simp only [Act.put, List.setIfInBounds_toArray, List.set_cons_zero, List.set_cons_succ, i64_w, i32_w]
        rfl
      refine one_ (i := 5) (N := some 22) #[true, true, true, true, true, true, false, false] rfl rfl (by kernel_rfl) (by decide) (fun K hK => ?_)
      have hbw : Below wr.heap.size wr w2 := then_below (by (repeat (first | exact Below.refl _ _ | apply below_alloc | apply below_drew | apply pw_below_drewN))) hb2.out
      have hrc2 := Kd.R_below HRC.out hbw
      have hle := hb2.out.size
      simp at hle
      refine Kd.R_append_step kC (w.heap.size + 2) (by rfl) (.tmp 18) (.tmp 21) 23 33 (.agg #[.int .i64 0, .int .i64 0, .slice none 0 0]) 40 rfl Try.underlying23 info_cell rfl (by decide) (by omega) (.slice V xs.length ec) xs x _ (fun k => k ≠ w1.heap.size) (fun k => wr.heap.size + 1 ≤ k) rfl rfl hMx.out (fun k hk => ⟨by omega, fun he => by have := Kd.R_lt HRC.out k he.symm; omega⟩) (fun k hk => by omega) hrc2 (Below.refl _ _) (by omega) (by omega) ?_
      intro v1 w3 hR3 hb3 hg3 hat3
      obtain ⟨V1, ec1, rfl⟩ := Kd.R_slice hR3
      have hfz : w3.frozen? ⟨w1.heap.size, 1, none⟩ = false := by rw [World.frozen?, hg3.block _ (by omega) hne0.out, hbw.block _ hgl, HBK.out]; simp
      have hb5 := Aside0.mk ((hg3.block _ (by omega) hne0.out).trans ((hbw.block _ hgl).trans HBK.out))
      have hgl2 := hgl
      have hbz : wr.heap.size + 1 ≤ w3.heap.size := by have := hg3.size; omega
      have hg4 : Aside0 (wr.grownBy w3 (Value.slice V xs.length ec).ownBlock) := ⟨World.grownBy.trans (grown_of_below hbw _) hg3⟩
      replace hR3 := Aside0.mk hR3
      replace hb3 := Aside0.mk hb3
      replace hg3 := Aside0.mk hg3
      clear hat3 hrc2
      replace hbw := Aside0.mk hbw
      refine hK.out _ _ ⟨(World.cell?_of_block (hg3.out.block w1.heap.size (by omega) hne0.out)).trans hq0.out, (World.cell?_of_block (hg3.out.block wr.heap.size (by omega) hne1.out)).trans hq1.out, (World.cell?_of_block (hg3.out.block wr.heap.size (by omega) hne1.out)).trans hq2.out, (World.cell?_of_block (hg3.out.block wr.heap.size (by omega) hne1.out)).trans hq3.out⟩ (fun hHeld => ?_)
      clear hK K
      refine norm_ (a' := ?_) ?_ ?_
      rotate_left
      · show Act.put _ (some 22) _ = _
        simp only [Act.put, List.setIfInBounds_toArray, List.set_cons_zero, List.set_cons_succ, i64_w, i32_w]
        rfl
      refine pure_ (i := 6) (N := some 23) (v := ?_) (a' := ?_) #[true, true, true, true, true, true, true, false] rfl rfl (by kernel_rfl) (fun _ _ _ h => h) (Or.inl ⟨by rfl, ?_⟩) ?_ ?_
      rotate_left
      · intro w'
        go_simp
        with_reducible rfl
      rotate_left
      · simp only [Act.put, List.setIfInBounds_toArray, List.set_cons_zero, List.set_cons_succ, i64_w, i32_w]
        rfl
      refine last_ (i := 7) (N := none) #[true, true, true, true, true, true, true, true] rfl rfl (by kernel_rfl) (by decide) (fun K hK => ?_)
      refine skip_ (w1 := ?_) (by rfl) rfl ?_ ?_
      rotate_left
      · go_simp
        rfl
      refine hK.out _ _ ?_
      clear hK K
      refine done_ (by kernel_rfl) ?_
      go_wp2_with fail
      refine ⟨⟨k + 1, by omega, by go_num, ⟨.slice V1 (xs.length + 1) ec1, ?_, ?_, ?_⟩, ⟨?_⟩⟩, by simp [intOf]; omega⟩
      · simp [World.setCell, Array.getElem?_modify, hb5.out]
      · refine Kd.R_far ?_ (fun _ h => h) _
        exact Kd.R_over HRS.out HRC.out (by intro q hq; simp [Kd.int, Kd.scalar] at hq; omega) hg4.out
      · rw [hts.out]
        have h5 := Kd.R_far hR3.out (p := ⟨w1.heap.size, 1, none⟩) (fun _ h => h) (.slice V1 (xs.length + 1) ec1)
        simpa using h5
      · refine Below.setCell ?_ (by simp; omega) _
        exact (hbl.out.trans (hbw.out.mono (by omega))).trans hb3.out
    · have hz2 : w.heap.size + 1 < wr.heap.size := by omega
      have hz3 : w.heap.size < wr.heap.size := by omega
      obtain rfl : k = cs.length := by omega
      rw [List.take_length] at HRC
      obtain ⟨V, ec, rfl⟩ := Kd.R_slice HRC.out
      have y0 : wr.cell? ⟨w1.heap.size, 0, none⟩ = some (.slice S0 s.length e0) := cell_of_row wr w1.heap.size 0 _ _ _ hblk
      have y1 : wr.cell? ⟨w1.heap.size, 1, none⟩ = some (.slice V cs.length ec) := cell_of_row wr w1.heap.size 1 _ _ _ hblk
      have z0 : wr.cell? ⟨w.heap.size + 1, 0, none⟩ = some (.slice none 0 0) := (hbl.out.cell (p := ⟨w.heap.size + 1, 0, none⟩) (by simp)).trans (by simp)
      have z1 : wr.cell? ⟨w.heap.size + 1, 1, none⟩ = some (.slice none 0 0) := (hbl.out.cell (p := ⟨w.heap.size + 1, 1, none⟩) (by simp)).trans (by simp)
      have zf : ∀ j, wr.frozen? ⟨w.heap.size + 1, j, none⟩ = false := fun j => (hbl.out.frozen (p := ⟨w.heap.size + 1, j, none⟩) (by simp)).trans (by go_simp)
      clear hblk
      go_wp2_with fail
      refine bodyPost_ret (v := .agg #[.slice S0 s.length e0, .slice V cs.length ec]) (by simp only [results, Try.results21]; go_simp) rfl ⟨_, _, rfl, ?_, ?_⟩
      · have hst : ∀ q, w.heap.size + 2 ≤ q → q < wr.heap.size → ((wr.setCell ⟨w.heap.size + 1, 0, none⟩ (.slice S0 s.length e0)).setCell ⟨w.heap.size + 1, 1, none⟩ (.slice V cs.length ec)).heap[q]? = wr.heap[q]? := fun q hq _ => by
          repeat (refine (Below.heap_setCell _ _ _ _ (by simp; omega)).trans ?_)
          rfl
        refine kA_mkM ?_ ?_
        · exact Kd.R_lower (Kd.R_mono (R_stay HRS.out hst) (fun _ _ => trivial)) (by omega)
        · exact Kd.R_lower (Kd.R_mono (R_stay HRC.out hst) (fun _ _ => trivial)) (by omega)
      · repeat (refine Below.setCell ?_ (by simp) _)
        exact from_box2 hbl.out
theorem copy_all : ∀ N, CopyA N ∧ CopyC N
  | 0 => ⟨fun a l A0 A1 c0 c1 w hN => absurd hN (Nat.not_lt_zero _), fun c l A m w hN => absurd hN (Nat.not_lt_zero _)⟩
  | N + 1 => ⟨copyA_of (copy_all N).2, copyC_of (copy_all N).1⟩
end Go.Proofs.Ytdfijdajkdkkfaa
