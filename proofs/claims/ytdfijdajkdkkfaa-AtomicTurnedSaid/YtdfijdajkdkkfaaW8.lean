/-
  Walks: Atom, Nums, Place; what the third layer's laws try by an example.
-/
import Derived.Test.YtdfijdajkdkkfaaW7
set_option linter.unusedVariables false
set_option linter.unusedSimpArgs false
namespace Go.Proofs.Ytdfijdajkdkkfaa
open Go.RowKit Go.Proofs.YtdfijdajkdkkfaaW.PrintWords Go.Proofs.YtdfijdajkdkkfaaW.PrintLast
open T
def T.atom (n : Int) : Arr := ⟨[], [⟨0, n, []⟩]⟩
def T.numc (n : Int) : T.Cell := ⟨0, n, []⟩
def T.nums (l : List Int) : Arr := ⟨[(l.length : Int)], l.map T.numc⟩
/-- An array that a call has made: what is returned. -/
def MadeA (a : Arr) (w : World) (e : Ending) (w' : World) : Prop := ∃ v0 v1, e = .returned (.agg #[v0, v1]) ∧ kA.M w' w.heap.size (fun _ => True) a [v0, v1] ∧ Below w.heap.size w w'
theorem heap_alloc_new' (w : World) (o : Obj) (g : Nat) (h : g = w.heap.size) : (w.alloc o).heap[g]? = some o := by subst h; exact heap_alloc_new w o
theorem frozen_block {w w' : World} {b o : Nat} (h : w'.heap[b]? = w.heap[b]?) : w'.frozen? ⟨b, o, none⟩ = w.frozen? ⟨b, o, none⟩ := by simp [World.frozen?, h]
theorem below_of_drew {B : Nat} {w w1 : World} (h : Below B w.drew w1) : Below B w w1 := ⟨h.os, h.tape, h.output, h.size, h.block⟩
theorem grown_of_drew {w w1 : World} {row : Option Nat} (h : w.drew.grownBy w1 row) : w.grownBy w1 row := ⟨h.os, h.tape, h.output, h.size, h.block⟩
theorem M_num (w : World) (base : Nat) (ok : Nat → Prop) (n : Int) : kC.M w base ok (T.numc n) [.int .i64 0, .int .i64 n, .slice none 0 0] := kC_mkM (c := T.numc n) (.inl ⟨rfl, none, 0, rfl⟩)
set_option maxHeartbeats 8000000 in
set_option maxRecDepth 100000 in
theorem arrAtom_calls (n : Int) (w : World) : Calls Try.prog 65 #[.int .i64 n] w (MadeA (T.atom n) w) := by
  go_enter Try.func65, Try.ntmps65
  go_wp2_with fail
  refine bodyPost_ret (v := .agg #[.slice none 0 0, .slice (some ⟨w.heap.size + 1, 0, none⟩) 1 1]) (by simp only [results, Try.results65]; go_simp) rfl ⟨_, _, rfl, ?_, ?_⟩
  · have h := R_one (d := kC) (X := w.alloc (.cells #[.slice none 0 0, .slice (some ⟨w.heap.size + 1, 0, none⟩) 1 1] 25)) (e := 33) (base := w.heap.size) (ok := fun _ => True) (okp := fun _ => False) (M_num _ _ _ n) (fun _ h => h.elim) trivial (by simp)
    rw [World.size_alloc] at h
    exact kA_mkM (a := T.atom n) (Kd.R_nil _ _ _ _ _) h
  · (repeat (first | exact Below.refl _ _ | apply below_alloc | apply below_drew | apply pw_below_drewN))
set_option maxHeartbeats 8000000 in
set_option maxRecDepth 100000 in
theorem refAtom_calls (n : Int) (w : World) : Calls Try.prog 70 #[.int .i64 n] w (MadeA (T.atom n) w) := by
  go_enter Try.func70, Try.ntmps70
  go_wp2_with fail
  refine bodyPost_ret (v := .agg #[.slice none 0 0, .slice (some ⟨w.heap.size + 1, 0, none⟩) 1 1]) (by simp only [results, Try.results70]; go_simp) rfl ⟨_, _, rfl, ?_, ?_⟩
  · have h := R_one (d := kC) (X := w.alloc (.cells #[.slice none 0 0, .slice (some ⟨w.heap.size + 1, 0, none⟩) 1 1] 25)) (e := 33) (base := w.heap.size) (ok := fun _ => True) (okp := fun _ => False) (M_num _ _ _ n) (fun _ h => h.elim) trivial (by simp)
    rw [World.size_alloc] at h
    exact kA_mkM (a := T.atom n) (Kd.R_nil _ _ _ _ _) h
  · (repeat (first | exact Below.refl _ _ | apply below_alloc | apply below_drew | apply pw_below_drewN))
set_option maxHeartbeats 8000000 in
set_option maxRecDepth 100000 in
theorem arrNums_calls (l : List Int) (A : Option Addr) (c : Nat) (w : World) (hl : l.length ≤ 16384) (hc : l.length ≤ c) (g : Cint w A l) : Calls Try.prog 60 #[.slice A l.length c] w (MadeA (T.nums l) w) := by
  have G := Aside0.mk g
  clear g
  go_enter Try.func60, Try.ntmps60
  go_wp2_with fail
  have hl0 : Aside0 (∃ vc, (((w.alloc (.cells #[.slice none 0 0, .slice none 0 0] 25)).alloc (.cells #[.int .i64 l.length] 3)).alloc (.cells #[.slice (some ⟨w.heap.size + 1, 0, none⟩) 1 1, .slice none 0 0] 25)).heap[w.heap.size + 2]? = some (.cells #[.slice (some ⟨w.heap.size + 1, 0, none⟩) 1 1, vc] 25 (0, 0)) ∧ (Kd.int .i64).R 3 (((w.alloc (.cells #[.slice none 0 0, .slice none 0 0] 25)).alloc (.cells #[.int .i64 l.length] 3)).alloc (.cells #[.slice (some ⟨w.heap.size + 1, 0, none⟩) 1 1, .slice none 0 0] 25)) (w.heap.size + 1) (fun k => k ≠ w.heap.size + 2) (.slice (some ⟨w.heap.size + 1, 0, none⟩) 1 1) [(l.length : Int)] ∧ kC.R 33 (((w.alloc (.cells #[.slice none 0 0, .slice none 0 0] 25)).alloc (.cells #[.int .i64 l.length] 3)).alloc (.cells #[.slice (some ⟨w.heap.size + 1, 0, none⟩) 1 1, .slice none 0 0] 25)) (w.heap.size + 1) (fun k => k ≠ w.heap.size + 2) vc ((l.take 0).map T.numc)) := by
    refine ⟨_, heap_alloc_new' _ _ _ (by simp), ?_, Kd.R_nil _ _ _ _ _⟩
    have h := R_one (d := Kd.int .i64) (X := (w.alloc (.cells #[.slice none 0 0, .slice none 0 0] 25))) (e := 3) (base := w.heap.size + 1) (ok := fun k => k < w.heap.size + 2) (okp := fun _ => False) (p := (l.length : Int)) (cs := [.int .i64 l.length]) rfl (fun _ h => h.elim) (by simp) (by simp)
    rw [World.size_alloc] at h
    exact Kd.R_mono (Kd.R_alloc h _) (fun k hk => by omega)
  go_loopw [12] (fun i W => ∃ k : Nat, k ≤ l.length ∧ i = .int .i64 k ∧ Aside0 (∃ vc, W.heap[w.heap.size + 2]? = some (.cells #[.slice (some ⟨w.heap.size + 1, 0, none⟩) 1 1, vc] 25 (0, 0)) ∧ (Kd.int .i64).R 3 W (w.heap.size + 1) (fun k => k ≠ w.heap.size + 2) (.slice (some ⟨w.heap.size + 1, 0, none⟩) 1 1) [(l.length : Int)] ∧ kC.R 33 W (w.heap.size + 1) (fun k => k ≠ w.heap.size + 2) vc ((l.take k).map T.numc)) ∧ Aside0 (Below (w.heap.size + 1) (w.alloc (.cells #[.slice none 0 0, .slice none 0 0] 25)) W)) (fun i _ => l.length - (intOf i).toNat)
  case atStart => exact ⟨0, by omega, rfl, hl0, ⟨((Below.refl _ _).alloc (by simp) _).alloc (by simp) _⟩⟩
  case round =>
    clear hl0
    obtain ⟨k, hk, rfl, hown, hbl⟩ := hrel
    obtain ⟨vc, hblk, hRS, hRC⟩ := hown.out
    clear hown
    have HRS := Aside0.mk hRS
    have HRC := Aside0.mk hRC
    have HBK := Aside0.mk hblk
    have hgl : w.heap.size + 2 < wr.heap.size := (Array.getElem?_eq_some_iff.1 hblk).1
    have hbw : Below w.heap.size w wr := ((Below.refl _ _).alloc (Nat.le_refl _) _).trans (hbl.out.mono (by omega))
    clear hRS hRC
    by_cases hlt : k < l.length
    · obtain ⟨ad, ea, x00⟩ := at_int G.out k hlt
      have x0 := pw_cell_below hbw x00
      replace hbw := Aside0.mk hbw
      subst ea
      have hts := Aside0.mk (take_snoc (0 : Int) hlt)
      generalize l.getD k 0 = x at x00 x0 hts
      replace x00 := Aside0.mk x00
      have hxl : ((l.take k).map T.numc).length ≤ 16384 := by rw [List.length_map, List.length_take]; omega
      generalize hxs : l.take k = ls at HRC hts hxl
      clear hxs
      have hts2 := Aside0.mk (show ls.map T.numc ++ [T.numc x] = (l.take (k + 1)).map T.numc by rw [hts.out]; simp)
      generalize ls.map T.numc = xs at HRC hxl hts2
      obtain ⟨V, ec, rfl⟩ := Kd.R_slice HRC.out
      have y1 : wr.cell? ⟨w.heap.size + 2, 1, none⟩ = some (.slice V xs.length ec) := cell_of_row wr (w.heap.size + 2) 1 _ _ _ hblk
      have yf : ∀ j, wr.frozen? ⟨w.heap.size + 2, j, none⟩ = false := fun j => by simp [World.frozen?, hblk]
      clear hblk
      have hne0 := Aside0.mk (Kd.R_away HRC.out (g := w.heap.size + 2) (fun k hk => hk))
      go_wp2_with (at_builtin; (refine Kd.R_append kC (w.heap.size + 1) rfl (.tmp 17) (.tmp 20) 23 33 (.agg #[.int .i64 0, .int .i64 0, .slice none 0 0]) 40 rfl Try.underlying23 info_cell rfl (by decide) (by omega) (.slice V xs.length ec) xs (T.numc x) _ (fun k => k ≠ w.heap.size + 2) (fun _ => False) rfl rfl (M_num _ _ _ x) (fun k hk => hk.elim) (fun k hk => by have := hgl; first | omega | (simp at hk; omega)) HRC.out (Below.refl _ _) (by first | omega | (simp; omega)) (by omega) ?_); intro v1 w3 hR3 hb3 hg3 hat3; go_loud (obtain ⟨V1, ec1, rfl⟩ := Kd.R_slice hR3; have hfz : w3.frozen? ⟨w.heap.size + 2, 1, none⟩ = false := ((frozen_block (hg3.block _ hgl hne0.out)).trans (yf 1)); have hb5 := Aside0.mk ((hg3.block (w.heap.size + 2) hgl hne0.out).trans HBK.out); have hcc1 : w3.cell? ⟨w.heap.size + 2, 1, none⟩ = some (.slice V xs.length ec) := (World.cell?_of_block (hg3.block (w.heap.size + 2) hgl hne0.out)).trans y1; have hgl3 : w.heap.size + 2 < w3.heap.size := (by have := hg3.size; omega); have hg4 := Aside0.mk hg3; replace hR3 := Aside0.mk hR3; replace hb3 := Aside0.mk hb3; clear hat3 hg3))
      refine ⟨⟨k + 1, by omega, by go_num, ⟨.slice V1 (xs.length + 1) ec1, ?_, ?_, ?_⟩, ⟨?_⟩⟩, by simp [intOf]; omega⟩
      · simp [World.setCell, Array.getElem?_modify, hb5.out]
      · refine Kd.R_far ?_ (fun _ h => h) _
        exact Kd.R_over HRS.out HRC.out (by intro q hq; simp [Kd.int, Kd.scalar] at hq; omega) hg4.out
      · rw [← hts2.out]
        have h5 := Kd.R_far hR3.out (p := ⟨w.heap.size + 2, 1, none⟩) (fun _ h => h) (.slice V1 (xs.length + 1) ec1)
        simpa using h5
      · refine Below.setCell ?_ (by simp) _
        exact hbl.out.trans hb3.out
    · have hz3 : w.heap.size < wr.heap.size := by omega
      have hz4 : w.heap.size + 2 < wr.heap.size := by omega
      obtain rfl : k = l.length := by omega
      rw [List.take_length] at HRC
      have hlm := Aside0.mk (show (l.map T.numc).length = l.length by simp)
      generalize hxs : l.map T.numc = xs at HRC hlm
      have HX := Aside0.mk hxs
      clear hxs
      obtain ⟨V, ec, rfl⟩ := Kd.R_slice HRC.out
      have y0 : wr.cell? ⟨w.heap.size + 2, 0, none⟩ = some (.slice (some ⟨w.heap.size + 1, 0, none⟩) 1 1) := cell_of_row wr (w.heap.size + 2) 0 _ _ _ hblk
      have y1 : wr.cell? ⟨w.heap.size + 2, 1, none⟩ = some (.slice V xs.length ec) := cell_of_row wr (w.heap.size + 2) 1 _ _ _ hblk
      have z0 : wr.cell? ⟨w.heap.size, 0, none⟩ = some (.slice none 0 0) := (hbl.out.cell (p := ⟨w.heap.size, 0, none⟩) (by simp)).trans (by simp)
      have z1 : wr.cell? ⟨w.heap.size, 1, none⟩ = some (.slice none 0 0) := (hbl.out.cell (p := ⟨w.heap.size, 1, none⟩) (by simp)).trans (by simp)
      have zf : ∀ j, wr.frozen? ⟨w.heap.size, j, none⟩ = false := fun j => (hbl.out.frozen (p := ⟨w.heap.size, j, none⟩) (by simp)).trans (by go_simp)
      clear hblk
      replace hbw := Aside0.mk hbw
      go_wp2_with fail
      refine bodyPost_ret (v := .agg #[.slice (some ⟨w.heap.size + 1, 0, none⟩) 1 1, .slice V xs.length ec]) (by simp only [results, Try.results60]; go_simp) rfl ⟨_, _, rfl, ?_, ?_⟩
      · have hst : ∀ q, w.heap.size + 1 ≤ q → q < wr.heap.size → ((wr.setCell ⟨w.heap.size, 0, none⟩ (.slice (some ⟨w.heap.size + 1, 0, none⟩) 1 1)).setCell ⟨w.heap.size, 1, none⟩ (.slice V xs.length ec)).heap[q]? = wr.heap[q]? := fun q hq _ => by
          repeat (refine (Below.heap_setCell _ _ _ _ (by simp; omega)).trans ?_)
          rfl
        refine kA_mkM (a := T.nums l) ?_ ?_
        · exact Kd.R_lower (Kd.R_mono (R_stay HRS.out hst) (fun _ _ => trivial)) (by omega)
        · have h5 := Kd.R_lower (Kd.R_mono (R_stay HRC.out hst) (fun _ _ => (trivial : (fun _ => True) _))) (show w.heap.size ≤ w.heap.size + 1 by omega)
          rw [← HX.out] at h5 ⊢
          exact h5
      · repeat (refine Below.setCell ?_ (by simp) _)
        exact hbw.out
set_option maxHeartbeats 8000000 in
set_option maxRecDepth 100000 in
theorem refNums_calls (l : List Int) (A : Option Addr) (c : Nat) (w : World) (hl : l.length ≤ 16384) (hc : l.length ≤ c) (g : Cint w A l) : Calls Try.prog 76 #[.slice A l.length c] w (MadeA (T.nums l) w) := by
  have G := Aside0.mk g
  clear g
  go_enter Try.func76, Try.ntmps76
  go_wp2_with fail
  have hl0 : Aside0 (∃ vc, (((w.alloc (.cells #[.slice none 0 0, .slice none 0 0] 25)).alloc (.cells #[.int .i64 l.length] 3)).alloc (.cells #[.slice (some ⟨w.heap.size + 1, 0, none⟩) 1 1, .slice none 0 0] 25)).heap[w.heap.size + 2]? = some (.cells #[.slice (some ⟨w.heap.size + 1, 0, none⟩) 1 1, vc] 25 (0, 0)) ∧ (Kd.int .i64).R 3 (((w.alloc (.cells #[.slice none 0 0, .slice none 0 0] 25)).alloc (.cells #[.int .i64 l.length] 3)).alloc (.cells #[.slice (some ⟨w.heap.size + 1, 0, none⟩) 1 1, .slice none 0 0] 25)) (w.heap.size + 1) (fun k => k ≠ w.heap.size + 2) (.slice (some ⟨w.heap.size + 1, 0, none⟩) 1 1) [(l.length : Int)] ∧ kC.R 33 (((w.alloc (.cells #[.slice none 0 0, .slice none 0 0] 25)).alloc (.cells #[.int .i64 l.length] 3)).alloc (.cells #[.slice (some ⟨w.heap.size + 1, 0, none⟩) 1 1, .slice none 0 0] 25)) (w.heap.size + 1) (fun k => k ≠ w.heap.size + 2) vc ((l.take 0).map T.numc)) := by
    refine ⟨_, heap_alloc_new' _ _ _ (by simp), ?_, Kd.R_nil _ _ _ _ _⟩
    have h := R_one (d := Kd.int .i64) (X := (w.alloc (.cells #[.slice none 0 0, .slice none 0 0] 25))) (e := 3) (base := w.heap.size + 1) (ok := fun k => k < w.heap.size + 2) (okp := fun _ => False) (p := (l.length : Int)) (cs := [.int .i64 l.length]) rfl (fun _ h => h.elim) (by simp) (by simp)
    rw [World.size_alloc] at h
    exact Kd.R_mono (Kd.R_alloc h _) (fun k hk => by omega)
  go_loopw [4] (fun i W => ∃ k : Nat, k ≤ l.length ∧ i = .int .i64 k ∧ Aside0 (∃ vc, W.heap[w.heap.size + 2]? = some (.cells #[.slice (some ⟨w.heap.size + 1, 0, none⟩) 1 1, vc] 25 (0, 0)) ∧ (Kd.int .i64).R 3 W (w.heap.size + 1) (fun k => k ≠ w.heap.size + 2) (.slice (some ⟨w.heap.size + 1, 0, none⟩) 1 1) [(l.length : Int)] ∧ kC.R 33 W (w.heap.size + 1) (fun k => k ≠ w.heap.size + 2) vc ((l.take k).map T.numc)) ∧ Aside0 (Below (w.heap.size + 1) (w.alloc (.cells #[.slice none 0 0, .slice none 0 0] 25)) W)) (fun i _ => l.length - (intOf i).toNat)
  case atStart => exact ⟨0, by omega, rfl, hl0, ⟨((Below.refl _ _).alloc (by simp) _).alloc (by simp) _⟩⟩
  case round =>
    clear hl0
    obtain ⟨k, hk, rfl, hown, hbl⟩ := hrel
    obtain ⟨vc, hblk, hRS, hRC⟩ := hown.out
    clear hown
    have HRS := Aside0.mk hRS
    have HRC := Aside0.mk hRC
    have HBK := Aside0.mk hblk
    have hgl : w.heap.size + 2 < wr.heap.size := (Array.getElem?_eq_some_iff.1 hblk).1
    have hbw : Below w.heap.size w wr := ((Below.refl _ _).alloc (Nat.le_refl _) _).trans (hbl.out.mono (by omega))
    clear hRS hRC
    by_cases hlt : k < l.length
    · obtain ⟨ad, ea, x00⟩ := at_int G.out k hlt
      have x0 := pw_cell_below hbw x00
      replace hbw := Aside0.mk hbw
      subst ea
      have hts := Aside0.mk (take_snoc (0 : Int) hlt)
      generalize l.getD k 0 = x at x00 x0 hts
      replace x00 := Aside0.mk x00
      have hxl : ((l.take k).map T.numc).length ≤ 16384 := by rw [List.length_map, List.length_take]; omega
      generalize hxs : l.take k = ls at HRC hts hxl
      clear hxs
      have hts2 := Aside0.mk (show ls.map T.numc ++ [T.numc x] = (l.take (k + 1)).map T.numc by rw [hts.out]; simp)
      generalize ls.map T.numc = xs at HRC hxl hts2
      obtain ⟨V, ec, rfl⟩ := Kd.R_slice HRC.out
      have y1 : wr.cell? ⟨w.heap.size + 2, 1, none⟩ = some (.slice V xs.length ec) := cell_of_row wr (w.heap.size + 2) 1 _ _ _ hblk
      have yf : ∀ j, wr.frozen? ⟨w.heap.size + 2, j, none⟩ = false := fun j => by simp [World.frozen?, hblk]
      clear hblk
      have hne0 := Aside0.mk (Kd.R_away HRC.out (g := w.heap.size + 2) (fun k hk => hk))
      go_wp2_with fail
      refine start_ (n := 11) (S := fun w' => w'.cell? ⟨w.heap.size + 2, 1, none⟩ = some (.slice V xs.length ec) ∧ w'.cell? (ad.add k) = some (.int .i64 x)) (ds := [10]) #[false, false, false, false, false, false, false, false, false, false, false] (by kernel_rfl) rfl rfl ⟨(by go_simp), (by go_simp)⟩ (fun hHeld => ?_)
      refine pure_ (i := 0) (N := some 15) (v := ?_) (a' := ?_) #[true, false, false, false, false, false, false, false, false, false, false] rfl rfl (by kernel_rfl) (fun _ _ _ h => h) (Or.inl ⟨by rfl, ?_⟩) ?_ ?_
      rotate_left
      · intro w'
        go_simp
        with_reducible rfl
      rotate_left
      · simp only [Act.put, List.setIfInBounds_toArray, List.set_cons_zero, List.set_cons_succ, i64_w, i32_w]
        rfl
      refine pure_ (i := 2) (N := some 17) (v := ?_) (a' := ?_) #[true, false, true, false, false, false, false, false, false, false, false] rfl rfl (by kernel_rfl) (fun _ _ _ h => h) (Or.inl ⟨by rfl, ?_⟩) ?_ ?_
      rotate_left
      · intro w'
        go_simp
        with_reducible rfl
      rotate_left
      · simp only [Act.put, List.setIfInBounds_toArray, List.set_cons_zero, List.set_cons_succ, i64_w, i32_w]
        rfl
      refine pure_ (i := 3) (N := some 18) (v := ?_) (a' := ?_) #[true, false, true, true, false, false, false, false, false, false, false] rfl rfl (by kernel_rfl) (fun _ _ _ h => h) (Or.inl ⟨by rfl, ?_⟩) ?_ ?_
      rotate_left
      · intro w'
        go_simp
        with_reducible rfl
      rotate_left
      · simp only [Act.put, List.setIfInBounds_toArray, List.set_cons_zero, List.set_cons_succ, i64_w, i32_w]
        rfl
      refine pure_ (i := 4) (N := some 19) (v := ?_) (a' := ?_) #[true, false, true, true, true, false, false, false, false, false, false] rfl rfl (by kernel_rfl) (fun _ _ _ h => h) (Or.inl ⟨by rfl, ?_⟩) ?_ ?_
      rotate_left
      · intro w'
        go_simp
        with_reducible rfl
      rotate_left
      · simp only [Act.put, List.setIfInBounds_toArray, List.set_cons_zero, List.set_cons_succ, i64_w, i32_w]
        rfl
      refine take_ (i := 1) (N := some 16) (v := ?_) (a' := ?_) #[true, true, true, true, true, false, false, false, false, false, false] rfl rfl (by kernel_rfl) (fun _ _ _ h => h) (Or.inl ⟨by rfl, ?_⟩) hHeld ?_ ?_
      rotate_left
      · rintro w' ⟨s0, s1⟩
        go_simp
        with_reducible rfl
      rotate_left
      · simp only [Act.put, List.setIfInBounds_toArray, List.set_cons_zero, List.set_cons_succ, i64_w, i32_w]
        rfl
      refine take_ (i := 5) (N := some 20) (v := ?_) (a' := ?_) #[true, true, true, true, true, true, false, false, false, false, false] rfl rfl (by kernel_rfl) (fun _ _ _ h => h) (Or.inl ⟨by rfl, ?_⟩) hHeld ?_ ?_
      rotate_left
      · rintro w' ⟨s0, s1⟩
        go_simp
        with_reducible rfl
      rotate_left
      · simp only [Act.put, List.setIfInBounds_toArray, List.set_cons_zero, List.set_cons_succ, i64_w, i32_w]
        rfl
      refine pure_ (i := 6) (N := some 21) (v := ?_) (a' := ?_) #[true, true, true, true, true, true, true, false, false, false, false] rfl rfl (by kernel_rfl) (fun _ _ _ h => h) (Or.inl ⟨by rfl, ?_⟩) ?_ ?_
      rotate_left
      · intro w'
        go_simp
        with_reducible rfl
      rotate_left
      · simp only [Act.put, List.setIfInBounds_toArray, List.set_cons_zero, List.set_cons_succ, i64_w, i32_w]
        rfl
      refine one_ (i := 7) (N := some 22) #[true, true, true, true, true, true, true, true, false, false, false] rfl rfl (by kernel_rfl) (by decide) (fun K hK => ?_)
      refine value_ (w1 := ?_) (v := ?_) (by rfl) rfl ?_ ?_
      rotate_left 2
      · go_simp
        constructor
        · rfl
        · rfl
      refine hK.out _ _ ⟨later hHeld.1 _, later hHeld.2 _⟩ (fun hHeld => ?_)
      clear hK K
      refine norm_ (a' := ?_) ?_ ?_
      rotate_left
      · show Act.put _ (some 22) _ = _
        simp only [Act.put, List.setIfInBounds_toArray, List.set_cons_zero, List.set_cons_succ, i64_w, i32_w]
        rfl
      refine one_ (i := 8) (N := some 23) #[true, true, true, true, true, true, true, true, true, false, false] rfl rfl (by kernel_rfl) (by decide) (fun K hK => ?_)
      have hz9 : w.heap.size + 1 ≤ wr.heap.size := by omega
      refine Kd.R_append_step kC (w.heap.size + 1) (by rfl) (.tmp 16) (.tmp 22) 23 33 (.agg #[.int .i64 0, .int .i64 0, .slice none 0 0]) 40 rfl Try.underlying23 info_cell rfl (by decide) (by omega) (.slice V xs.length ec) xs (T.numc x) _ (fun k => k ≠ w.heap.size + 2) (fun _ => False) rfl rfl (M_num _ _ _ x) (fun k hk => hk.elim) (fun k hk => by have := hgl; first | omega | (simp at hk; omega)) (Kd.R_drew HRC.out) (Below.refl _ _) (by first | omega | (simp; omega)) (by omega) ?_
      intro v1 w3 hR3 hb3 hg3 hat3
      have hbe := hg3.size
      simp at hbe
      obtain ⟨V1, ec1, rfl⟩ := Kd.R_slice hR3; have hfz : w3.frozen? ⟨w.heap.size + 2, 1, none⟩ = false := ((frozen_block (hg3.block _ hgl hne0.out)).trans (yf 1)); have hb5 := Aside0.mk ((hg3.block (w.heap.size + 2) hgl hne0.out).trans HBK.out); have hcc1 : w3.cell? ⟨w.heap.size + 2, 1, none⟩ = some (.slice V xs.length ec) := (World.cell?_of_block (hg3.block (w.heap.size + 2) hgl hne0.out)).trans y1; have hgl3 : w.heap.size + 2 < w3.heap.size := (by have := hg3.size; omega); have hg4 := Aside0.mk hg3; replace hR3 := Aside0.mk hR3; replace hb3 := Aside0.mk hb3
      have hce : w3.cell? (ad.add k) = some (.int .i64 x) := pw_cell_below (hbw.out.trans (below_of_drew (hb3.out.mono (Nat.le_succ w.heap.size)))) x00.out
      clear hat3 hg3
      refine hK.out _ _ ⟨hcc1, hce⟩ (fun hHeld => ?_)
      clear hK K
      refine norm_ (a' := ?_) ?_ ?_
      rotate_left
      · show Act.put _ (some 23) _ = _
        simp only [Act.put, List.setIfInBounds_toArray, List.set_cons_zero, List.set_cons_succ, i64_w, i32_w]
        rfl
      refine pure_ (i := 9) (N := some 24) (v := ?_) (a' := ?_) #[true, true, true, true, true, true, true, true, true, true, false] rfl rfl (by kernel_rfl) (fun _ _ _ h => h) (Or.inl ⟨by rfl, ?_⟩) ?_ ?_
      rotate_left
      · intro w'
        go_simp
        with_reducible rfl
      rotate_left
      · simp only [Act.put, List.setIfInBounds_toArray, List.set_cons_zero, List.set_cons_succ, i64_w, i32_w]
        rfl
      refine last_ (i := 10) (N := none) #[true, true, true, true, true, true, true, true, true, true, true] rfl rfl (by kernel_rfl) (by decide) (fun K hK => ?_)
      refine skip_ (w1 := ?_) (by rfl) rfl ?_ ?_
      rotate_left
      · go_simp
        rfl
      refine hK.out _ _ ?_
      clear hK K
      refine done_ (by kernel_rfl) ?_
      go_wp2_with fail
      refine ⟨⟨k + 1, by omega, by go_num, ⟨.slice V1 (xs.length + 1) ec1, ?_, ?_, ?_⟩, ⟨?_⟩⟩, by simp [intOf]; omega⟩
      · simp [World.setCell, Array.getElem?_modify, hb5.out]
      · refine Kd.R_far ?_ (fun _ h => h) _
        exact Kd.R_over HRS.out HRC.out (by intro q hq; simp [Kd.int, Kd.scalar] at hq; omega) (grown_of_drew hg4.out)
      · rw [← hts2.out]
        have h5 := Kd.R_far hR3.out (p := ⟨w.heap.size + 2, 1, none⟩) (fun _ h => h) (.slice V1 (xs.length + 1) ec1)
        simpa using h5
      · refine Below.setCell ?_ (by simp) _
        exact hbl.out.trans (below_of_drew hb3.out)
    · have hz3 : w.heap.size < wr.heap.size := by omega
      have hz4 : w.heap.size + 2 < wr.heap.size := by omega
      obtain rfl : k = l.length := by omega
      rw [List.take_length] at HRC
      have hlm := Aside0.mk (show (l.map T.numc).length = l.length by simp)
      generalize hxs : l.map T.numc = xs at HRC hlm
      have HX := Aside0.mk hxs
      clear hxs
      obtain ⟨V, ec, rfl⟩ := Kd.R_slice HRC.out
      have y0 : wr.cell? ⟨w.heap.size + 2, 0, none⟩ = some (.slice (some ⟨w.heap.size + 1, 0, none⟩) 1 1) := cell_of_row wr (w.heap.size + 2) 0 _ _ _ hblk
      have y1 : wr.cell? ⟨w.heap.size + 2, 1, none⟩ = some (.slice V xs.length ec) := cell_of_row wr (w.heap.size + 2) 1 _ _ _ hblk
      have z0 : wr.cell? ⟨w.heap.size, 0, none⟩ = some (.slice none 0 0) := (hbl.out.cell (p := ⟨w.heap.size, 0, none⟩) (by simp)).trans (by simp)
      have z1 : wr.cell? ⟨w.heap.size, 1, none⟩ = some (.slice none 0 0) := (hbl.out.cell (p := ⟨w.heap.size, 1, none⟩) (by simp)).trans (by simp)
      have zf : ∀ j, wr.frozen? ⟨w.heap.size, j, none⟩ = false := fun j => (hbl.out.frozen (p := ⟨w.heap.size, j, none⟩) (by simp)).trans (by go_simp)
      clear hblk
      replace hbw := Aside0.mk hbw
      go_wp2_with fail
      refine bodyPost_ret (v := .agg #[.slice (some ⟨w.heap.size + 1, 0, none⟩) 1 1, .slice V xs.length ec]) (by simp only [results, Try.results76]; go_simp) rfl ⟨_, _, rfl, ?_, ?_⟩
      · have hst : ∀ q, w.heap.size + 1 ≤ q → q < wr.heap.size → ((wr.setCell ⟨w.heap.size, 0, none⟩ (.slice (some ⟨w.heap.size + 1, 0, none⟩) 1 1)).setCell ⟨w.heap.size, 1, none⟩ (.slice V xs.length ec)).heap[q]? = wr.heap[q]? := fun q hq _ => by
          repeat (refine (Below.heap_setCell _ _ _ _ (by simp; omega)).trans ?_)
          rfl
        refine kA_mkM (a := T.nums l) ?_ ?_
        · exact Kd.R_lower (Kd.R_mono (R_stay HRS.out hst) (fun _ _ => trivial)) (by omega)
        · have h5 := Kd.R_lower (Kd.R_mono (R_stay HRC.out hst) (fun _ _ => (trivial : (fun _ => True) _))) (show w.heap.size ≤ w.heap.size + 1 by omega)
          rw [← HX.out] at h5 ⊢
          exact h5
      · repeat (refine Below.setCell ?_ (by simp) _)
        exact hbw.out
end Go.Proofs.Ytdfijdajkdkkfaa
