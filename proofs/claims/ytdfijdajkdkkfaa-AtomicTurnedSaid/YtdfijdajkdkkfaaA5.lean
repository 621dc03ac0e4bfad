/-
  Walks: Dy, the program's.
-/
import Derived.Test.YtdfijdajkdkkfaaA4
import Derived.Deep.Cut
set_option linter.unusedVariables false
set_option linter.unusedSimpArgs false
namespace Go.Proofs.Ytdfijdajkdkkfaa
open Go.RowKit Go.Proofs.YtdfijdajkdkkfaaW.PrintWords Go.Proofs.YtdfijdajkdkkfaaW.PrintLast
open T
set_option maxHeartbeats 8000000 in
set_option maxRecDepth 100000 in
theorem atDy_calls (op : Int) (a b : Arr) (A0 A1 B0 B1 : Option Addr) (c0 c1 d0 d1 : Nat) (w : World) (hwa : wfA a) (hwb : wfA b) (l0 : a.shape.length ≤ c0) (l1 : a.cells.length ≤ c1) (m0 : b.shape.length ≤ d0) (m1 : b.cells.length ≤ d1) (g0 : Cint w A0 a.shape) (g1 : CC w A1 a.cells) (z0 : Cint w B0 b.shape) (z1 : CC w B1 b.cells) :
    Calls Try.prog 53 #[.int .i64 op, .agg #[.slice A0 a.shape.length c0, .slice A1 a.cells.length c1], .agg #[.slice B0 b.shape.length d0, .slice B1 b.cells.length d1]] w (NewArr (T.dyS op a b) w) := by
  have GA0 := Aside0.mk g0
  have GA1 := Aside0.mk g1
  have GB0 := Aside0.mk z0
  have GB1 := Aside0.mk z1
  have HWA := Aside0.mk hwa
  have HWB := Aside0.mk hwb
  clear g0 g1 z0 z1 hwa hwb
  obtain ⟨xa, hxa⟩ : ∃ x, chk 8 a = x := ⟨_, rfl⟩
  obtain ⟨xb, hxb⟩ : ∃ x, chk 8 b = x := ⟨_, rfl⟩
  have HXA := Aside0.mk hxa
  have HXB := Aside0.mk hxb
  clear hxa hxb
  obtain ⟨na, hna⟩ : ∃ n, n = a.shape.length := ⟨_, rfl⟩
  obtain ⟨ma, hma⟩ : ∃ n, n = a.cells.length := ⟨_, rfl⟩
  obtain ⟨nb, hnb⟩ : ∃ n, n = b.shape.length := ⟨_, rfl⟩
  obtain ⟨mb, hmb⟩ : ∃ n, n = b.cells.length := ⟨_, rfl⟩
  rw [← hna, ← hma, ← hnb, ← hmb]
  rw [← hna] at l0
  rw [← hma] at l1
  rw [← hnb] at m0
  rw [← hmb] at m1
  have HNA := Aside0.mk hna
  have HMA := Aside0.mk hma
  have HNB := Aside0.mk hnb
  have HMB := Aside0.mk hmb
  have HCA := Aside0.mk (fun (W : World) (h : Below w.heap.size w W) => calls_val (v' := xa) (arrCheck_calls a A0 A1 c0 c1 W (hna ▸ l0) (hma ▸ l1) (Kd.C_below GA0.out h) (Kd.C_below GA1.out h)) HXA.out)
  have HCB := Aside0.mk (fun (W : World) (h : Below w.heap.size w W) => calls_val (v' := xb) (arrCheck_calls b B0 B1 d0 d1 W (hnb ▸ m0) (hmb ▸ m1) (Kd.C_below GB0.out h) (Kd.C_below GB1.out h)) HXB.out)
  rw [← hna, ← hma] at HCA
  rw [← hnb, ← hmb] at HCB
  clear hna hma hnb hmb
  go_enter Try.func53, Try.ntmps53
  go_wp2_with fail
  have hsz0 : ((((w.alloc (.cells #[.slice A0 na c0, .slice A1 ma c1] 25)).alloc (.cells #[.slice B0 nb d0, .slice B1 mb d1] 25)).alloc (.cells #[.slice none 0 0, .slice none 0 0] 25)).alloc (.cells #[.slice A0 na c0, .slice A1 ma c1, .slice B0 nb d0, .slice B1 mb d1] 25)).heap.size = w.heap.size + 4 := by simp
  have hb0 : Below w.heap.size w ((((w.alloc (.cells #[.slice A0 na c0, .slice A1 ma c1] 25)).alloc (.cells #[.slice B0 nb d0, .slice B1 mb d1] 25)).alloc (.cells #[.slice none 0 0, .slice none 0 0] 25)).alloc (.cells #[.slice A0 na c0, .slice A1 ma c1, .slice B0 nb d0, .slice B1 mb d1] 25)) := by (repeat (first | exact Below.refl _ _ | apply below_alloc | apply below_drew | apply pw_below_drewN))
  have q00 : ((((w.alloc (.cells #[.slice A0 na c0, .slice A1 ma c1] 25)).alloc (.cells #[.slice B0 nb d0, .slice B1 mb d1] 25)).alloc (.cells #[.slice none 0 0, .slice none 0 0] 25)).alloc (.cells #[.slice A0 na c0, .slice A1 ma c1, .slice B0 nb d0, .slice B1 mb d1] 25)).cell? ⟨w.heap.size, 0, none⟩ = some (.slice A0 na c0) := by go_simp
  have q01 : ((((w.alloc (.cells #[.slice A0 na c0, .slice A1 ma c1] 25)).alloc (.cells #[.slice B0 nb d0, .slice B1 mb d1] 25)).alloc (.cells #[.slice none 0 0, .slice none 0 0] 25)).alloc (.cells #[.slice A0 na c0, .slice A1 ma c1, .slice B0 nb d0, .slice B1 mb d1] 25)).cell? ⟨w.heap.size, 1, none⟩ = some (.slice A1 ma c1) := by go_simp
  have q10 : ((((w.alloc (.cells #[.slice A0 na c0, .slice A1 ma c1] 25)).alloc (.cells #[.slice B0 nb d0, .slice B1 mb d1] 25)).alloc (.cells #[.slice none 0 0, .slice none 0 0] 25)).alloc (.cells #[.slice A0 na c0, .slice A1 ma c1, .slice B0 nb d0, .slice B1 mb d1] 25)).cell? ⟨w.heap.size + 1, 0, none⟩ = some (.slice B0 nb d0) := by go_simp
  have q11 : ((((w.alloc (.cells #[.slice A0 na c0, .slice A1 ma c1] 25)).alloc (.cells #[.slice B0 nb d0, .slice B1 mb d1] 25)).alloc (.cells #[.slice none 0 0, .slice none 0 0] 25)).alloc (.cells #[.slice A0 na c0, .slice A1 ma c1, .slice B0 nb d0, .slice B1 mb d1] 25)).cell? ⟨w.heap.size + 1, 1, none⟩ = some (.slice B1 mb d1) := by go_simp
  have q20 : ((((w.alloc (.cells #[.slice A0 na c0, .slice A1 ma c1] 25)).alloc (.cells #[.slice B0 nb d0, .slice B1 mb d1] 25)).alloc (.cells #[.slice none 0 0, .slice none 0 0] 25)).alloc (.cells #[.slice A0 na c0, .slice A1 ma c1, .slice B0 nb d0, .slice B1 mb d1] 25)).cell? ⟨w.heap.size + 1 + 1, 0, none⟩ = some (.slice none 0 0) := by go_simp
  have q21 : ((((w.alloc (.cells #[.slice A0 na c0, .slice A1 ma c1] 25)).alloc (.cells #[.slice B0 nb d0, .slice B1 mb d1] 25)).alloc (.cells #[.slice none 0 0, .slice none 0 0] 25)).alloc (.cells #[.slice A0 na c0, .slice A1 ma c1, .slice B0 nb d0, .slice B1 mb d1] 25)).cell? ⟨w.heap.size + 1 + 1, 1, none⟩ = some (.slice none 0 0) := by go_simp
  have q30 : ((((w.alloc (.cells #[.slice A0 na c0, .slice A1 ma c1] 25)).alloc (.cells #[.slice B0 nb d0, .slice B1 mb d1] 25)).alloc (.cells #[.slice none 0 0, .slice none 0 0] 25)).alloc (.cells #[.slice A0 na c0, .slice A1 ma c1, .slice B0 nb d0, .slice B1 mb d1] 25)).cell? ⟨w.heap.size + 1 + 1 + 1, 0, none⟩ = some (.slice A0 na c0) := by go_simp
  have q31 : ((((w.alloc (.cells #[.slice A0 na c0, .slice A1 ma c1] 25)).alloc (.cells #[.slice B0 nb d0, .slice B1 mb d1] 25)).alloc (.cells #[.slice none 0 0, .slice none 0 0] 25)).alloc (.cells #[.slice A0 na c0, .slice A1 ma c1, .slice B0 nb d0, .slice B1 mb d1] 25)).cell? ⟨w.heap.size + 1 + 1 + 1, 1, none⟩ = some (.slice A1 ma c1) := by go_simp
  have q32 : ((((w.alloc (.cells #[.slice A0 na c0, .slice A1 ma c1] 25)).alloc (.cells #[.slice B0 nb d0, .slice B1 mb d1] 25)).alloc (.cells #[.slice none 0 0, .slice none 0 0] 25)).alloc (.cells #[.slice A0 na c0, .slice A1 ma c1, .slice B0 nb d0, .slice B1 mb d1] 25)).cell? ⟨w.heap.size + 1 + 1 + 1, 2, none⟩ = some (.slice B0 nb d0) := by go_simp
  have q33 : ((((w.alloc (.cells #[.slice A0 na c0, .slice A1 ma c1] 25)).alloc (.cells #[.slice B0 nb d0, .slice B1 mb d1] 25)).alloc (.cells #[.slice none 0 0, .slice none 0 0] 25)).alloc (.cells #[.slice A0 na c0, .slice A1 ma c1, .slice B0 nb d0, .slice B1 mb d1] 25)).cell? ⟨w.heap.size + 1 + 1 + 1, 3, none⟩ = some (.slice B1 mb d1) := by go_simp
  have qf : ∀ j, ((((w.alloc (.cells #[.slice A0 na c0, .slice A1 ma c1] 25)).alloc (.cells #[.slice B0 nb d0, .slice B1 mb d1] 25)).alloc (.cells #[.slice none 0 0, .slice none 0 0] 25)).alloc (.cells #[.slice A0 na c0, .slice A1 ma c1, .slice B0 nb d0, .slice B1 mb d1] 25)).frozen? ⟨w.heap.size + 1 + 1, j, none⟩ = false := by intro j; go_simp
  have W0b : Aside0 (Below (w.heap.size + 4) ((((w.alloc (.cells #[.slice A0 na c0, .slice A1 ma c1] 25)).alloc (.cells #[.slice B0 nb d0, .slice B1 mb d1] 25)).alloc (.cells #[.slice none 0 0, .slice none 0 0] 25)).alloc (.cells #[.slice A0 na c0, .slice A1 ma c1, .slice B0 nb d0, .slice B1 mb d1] 25)) ((((w.alloc (.cells #[.slice A0 na c0, .slice A1 ma c1] 25)).alloc (.cells #[.slice B0 nb d0, .slice B1 mb d1] 25)).alloc (.cells #[.slice none 0 0, .slice none 0 0] 25)).alloc (.cells #[.slice A0 na c0, .slice A1 ma c1, .slice B0 nb d0, .slice B1 mb d1] 25))) := ⟨Below.refl _ _⟩
  generalize hW0 : ((((w.alloc (.cells #[.slice A0 na c0, .slice A1 ma c1] 25)).alloc (.cells #[.slice B0 nb d0, .slice B1 mb d1] 25)).alloc (.cells #[.slice none 0 0, .slice none 0 0] 25)).alloc (.cells #[.slice A0 na c0, .slice A1 ma c1, .slice B0 nb d0, .slice B1 mb d1] 25)) = W0 at *
  clear hW0
  replace q00 := Aside0.mk q00
  replace q01 := Aside0.mk q01
  replace q10 := Aside0.mk q10
  replace q11 := Aside0.mk q11
  replace q20 := Aside0.mk q20
  replace q21 := Aside0.mk q21
  replace q30 := Aside0.mk q30
  replace q31 := Aside0.mk q31
  replace q32 := Aside0.mk q32
  replace q33 := Aside0.mk q33
  replace qf := Aside0.mk qf
  replace hsz0 := Aside0.mk hsz0
  replace hb0 := Aside0.mk hb0
  go_loopw [24] (fun i W => ∃ k : Nat, k ≤ 2 ∧ i = .int .i64 k ∧ Aside0 (Below (w.heap.size + 4) W0 W) ∧ Aside0 (1 ≤ k → xa = 0) ∧ Aside0 (2 ≤ k → xb = 0)) (fun i _ => 2 - (intOf i).toNat)
  case atStart => exact ⟨0, by omega, rfl, W0b, ⟨by omega⟩, ⟨by omega⟩⟩
  case round =>
    clear W0b
    obtain ⟨k, hk, rfl, hbl, hka, hkb⟩ := hrel
    have y00 : wr.cell? ⟨w.heap.size, 0, none⟩ = some (.slice A0 na c0) := (hbl.out.cell (p := ⟨w.heap.size, 0, none⟩) (by simp <;> omega)).trans q00.out
    have y01 : wr.cell? ⟨w.heap.size, 1, none⟩ = some (.slice A1 ma c1) := (hbl.out.cell (p := ⟨w.heap.size, 1, none⟩) (by simp <;> omega)).trans q01.out
    have y10 : wr.cell? ⟨w.heap.size + 1, 0, none⟩ = some (.slice B0 nb d0) := (hbl.out.cell (p := ⟨w.heap.size + 1, 0, none⟩) (by simp <;> omega)).trans q10.out
    have y11 : wr.cell? ⟨w.heap.size + 1, 1, none⟩ = some (.slice B1 mb d1) := (hbl.out.cell (p := ⟨w.heap.size + 1, 1, none⟩) (by simp <;> omega)).trans q11.out
    have y20 : wr.cell? ⟨w.heap.size + 1 + 1, 0, none⟩ = some (.slice none 0 0) := (hbl.out.cell (p := ⟨w.heap.size + 1 + 1, 0, none⟩) (by simp <;> omega)).trans q20.out
    have y21 : wr.cell? ⟨w.heap.size + 1 + 1, 1, none⟩ = some (.slice none 0 0) := (hbl.out.cell (p := ⟨w.heap.size + 1 + 1, 1, none⟩) (by simp <;> omega)).trans q21.out
    have y30 : wr.cell? ⟨w.heap.size + 1 + 1 + 1, 0, none⟩ = some (.slice A0 na c0) := (hbl.out.cell (p := ⟨w.heap.size + 1 + 1 + 1, 0, none⟩) (by simp <;> omega)).trans q30.out
    have y31 : wr.cell? ⟨w.heap.size + 1 + 1 + 1, 1, none⟩ = some (.slice A1 ma c1) := (hbl.out.cell (p := ⟨w.heap.size + 1 + 1 + 1, 1, none⟩) (by simp <;> omega)).trans q31.out
    have y32 : wr.cell? ⟨w.heap.size + 1 + 1 + 1, 2, none⟩ = some (.slice B0 nb d0) := (hbl.out.cell (p := ⟨w.heap.size + 1 + 1 + 1, 2, none⟩) (by simp <;> omega)).trans q32.out
    have y33 : wr.cell? ⟨w.heap.size + 1 + 1 + 1, 3, none⟩ = some (.slice B1 mb d1) := (hbl.out.cell (p := ⟨w.heap.size + 1 + 1 + 1, 3, none⟩) (by simp <;> omega)).trans q33.out
    have yf : ∀ j, wr.frozen? ⟨w.heap.size + 1 + 1, j, none⟩ = false := fun j => (hbl.out.frozen (p := ⟨w.heap.size + 1 + 1, j, none⟩) (by simp <;> omega)).trans (qf.out j)
    have hbw : Aside0 (Below w.heap.size w wr) := ⟨hb0.out.trans (hbl.out.mono (by omega))⟩
    have hsz : w.heap.size + 4 ≤ wr.heap.size := by have h1 := hbl.out.size; have h2 := hsz0.out; omega
    rcases (show k = 0 ∨ k = 1 ∨ k = 2 by omega) with rfl | rfl | rfl
    · by_cases hx : xa = 0
      · go_wp2_with fail
        refine (HCA.out _ (by apply below_alloc; exact hbw.out)).mono ?_
        rintro e w1 ⟨rfl, hb⟩
        have hb1 := Aside0.mk hb
        have HX := Aside0.mk hx
        clear hb
        rw [hx]
        clear hx
        go_wp2_with fail
        exact ⟨⟨1, by omega, rfl, ⟨(hbl.out.alloc (by omega) _).trans (hb1.out.mono (by simp; omega))⟩, ⟨fun _ => HX.out⟩, ⟨fun h => absurd h (by omega)⟩⟩, by simp [intOf]⟩
      · go_wp2_with fail
        refine (HCA.out _ (by apply below_alloc; exact hbw.out)).mono ?_
        rintro e w1 ⟨rfl, hb⟩
        have zf : ∀ j, w1.frozen? ⟨w.heap.size + 1 + 1, j, none⟩ = false := fun j => (hb.frozen (p := ⟨w.heap.size + 1 + 1, j, none⟩) (by simp; omega)).trans (((below_alloc (Below.refl wr.heap.size wr) _).frozen (p := ⟨w.heap.size + 1 + 1, j, none⟩) (by simp; omega)).trans (yf j))
        have z0 : w1.cell? ⟨w.heap.size + 1 + 1, 0, none⟩ = some (.slice none 0 0) := (hb.cell (p := ⟨w.heap.size + 1 + 1, 0, none⟩) (by simp; omega)).trans (later y20 _)
        have z1 : w1.cell? ⟨w.heap.size + 1 + 1, 1, none⟩ = some (.slice none 0 0) := (hb.cell (p := ⟨w.heap.size + 1 + 1, 1, none⟩) (by simp; omega)).trans (later y21 _)
        have hb1 := Aside0.mk hb
        have hx1 : (xa == 0) = false := by rw [beq_eq_false_iff_ne]; exact hx
        have hx2 : (xa != 0) = true := by rw [bne_iff_ne]; exact hx
        have HX := Aside0.mk hx
        clear hb hx
        go_wp2_with fail
        exact bodyPost_ret (v := .tuple #[.agg #[.slice none 0 0, .slice none 0 0], .int .i64 xa]) (by simp only [results, Try.results53]; go_simp) rfl (new_none (by unfold T.dyS; rw [if_pos (by rw [HXA.out]; exact HX.out), HXA.out]) (by (repeat (refine Below.setCell ?_ (by first | (simp; done) | (simp; omega)) _)); exact then_below (by apply below_alloc; exact hbw.out) hb1.out))
    · by_cases hx : xb = 0
      · go_wp2_with fail
        refine (HCB.out _ (by apply below_alloc; exact hbw.out)).mono ?_
        rintro e w1 ⟨rfl, hb⟩
        have hb1 := Aside0.mk hb
        have HX := Aside0.mk hx
        clear hb
        rw [hx]
        clear hx
        go_wp2_with fail
        exact ⟨⟨2, by omega, rfl, ⟨(hbl.out.alloc (by omega) _).trans (hb1.out.mono (by simp; omega))⟩, ⟨fun _ => hka.out (by omega)⟩, ⟨fun h => HX.out⟩⟩, by simp [intOf]⟩
      · go_wp2_with fail
        refine (HCB.out _ (by apply below_alloc; exact hbw.out)).mono ?_
        rintro e w1 ⟨rfl, hb⟩
        have zf : ∀ j, w1.frozen? ⟨w.heap.size + 1 + 1, j, none⟩ = false := fun j => (hb.frozen (p := ⟨w.heap.size + 1 + 1, j, none⟩) (by simp; omega)).trans (((below_alloc (Below.refl wr.heap.size wr) _).frozen (p := ⟨w.heap.size + 1 + 1, j, none⟩) (by simp; omega)).trans (yf j))
        have z0 : w1.cell? ⟨w.heap.size + 1 + 1, 0, none⟩ = some (.slice none 0 0) := (hb.cell (p := ⟨w.heap.size + 1 + 1, 0, none⟩) (by simp; omega)).trans (later y20 _)
        have z1 : w1.cell? ⟨w.heap.size + 1 + 1, 1, none⟩ = some (.slice none 0 0) := (hb.cell (p := ⟨w.heap.size + 1 + 1, 1, none⟩) (by simp; omega)).trans (later y21 _)
        have hb1 := Aside0.mk hb
        have hx1 : (xb == 0) = false := by rw [beq_eq_false_iff_ne]; exact hx
        have hx2 : (xb != 0) = true := by rw [bne_iff_ne]; exact hx
        have HX := Aside0.mk hx
        clear hb hx
        go_wp2_with fail
        exact bodyPost_ret (v := .tuple #[.agg #[.slice none 0 0, .slice none 0 0], .int .i64 xb]) (by simp only [results, Try.results53]; go_simp) rfl (new_none (by unfold T.dyS; rw [if_neg (by rw [HXA.out, hka.out (by omega)]; simp), if_pos (by rw [HXB.out]; exact HX.out), HXB.out]) (by (repeat (refine Below.setCell ?_ (by first | (simp; done) | (simp; omega)) _)); exact then_below (by apply below_alloc; exact hbw.out) hb1.out))
    · have hxa := hka.out (by omega)
      have hxb := hkb.out (by omega)
      subst hxa hxb
      have HA := Aside0.mk (show ¬ chk 8 a ≠ 0 by rw [HXA.out]; simp)
      have HB := Aside0.mk (show ¬ chk 8 b ≠ 0 by rw [HXB.out]; simp)
      clear HCA HCB HXA HXB
      by_cases h54 : op = 54
      · subst h54
        go_wp2_with fail
        exact bodyPost_ret (v := .tuple #[.agg #[.slice none 0 0, .slice none 0 0], .int .i64 10]) (by simp only [results, Try.results53]; go_simp) rfl (new_none (by unfold T.dyS; rw [if_neg HA.out, if_neg HB.out, if_pos rfl]) (by (repeat (refine Below.setCell ?_ (by first | (simp; done) | (simp; omega)) _)); exact hbw.out))
      have hop1 : (op == 54) = false := by rw [beq_eq_false_iff_ne]; exact h54
      have H54 := Aside0.mk h54
      clear h54
      by_cases hop : op < 21 ∨ 32 < op
      · have hIs : (decide (21 ≤ op) && decide (op ≤ 32)) = false := by rw [Bool.eq_false_iff]; simp; omega
        have HO := Aside0.mk hop
        clear hop
        go_wp2_with (go_at_call 52; refine (atIs_calls _ _).mono ?_; rintro e w' ⟨rfl, rfl⟩; rw [hIs])
        exact bodyPost_ret (v := .tuple #[.agg #[.slice none 0 0, .slice none 0 0], .int .i64 1]) (by simp only [results, Try.results53]; go_simp) rfl (new_none (by unfold T.dyS; rw [if_neg HA.out, if_neg HB.out, if_neg H54.out, if_pos HO.out]) (by (repeat (refine Below.setCell ?_ (by first | (simp; done) | (simp; omega)) _)); exact hbw.out))
      have hIs : (decide (21 ≤ op) && decide (op ≤ 32)) = true := by simp; omega
      have HO := Aside0.mk hop
      clear hop
      go_wp2_with (go_at_call 52; refine (atIs_calls _ _).mono ?_; rintro e w' ⟨rfl, rfl⟩; rw [hIs])
      rw [HNA.out, HNB.out]
      refine (atAgree_calls a.shape b.shape A0 B0 c0 d0 _ (by have := wfA_iff.1 HWA.out; omega) (by have := wfA_iff.1 HWB.out; omega) (HNA.out ▸ l0) (HNB.out ▸ m0) (Kd.C_below GA0.out hbw.out) (Kd.C_below GB0.out hbw.out)).mono ?_
      rintro e w1 ⟨S0, e0, rfl, hS0, gS, hb⟩
      obtain ⟨zB, hzB⟩ : ∃ n, n = wr.heap.size := ⟨_, rfl⟩
      rw [← hzB] at gS
      have HSZ4 := Aside0.mk (show w.heap.size + 4 ≤ zB by omega)
      clear hzB
      rw [← HNA.out, ← HNB.out]
      have HS := Aside0.mk gS
      clear gS
      have p00 : w1.cell? ⟨w.heap.size, 0, none⟩ = some (.slice A0 na c0) := (hb.cell (p := ⟨w.heap.size, 0, none⟩) (by simp <;> omega)).trans y00
      have p01 : w1.cell? ⟨w.heap.size, 1, none⟩ = some (.slice A1 ma c1) := (hb.cell (p := ⟨w.heap.size, 1, none⟩) (by simp <;> omega)).trans y01
      have p10 : w1.cell? ⟨w.heap.size + 1, 0, none⟩ = some (.slice B0 nb d0) := (hb.cell (p := ⟨w.heap.size + 1, 0, none⟩) (by simp <;> omega)).trans y10
      have p11 : w1.cell? ⟨w.heap.size + 1, 1, none⟩ = some (.slice B1 mb d1) := (hb.cell (p := ⟨w.heap.size + 1, 1, none⟩) (by simp <;> omega)).trans y11
      have p20 : w1.cell? ⟨w.heap.size + 1 + 1, 0, none⟩ = some (.slice none 0 0) := (hb.cell (p := ⟨w.heap.size + 1 + 1, 0, none⟩) (by simp <;> omega)).trans y20
      have p21 : w1.cell? ⟨w.heap.size + 1 + 1, 1, none⟩ = some (.slice none 0 0) := (hb.cell (p := ⟨w.heap.size + 1 + 1, 1, none⟩) (by simp <;> omega)).trans y21
      have pf : ∀ j, w1.frozen? ⟨w.heap.size + 1 + 1, j, none⟩ = false := fun j => (hb.frozen (p := ⟨w.heap.size + 1 + 1, j, none⟩) (by simp <;> omega)).trans (yf j)
      have hb1 : Aside0 (Below w.heap.size w w1) := ⟨then_below hbw.out hb⟩
      have hsz1 : w.heap.size + 4 ≤ w1.heap.size := by have h1 := hb.size; omega
      clear hb y00 y01 y10 y11 y20 y21 y30 y31 y32 y33 yf hbl hbw hsz q00 q01 q10 q11 q20 q21 q30 q31 q32 q33 qf hb0 hsz0
      by_cases hag : (T.agree a.shape b.shape).2 = 0
      · have HAG := Aside0.mk hag
        rw [hag]
        generalize hS : (T.agree a.shape b.shape).1 = S at hS0 HS ⊢
        have HSE := Aside0.mk hS
        clear hag hS
        have hNa : Aside0 (na = 0 → ma = 1) := ⟨fun h => by rw [HMA.out]; exact chk_nil (by simpa using HA.out) (by rw [← HNA.out]; exact h)⟩
        have hNb : Aside0 (nb = 0 → mb = 1) := ⟨fun h => by rw [HMB.out]; exact chk_nil (by simpa using HB.out) (by rw [← HNB.out]; exact h)⟩
        have HEQ : Aside0 (na ≠ 0 → nb ≠ 0 → ma = mb) := ⟨fun h1 h2 => by rw [HMA.out, HMB.out]; exact same_count (by simpa using HA.out) (by simpa using HB.out) HAG.out (HNA.out ▸ h1) (HNB.out ▸ h2)⟩
        have hma16 : ma ≤ 16384 := by rw [HMA.out]; exact (chk_sizes (by simpa using HA.out)).2
        have hmb16 : mb ≤ 16384 := by rw [HMB.out]; exact (chk_sizes (by simpa using HB.out)).2
        by_cases hma : ma = 0
        · have bma : ((ma : Int) == 0) = true := by rw [beq_iff_eq]; omega
          have HDY : Aside0 (T.dyS op a b = T.cellsErr (T.pairs op a b) S 0) := ⟨by
            unfold T.dyS
            rw [if_neg HA.out, if_neg HB.out, if_neg H54.out, if_neg HO.out, if_neg (fun h => h HAG.out), HSE.out, ← HNA.out, ← HMA.out, ← HMB.out]
            congr 1
            by_cases h : na = 0
            · have := hNa.out h; omega
            · rw [if_neg h]; exact hma⟩
          clear hma
          by_cases hle : mb ≤ ma
          · go_wp2_with fail
            have hl0 : Aside0 (∃ vc, (w1.alloc (.cells #[.slice S0 S.length e0, .slice none 0 0] 25)).heap[w1.heap.size]? = some (.cells #[.slice S0 S.length e0, vc] 25 (0, 0)) ∧ kC.R 33 (w1.alloc (.cells #[.slice S0 S.length e0, .slice none 0 0] 25)) w1.heap.size (fun k => k ≠ w1.heap.size) vc (T.results (T.pairs op a b) 0)) := ⟨_, heap_alloc_new' _ _ _ rfl, Kd.R_nil _ _ _ _ _⟩
            go_loopw [74] (fun i W => ∃ k : Nat, k ≤ 0 ∧ i = .int .i64 k ∧ Aside0 (∃ vc, W.heap[w1.heap.size]? = some (.cells #[.slice S0 S.length e0, vc] 25 (0, 0)) ∧ kC.R 33 W w1.heap.size (fun k => k ≠ w1.heap.size) vc (T.results (T.pairs op a b) k)) ∧ Aside0 (Below w1.heap.size w1 W) ∧ Aside0 (T.firstErr (T.pairs op a b) k = 0)) (fun i _ => 0 - (intOf i).toNat)
            case atStart => exact ⟨0, by omega, rfl, hl0, ⟨by (repeat (first | exact Below.refl _ _ | apply below_alloc | apply below_drew | apply pw_below_drewN))⟩, ⟨rfl⟩⟩
            case round =>
              clear hl0
              obtain ⟨k, hk, rfl, hown, hbl, her⟩ := hrel
              obtain ⟨vc, hblk, hRC⟩ := hown.out
              clear hown
              have HRC := Aside0.mk hRC
              have HBK := Aside0.mk hblk
              have hgl : w1.heap.size < wr.heap.size := (Array.getElem?_eq_some_iff.1 hblk).1
              clear hRC
              have hs12 : w.heap.size + 4 ≤ wr.heap.size := by omega
              have hbw : Aside0 (Below w.heap.size w wr) := ⟨hb1.out.trans (hbl.out.mono (by omega))⟩
              have y00 : wr.cell? ⟨w.heap.size, 0, none⟩ = some (.slice A0 na c0) := (hbl.out.cell (p := ⟨w.heap.size, 0, none⟩) (by simp <;> omega)).trans p00
              have y01 : wr.cell? ⟨w.heap.size, 1, none⟩ = some (.slice A1 ma c1) := (hbl.out.cell (p := ⟨w.heap.size, 1, none⟩) (by simp <;> omega)).trans p01
              have y10 : wr.cell? ⟨w.heap.size + 1, 0, none⟩ = some (.slice B0 nb d0) := (hbl.out.cell (p := ⟨w.heap.size + 1, 0, none⟩) (by simp <;> omega)).trans p10
              have y11 : wr.cell? ⟨w.heap.size + 1, 1, none⟩ = some (.slice B1 mb d1) := (hbl.out.cell (p := ⟨w.heap.size + 1, 1, none⟩) (by simp <;> omega)).trans p11
              have y20 : wr.cell? ⟨w.heap.size + 1 + 1, 0, none⟩ = some (.slice none 0 0) := (hbl.out.cell (p := ⟨w.heap.size + 1 + 1, 0, none⟩) (by simp <;> omega)).trans p20
              have y21 : wr.cell? ⟨w.heap.size + 1 + 1, 1, none⟩ = some (.slice none 0 0) := (hbl.out.cell (p := ⟨w.heap.size + 1 + 1, 1, none⟩) (by simp <;> omega)).trans p21
              have yf : ∀ j, wr.frozen? ⟨w.heap.size + 1 + 1, j, none⟩ = false := fun j => (hbl.out.frozen (p := ⟨w.heap.size + 1 + 1, j, none⟩) (by simp <;> omega)).trans (pf j)
              by_cases hlt : k < 0
              · omega
              · obtain rfl : k = 0 := by omega
                clear y00 y01 y10 y11
                have HBL := hbl
                have hxl := Aside0.mk (results_len (T.pairs op a b) 0)
                generalize hxs : T.results (T.pairs op a b) 0 = xs at HRC HBK hxl
                obtain ⟨V, ec, rfl⟩ := Kd.R_slice HRC.out
                have HX := Aside0.mk hxs
                have y50 : wr.cell? ⟨w1.heap.size, 0, none⟩ = some (.slice S0 S.length e0) := cell_of_row wr w1.heap.size 0 _ _ _ HBK.out
                have y51 : wr.cell? ⟨w1.heap.size, 1, none⟩ = some (.slice V xs.length ec) := cell_of_row wr w1.heap.size 1 _ _ _ HBK.out
                clear hxs
                go_wp2_with fail
                refine bodyPost_ret (v := .tuple #[.agg #[.slice S0 S.length e0, .slice V xs.length ec], .int .i64 0]) (by simp only [results, Try.results53]; go_simp) rfl ?_
                refine new_arr (s := S) (cs := xs) (by rw [HDY.out]; unfold T.cellsErr; rw [if_neg (by rw [her.out]; simp), HX.out]) hS0 ?_ ?_ ?_ ?_
                · exact (Kd.R_reads' HRC.out).2.1
                · refine Kd.F_mono (ok := fun k => zB ≤ k) ?_ (fun k hk => by have := HSZ4.out; omega)
                  refine Kd.F_far (Kd.F_far (Kd.F_below HS.out HBL.out) ?_ _) ?_ _
                  · intro k hk; have := HSZ4.out; simp; omega
                  · intro k hk; have := HSZ4.out; simp; omega
                · have hst : ∀ q, w1.heap.size ≤ q → q < wr.heap.size → ((wr.setCell ⟨w.heap.size + 1 + 1, 0, none⟩ (.slice S0 S.length e0)).setCell ⟨w.heap.size + 1 + 1, 1, none⟩ (.slice V xs.length ec)).heap[q]? = wr.heap[q]? := fun q hq _ => by
                    repeat (refine (Below.heap_setCell _ _ _ _ (by simp; omega)).trans ?_)
                    rfl
                  have h5 := R_stay HRC.out hst
                  exact Kd.R_F (Kd.R_mono (Kd.R_bound h5) (fun k hk => Nat.le_trans (show w.heap.size ≤ w1.heap.size by omega) hk.2.1))
                · repeat (refine Below.setCell ?_ (by simp; omega) _)
                  exact hbw.out
          · go_wp2_with fail
            have hl0 : Aside0 (∃ vc, (w1.alloc (.cells #[.slice S0 S.length e0, .slice none 0 0] 25)).heap[w1.heap.size]? = some (.cells #[.slice S0 S.length e0, vc] 25 (0, 0)) ∧ kC.R 33 (w1.alloc (.cells #[.slice S0 S.length e0, .slice none 0 0] 25)) w1.heap.size (fun k => k ≠ w1.heap.size) vc (T.results (T.pairs op a b) 0)) := ⟨_, heap_alloc_new' _ _ _ rfl, Kd.R_nil _ _ _ _ _⟩
            go_loopw [74] (fun i W => ∃ k : Nat, k ≤ 0 ∧ i = .int .i64 k ∧ Aside0 (∃ vc, W.heap[w1.heap.size]? = some (.cells #[.slice S0 S.length e0, vc] 25 (0, 0)) ∧ kC.R 33 W w1.heap.size (fun k => k ≠ w1.heap.size) vc (T.results (T.pairs op a b) k)) ∧ Aside0 (Below w1.heap.size w1 W) ∧ Aside0 (T.firstErr (T.pairs op a b) k = 0)) (fun i _ => 0 - (intOf i).toNat)
            case atStart => exact ⟨0, by omega, rfl, hl0, ⟨by (repeat (first | exact Below.refl _ _ | apply below_alloc | apply below_drew | apply pw_below_drewN))⟩, ⟨rfl⟩⟩
            case round =>
              clear hl0
              obtain ⟨k, hk, rfl, hown, hbl, her⟩ := hrel
              obtain ⟨vc, hblk, hRC⟩ := hown.out
              clear hown
              have HRC := Aside0.mk hRC
              have HBK := Aside0.mk hblk
              have hgl : w1.heap.size < wr.heap.size := (Array.getElem?_eq_some_iff.1 hblk).1
              clear hRC
              have hs12 : w.heap.size + 4 ≤ wr.heap.size := by omega
              have hbw : Aside0 (Below w.heap.size w wr) := ⟨hb1.out.trans (hbl.out.mono (by omega))⟩
              have y00 : wr.cell? ⟨w.heap.size, 0, none⟩ = some (.slice A0 na c0) := (hbl.out.cell (p := ⟨w.heap.size, 0, none⟩) (by simp <;> omega)).trans p00
              have y01 : wr.cell? ⟨w.heap.size, 1, none⟩ = some (.slice A1 ma c1) := (hbl.out.cell (p := ⟨w.heap.size, 1, none⟩) (by simp <;> omega)).trans p01
              have y10 : wr.cell? ⟨w.heap.size + 1, 0, none⟩ = some (.slice B0 nb d0) := (hbl.out.cell (p := ⟨w.heap.size + 1, 0, none⟩) (by simp <;> omega)).trans p10
              have y11 : wr.cell? ⟨w.heap.size + 1, 1, none⟩ = some (.slice B1 mb d1) := (hbl.out.cell (p := ⟨w.heap.size + 1, 1, none⟩) (by simp <;> omega)).trans p11
              have y20 : wr.cell? ⟨w.heap.size + 1 + 1, 0, none⟩ = some (.slice none 0 0) := (hbl.out.cell (p := ⟨w.heap.size + 1 + 1, 0, none⟩) (by simp <;> omega)).trans p20
              have y21 : wr.cell? ⟨w.heap.size + 1 + 1, 1, none⟩ = some (.slice none 0 0) := (hbl.out.cell (p := ⟨w.heap.size + 1 + 1, 1, none⟩) (by simp <;> omega)).trans p21
              have yf : ∀ j, wr.frozen? ⟨w.heap.size + 1 + 1, j, none⟩ = false := fun j => (hbl.out.frozen (p := ⟨w.heap.size + 1 + 1, j, none⟩) (by simp <;> omega)).trans (pf j)
              by_cases hlt : k < 0
              · omega
              · obtain rfl : k = 0 := by omega
                clear y00 y01 y10 y11
                have HBL := hbl
                have hxl := Aside0.mk (results_len (T.pairs op a b) 0)
                generalize hxs : T.results (T.pairs op a b) 0 = xs at HRC HBK hxl
                obtain ⟨V, ec, rfl⟩ := Kd.R_slice HRC.out
                have HX := Aside0.mk hxs
                have y50 : wr.cell? ⟨w1.heap.size, 0, none⟩ = some (.slice S0 S.length e0) := cell_of_row wr w1.heap.size 0 _ _ _ HBK.out
                have y51 : wr.cell? ⟨w1.heap.size, 1, none⟩ = some (.slice V xs.length ec) := cell_of_row wr w1.heap.size 1 _ _ _ HBK.out
                clear hxs
                go_wp2_with fail
                refine bodyPost_ret (v := .tuple #[.agg #[.slice S0 S.length e0, .slice V xs.length ec], .int .i64 0]) (by simp only [results, Try.results53]; go_simp) rfl ?_
                refine new_arr (s := S) (cs := xs) (by rw [HDY.out]; unfold T.cellsErr; rw [if_neg (by rw [her.out]; simp), HX.out]) hS0 ?_ ?_ ?_ ?_
                · exact (Kd.R_reads' HRC.out).2.1
                · refine Kd.F_mono (ok := fun k => zB ≤ k) ?_ (fun k hk => by have := HSZ4.out; omega)
                  refine Kd.F_far (Kd.F_far (Kd.F_below HS.out HBL.out) ?_ _) ?_ _
                  · intro k hk; have := HSZ4.out; simp; omega
                  · intro k hk; have := HSZ4.out; simp; omega
                · have hst : ∀ q, w1.heap.size ≤ q → q < wr.heap.size → ((wr.setCell ⟨w.heap.size + 1 + 1, 0, none⟩ (.slice S0 S.length e0)).setCell ⟨w.heap.size + 1 + 1, 1, none⟩ (.slice V xs.length ec)).heap[q]? = wr.heap[q]? := fun q hq _ => by
                    repeat (refine (Below.heap_setCell _ _ _ _ (by simp; omega)).trans ?_)
                    rfl
                  have h5 := R_stay HRC.out hst
                  exact Kd.R_F (Kd.R_mono (Kd.R_bound h5) (fun k hk => Nat.le_trans (show w.heap.size ≤ w1.heap.size by omega) hk.2.1))
                · repeat (refine Below.setCell ?_ (by simp; omega) _)
                  exact hbw.out
        by_cases hmb : mb = 0
        · have bma : ((ma : Int) == 0) = false := by rw [beq_eq_false_iff_ne]; omega
          have bmb : ((mb : Int) == 0) = true := by rw [beq_iff_eq]; omega
          have HDY : Aside0 (T.dyS op a b = T.cellsErr (T.pairs op a b) S 0) := ⟨by
            unfold T.dyS
            rw [if_neg HA.out, if_neg HB.out, if_neg H54.out, if_neg HO.out, if_neg (fun h => h HAG.out), HSE.out, ← HNA.out, ← HMA.out, ← HMB.out]
            congr 1
            by_cases h : na = 0
            · rw [if_pos h]; exact hmb
            · by_cases h2 : nb = 0
              · have := hNb.out h2; omega
              · have := HEQ.out h h2; omega⟩
          clear hma hmb
          by_cases hle : mb ≤ ma
          · go_wp2_with fail
            have hl0 : Aside0 (∃ vc, (w1.alloc (.cells #[.slice S0 S.length e0, .slice none 0 0] 25)).heap[w1.heap.size]? = some (.cells #[.slice S0 S.length e0, vc] 25 (0, 0)) ∧ kC.R 33 (w1.alloc (.cells #[.slice S0 S.length e0, .slice none 0 0] 25)) w1.heap.size (fun k => k ≠ w1.heap.size) vc (T.results (T.pairs op a b) 0)) := ⟨_, heap_alloc_new' _ _ _ rfl, Kd.R_nil _ _ _ _ _⟩
            go_loopw [74] (fun i W => ∃ k : Nat, k ≤ 0 ∧ i = .int .i64 k ∧ Aside0 (∃ vc, W.heap[w1.heap.size]? = some (.cells #[.slice S0 S.length e0, vc] 25 (0, 0)) ∧ kC.R 33 W w1.heap.size (fun k => k ≠ w1.heap.size) vc (T.results (T.pairs op a b) k)) ∧ Aside0 (Below w1.heap.size w1 W) ∧ Aside0 (T.firstErr (T.pairs op a b) k = 0)) (fun i _ => 0 - (intOf i).toNat)
            case atStart => exact ⟨0, by omega, rfl, hl0, ⟨by (repeat (first | exact Below.refl _ _ | apply below_alloc | apply below_drew | apply pw_below_drewN))⟩, ⟨rfl⟩⟩
            case round =>
              clear hl0
              obtain ⟨k, hk, rfl, hown, hbl, her⟩ := hrel
              obtain ⟨vc, hblk, hRC⟩ := hown.out
              clear hown
              have HRC := Aside0.mk hRC
              have HBK := Aside0.mk hblk
              have hgl : w1.heap.size < wr.heap.size := (Array.getElem?_eq_some_iff.1 hblk).1
              clear hRC
              have hs12 : w.heap.size + 4 ≤ wr.heap.size := by omega
              have hbw : Aside0 (Below w.heap.size w wr) := ⟨hb1.out.trans (hbl.out.mono (by omega))⟩
              have y00 : wr.cell? ⟨w.heap.size, 0, none⟩ = some (.slice A0 na c0) := (hbl.out.cell (p := ⟨w.heap.size, 0, none⟩) (by simp <;> omega)).trans p00
              have y01 : wr.cell? ⟨w.heap.size, 1, none⟩ = some (.slice A1 ma c1) := (hbl.out.cell (p := ⟨w.heap.size, 1, none⟩) (by simp <;> omega)).trans p01
              have y10 : wr.cell? ⟨w.heap.size + 1, 0, none⟩ = some (.slice B0 nb d0) := (hbl.out.cell (p := ⟨w.heap.size + 1, 0, none⟩) (by simp <;> omega)).trans p10
              have y11 : wr.cell? ⟨w.heap.size + 1, 1, none⟩ = some (.slice B1 mb d1) := (hbl.out.cell (p := ⟨w.heap.size + 1, 1, none⟩) (by simp <;> omega)).trans p11
              have y20 : wr.cell? ⟨w.heap.size + 1 + 1, 0, none⟩ = some (.slice none 0 0) := (hbl.out.cell (p := ⟨w.heap.size + 1 + 1, 0, none⟩) (by simp <;> omega)).trans p20
              have y21 : wr.cell? ⟨w.heap.size + 1 + 1, 1, none⟩ = some (.slice none 0 0) := (hbl.out.cell (p := ⟨w.heap.size + 1 + 1, 1, none⟩) (by simp <;> omega)).trans p21
              have yf : ∀ j, wr.frozen? ⟨w.heap.size + 1 + 1, j, none⟩ = false := fun j => (hbl.out.frozen (p := ⟨w.heap.size + 1 + 1, j, none⟩) (by simp <;> omega)).trans (pf j)
              by_cases hlt : k < 0
              · omega
              · obtain rfl : k = 0 := by omega
                clear y00 y01 y10 y11
                have HBL := hbl
                have hxl := Aside0.mk (results_len (T.pairs op a b) 0)
                generalize hxs : T.results (T.pairs op a b) 0 = xs at HRC HBK hxl
                obtain ⟨V, ec, rfl⟩ := Kd.R_slice HRC.out
                have HX := Aside0.mk hxs
                have y50 : wr.cell? ⟨w1.heap.size, 0, none⟩ = some (.slice S0 S.length e0) := cell_of_row wr w1.heap.size 0 _ _ _ HBK.out
                have y51 : wr.cell? ⟨w1.heap.size, 1, none⟩ = some (.slice V xs.length ec) := cell_of_row wr w1.heap.size 1 _ _ _ HBK.out
                clear hxs
                go_wp2_with fail
                refine bodyPost_ret (v := .tuple #[.agg #[.slice S0 S.length e0, .slice V xs.length ec], .int .i64 0]) (by simp only [results, Try.results53]; go_simp) rfl ?_
                refine new_arr (s := S) (cs := xs) (by rw [HDY.out]; unfold T.cellsErr; rw [if_neg (by rw [her.out]; simp), HX.out]) hS0 ?_ ?_ ?_ ?_
                · exact (Kd.R_reads' HRC.out).2.1
                · refine Kd.F_mono (ok := fun k => zB ≤ k) ?_ (fun k hk => by have := HSZ4.out; omega)
                  refine Kd.F_far (Kd.F_far (Kd.F_below HS.out HBL.out) ?_ _) ?_ _
                  · intro k hk; have := HSZ4.out; simp; omega
                  · intro k hk; have := HSZ4.out; simp; omega
                · have hst : ∀ q, w1.heap.size ≤ q → q < wr.heap.size → ((wr.setCell ⟨w.heap.size + 1 + 1, 0, none⟩ (.slice S0 S.length e0)).setCell ⟨w.heap.size + 1 + 1, 1, none⟩ (.slice V xs.length ec)).heap[q]? = wr.heap[q]? := fun q hq _ => by
                    repeat (refine (Below.heap_setCell _ _ _ _ (by simp; omega)).trans ?_)
                    rfl
                  have h5 := R_stay HRC.out hst
                  exact Kd.R_F (Kd.R_mono (Kd.R_bound h5) (fun k hk => Nat.le_trans (show w.heap.size ≤ w1.heap.size by omega) hk.2.1))
                · repeat (refine Below.setCell ?_ (by simp; omega) _)
                  exact hbw.out
          · go_wp2_with fail
            have hl0 : Aside0 (∃ vc, (w1.alloc (.cells #[.slice S0 S.length e0, .slice none 0 0] 25)).heap[w1.heap.size]? = some (.cells #[.slice S0 S.length e0, vc] 25 (0, 0)) ∧ kC.R 33 (w1.alloc (.cells #[.slice S0 S.length e0, .slice none 0 0] 25)) w1.heap.size (fun k => k ≠ w1.heap.size) vc (T.results (T.pairs op a b) 0)) := ⟨_, heap_alloc_new' _ _ _ rfl, Kd.R_nil _ _ _ _ _⟩
            go_loopw [74] (fun i W => ∃ k : Nat, k ≤ 0 ∧ i = .int .i64 k ∧ Aside0 (∃ vc, W.heap[w1.heap.size]? = some (.cells #[.slice S0 S.length e0, vc] 25 (0, 0)) ∧ kC.R 33 W w1.heap.size (fun k => k ≠ w1.heap.size) vc (T.results (T.pairs op a b) k)) ∧ Aside0 (Below w1.heap.size w1 W) ∧ Aside0 (T.firstErr (T.pairs op a b) k = 0)) (fun i _ => 0 - (intOf i).toNat)
            case atStart => exact ⟨0, by omega, rfl, hl0, ⟨by (repeat (first | exact Below.refl _ _ | apply below_alloc | apply below_drew | apply pw_below_drewN))⟩, ⟨rfl⟩⟩
            case round =>
              clear hl0
              obtain ⟨k, hk, rfl, hown, hbl, her⟩ := hrel
              obtain ⟨vc, hblk, hRC⟩ := hown.out
              clear hown
              have HRC := Aside0.mk hRC
              have HBK := Aside0.mk hblk
              have hgl : w1.heap.size < wr.heap.size := (Array.getElem?_eq_some_iff.1 hblk).1
              clear hRC
              have hs12 : w.heap.size + 4 ≤ wr.heap.size := by omega
              have hbw : Aside0 (Below w.heap.size w wr) := ⟨hb1.out.trans (hbl.out.mono (by omega))⟩
              have y00 : wr.cell? ⟨w.heap.size, 0, none⟩ = some (.slice A0 na c0) := (hbl.out.cell (p := ⟨w.heap.size, 0, none⟩) (by simp <;> omega)).trans p00
              have y01 : wr.cell? ⟨w.heap.size, 1, none⟩ = some (.slice A1 ma c1) := (hbl.out.cell (p := ⟨w.heap.size, 1, none⟩) (by simp <;> omega)).trans p01
              have y10 : wr.cell? ⟨w.heap.size + 1, 0, none⟩ = some (.slice B0 nb d0) := (hbl.out.cell (p := ⟨w.heap.size + 1, 0, none⟩) (by simp <;> omega)).trans p10
              have y11 : wr.cell? ⟨w.heap.size + 1, 1, none⟩ = some (.slice B1 mb d1) := (hbl.out.cell (p := ⟨w.heap.size + 1, 1, none⟩) (by simp <;> omega)).trans p11
              have y20 : wr.cell? ⟨w.heap.size + 1 + 1, 0, none⟩ = some (.slice none 0 0) := (hbl.out.cell (p := ⟨w.heap.size + 1 + 1, 0, none⟩) (by simp <;> omega)).trans p20
              have y21 : wr.cell? ⟨w.heap.size + 1 + 1, 1, none⟩ = some (.slice none 0 0) := (hbl.out.cell (p := ⟨w.heap.size + 1 + 1, 1, none⟩) (by simp <;> omega)).trans p21
              have yf : ∀ j, wr.frozen? ⟨w.heap.size + 1 + 1, j, none⟩ = false := fun j => (hbl.out.frozen (p := ⟨w.heap.size + 1 + 1, j, none⟩) (by simp <;> omega)).trans (pf j)
              by_cases hlt : k < 0
              · omega
              · obtain rfl : k = 0 := by omega
                clear y00 y01 y10 y11
                have HBL := hbl
                have hxl := Aside0.mk (results_len (T.pairs op a b) 0)
                generalize hxs : T.results (T.pairs op a b) 0 = xs at HRC HBK hxl
                obtain ⟨V, ec, rfl⟩ := Kd.R_slice HRC.out
                have HX := Aside0.mk hxs
                have y50 : wr.cell? ⟨w1.heap.size, 0, none⟩ = some (.slice S0 S.length e0) := cell_of_row wr w1.heap.size 0 _ _ _ HBK.out
                have y51 : wr.cell? ⟨w1.heap.size, 1, none⟩ = some (.slice V xs.length ec) := cell_of_row wr w1.heap.size 1 _ _ _ HBK.out
                clear hxs
                go_wp2_with fail
                refine bodyPost_ret (v := .tuple #[.agg #[.slice S0 S.length e0, .slice V xs.length ec], .int .i64 0]) (by simp only [results, Try.results53]; go_simp) rfl ?_
                refine new_arr (s := S) (cs := xs) (by rw [HDY.out]; unfold T.cellsErr; rw [if_neg (by rw [her.out]; simp), HX.out]) hS0 ?_ ?_ ?_ ?_
                · exact (Kd.R_reads' HRC.out).2.1
                · refine Kd.F_mono (ok := fun k => zB ≤ k) ?_ (fun k hk => by have := HSZ4.out; omega)
                  refine Kd.F_far (Kd.F_far (Kd.F_below HS.out HBL.out) ?_ _) ?_ _
                  · intro k hk; have := HSZ4.out; simp; omega
                  · intro k hk; have := HSZ4.out; simp; omega
                · have hst : ∀ q, w1.heap.size ≤ q → q < wr.heap.size → ((wr.setCell ⟨w.heap.size + 1 + 1, 0, none⟩ (.slice S0 S.length e0)).setCell ⟨w.heap.size + 1 + 1, 1, none⟩ (.slice V xs.length ec)).heap[q]? = wr.heap[q]? := fun q hq _ => by
                    repeat (refine (Below.heap_setCell _ _ _ _ (by simp; omega)).trans ?_)
                    rfl
                  have h5 := R_stay HRC.out hst
                  exact Kd.R_F (Kd.R_mono (Kd.R_bound h5) (fun k hk => Nat.le_trans (show w.heap.size ≤ w1.heap.size by omega) hk.2.1))
                · repeat (refine Below.setCell ?_ (by simp; omega) _)
                  exact hbw.out
        have bma : ((ma : Int) == 0) = false := by rw [beq_eq_false_iff_ne]; omega
        have bmb : ((mb : Int) == 0) = false := by rw [beq_eq_false_iff_ne]; omega
        have hma1 : 0 < ma := by omega
        have hmb1 : 0 < mb := by omega
        clear hma hmb
        by_cases hle : mb ≤ ma
        · go_wp2_with fail
          have HDY : Aside0 (T.dyS op a b = T.cellsErr (T.pairs op a b) S ma) := ⟨by unfold T.dyS; rw [if_neg HA.out, if_neg HB.out, if_neg H54.out, if_neg HO.out, if_neg (fun h => h HAG.out), HSE.out, ← HNA.out, ← HMA.out, ← HMB.out]; congr 1; split <;> first | (have := hNa.out (by assumption); omega) | rfl⟩
          have hl0 : Aside0 (∃ vc, (w1.alloc (.cells #[.slice S0 S.length e0, .slice none 0 0] 25)).heap[w1.heap.size]? = some (.cells #[.slice S0 S.length e0, vc] 25 (0, 0)) ∧ kC.R 33 (w1.alloc (.cells #[.slice S0 S.length e0, .slice none 0 0] 25)) w1.heap.size (fun k => k ≠ w1.heap.size) vc (T.results (T.pairs op a b) 0)) := ⟨_, heap_alloc_new' _ _ _ rfl, Kd.R_nil _ _ _ _ _⟩
          go_loopw [74] (fun i W => ∃ k : Nat, k ≤ ma ∧ i = .int .i64 k ∧ Aside0 (∃ vc, W.heap[w1.heap.size]? = some (.cells #[.slice S0 S.length e0, vc] 25 (0, 0)) ∧ kC.R 33 W w1.heap.size (fun k => k ≠ w1.heap.size) vc (T.results (T.pairs op a b) k)) ∧ Aside0 (Below w1.heap.size w1 W) ∧ Aside0 (T.firstErr (T.pairs op a b) k = 0)) (fun i _ => ma - (intOf i).toNat)
          case atStart => exact ⟨0, by omega, rfl, hl0, ⟨by (repeat (first | exact Below.refl _ _ | apply below_alloc | apply below_drew | apply pw_below_drewN))⟩, ⟨rfl⟩⟩
          case round =>
            clear hl0
            obtain ⟨k, hk, rfl, hown, hbl, her⟩ := hrel
            obtain ⟨vc, hblk, hRC⟩ := hown.out
            clear hown
            have HRC := Aside0.mk hRC
            have HBK := Aside0.mk hblk
            have hgl : w1.heap.size < wr.heap.size := (Array.getElem?_eq_some_iff.1 hblk).1
            clear hRC
            have hs12 : w.heap.size + 4 ≤ wr.heap.size := by omega
            have hbw : Aside0 (Below w.heap.size w wr) := ⟨hb1.out.trans (hbl.out.mono (by omega))⟩
            have y00 : wr.cell? ⟨w.heap.size, 0, none⟩ = some (.slice A0 na c0) := (hbl.out.cell (p := ⟨w.heap.size, 0, none⟩) (by simp <;> omega)).trans p00
            have y01 : wr.cell? ⟨w.heap.size, 1, none⟩ = some (.slice A1 ma c1) := (hbl.out.cell (p := ⟨w.heap.size, 1, none⟩) (by simp <;> omega)).trans p01
            have y10 : wr.cell? ⟨w.heap.size + 1, 0, none⟩ = some (.slice B0 nb d0) := (hbl.out.cell (p := ⟨w.heap.size + 1, 0, none⟩) (by simp <;> omega)).trans p10
            have y11 : wr.cell? ⟨w.heap.size + 1, 1, none⟩ = some (.slice B1 mb d1) := (hbl.out.cell (p := ⟨w.heap.size + 1, 1, none⟩) (by simp <;> omega)).trans p11
            have y20 : wr.cell? ⟨w.heap.size + 1 + 1, 0, none⟩ = some (.slice none 0 0) := (hbl.out.cell (p := ⟨w.heap.size + 1 + 1, 0, none⟩) (by simp <;> omega)).trans p20
            have y21 : wr.cell? ⟨w.heap.size + 1 + 1, 1, none⟩ = some (.slice none 0 0) := (hbl.out.cell (p := ⟨w.heap.size + 1 + 1, 1, none⟩) (by simp <;> omega)).trans p21
            have yf : ∀ j, wr.frozen? ⟨w.heap.size + 1 + 1, j, none⟩ = false := fun j => (hbl.out.frozen (p := ⟨w.heap.size + 1 + 1, j, none⟩) (by simp <;> omega)).trans (pf j)
            by_cases hlt : k < ma
            · obtain ⟨ada, AX, nx, ea, x0, x1, x2, lx, gx⟩ := at_cell (Kd.C_below GA1.out hbw.out) 0 (by rw [← HMA.out]; omega)
              obtain ⟨adb, BX, mx, eb, v0, v1, v2, lv, gv⟩ := at_cell (Kd.C_below GB1.out hbw.out) 0 (by rw [← HMB.out]; omega)
              rw [Nat.zero_mul, add_zero] at x0 x1 x2 v0 v1 v2
              subst ea eb
              generalize hxk : (a.cells.getD 0 zc).kind = xk at x0
              generalize hxn : (a.cells.getD 0 zc).n = xn at x1
              generalize hvk : (b.cells.getD 0 zc).kind = vk at v0
              generalize hvn : (b.cells.getD 0 zc).n = vn at v1
              have HX0 := Aside0.mk (And.intro hxk hxn)
              have HV0 := Aside0.mk (And.intro hvk hvn)
              have HX0i := Aside0.mk (show in64 xn by rw [← hxn]; exact (wfC_iff.1 ((wfA_iff.1 HWA.out).2.2.2 _ (getD_mem zc (by rw [← HMA.out]; omega)))).2.1)
              have HV0i := Aside0.mk (show in64 vn by rw [← hvn]; exact (wfC_iff.1 ((wfA_iff.1 HWB.out).2.2.2 _ (getD_mem zc (by rw [← HMB.out]; omega)))).2.1)
              clear hxk hxn hvk hvn
              generalize (a.cells.getD 0 zc).box.length = xl at x2
              generalize (b.cells.getD 0 zc).box.length = vl at v2
              clear lx gx lv gv
              have hma0 : (0 : Int) < (ma : Int) := by omega
              have hmb0 : (0 : Int) < (mb : Int) := by omega
              replace hbw := Aside0.mk hbw.out
              have hd : ∀ (p : Addr) (v : Value), wr.cell? p = some v → ∀ o, (wr.drew.alloc o).cell? p = some v := fun p v h o => later (W := wr.drew) h o
              have hd2 : ∀ (p : Addr) (v : Value), wr.cell? p = some v → ∀ o o', ((wr.drew.alloc o).alloc o').cell? p = some v := fun p v h o o' => later2 (W := wr.drew) h o o'
              have hlA := cell_lt x0
              have hlB := cell_lt v0
              have hl0 : w.heap.size < wr.heap.size := by omega
              have hl1 : w.heap.size + 1 < wr.heap.size := by omega
              have k0 := hd _ _ x0
              have k1 := hd _ _ x1
              have k2 := hd _ _ x2
              have k3 := hd _ _ v0
              have k4 := hd _ _ v1
              have k5 := hd _ _ v2
              have k6 := hd _ _ y01
              have k7 := hd _ _ y11
              have n0 := hd2 _ _ x0
              have n1 := hd2 _ _ x1
              have n2 := hd2 _ _ x2
              have n3 := hd2 _ _ v0
              have n4 := hd2 _ _ v1
              have n5 := hd2 _ _ v2
              have n6 := hd2 _ _ y01
              have n7 := hd2 _ _ y11
              clear hd hd2
              go_wp2_with fail
              refine start_ (n := 12) (S := fun w' => w'.cell? ⟨w.heap.size, 1, none⟩ = some (.slice (some ada) ma c1) ∧ w'.cell? ⟨w.heap.size + 1, 1, none⟩ = some (.slice (some adb) mb d1) ∧ w'.cell? ada = some (.int .i64 xk) ∧ w'.cell? ⟨ada.block, ada.off + 1, none⟩ = some (.int .i64 xn) ∧ w'.cell? ⟨ada.block, ada.off + 2, none⟩ = some (.slice AX xl nx) ∧ w'.cell? adb = some (.int .i64 vk) ∧ w'.cell? ⟨adb.block, adb.off + 1, none⟩ = some (.int .i64 vn) ∧ w'.cell? ⟨adb.block, adb.off + 2, none⟩ = some (.slice BX vl mx)) (ds := [11]) #[false, false, false, false, false, false, false, false, false, false, false, false] (by kernel_rfl) rfl rfl ⟨(by go_simp), (by go_simp), (by go_simp), (by go_simp), (by go_simp), (by go_simp), (by go_simp), (by go_simp)⟩ (fun hHeld => ?_)
              refine pure_ (i := 0) (N := some 77) (v := ?_) (a' := ?_) #[true, false, false, false, false, false, false, false, false, false, false, false] rfl rfl (by kernel_rfl) (fun _ _ _ h => h) (Or.inl ⟨by rfl, ?_⟩) ?_ ?_
              rotate_left
              · intro w'
                go_simp
                with_reducible rfl
              rotate_left
              · simp only [Act.put, List.setIfInBounds_toArray, List.set_cons_zero, List.set_cons_succ, i64_w, i32_w]
                rfl
              refine pure_ (i := 4) (N := some 81) (v := ?_) (a' := ?_) #[true, false, false, false, true, false, false, false, false, false, false, false] rfl rfl (by kernel_rfl) (fun _ _ _ h => h) (Or.inl ⟨by rfl, ?_⟩) ?_ ?_
              rotate_left
              · intro w'
                go_simp
                with_reducible rfl
              rotate_left
              · simp only [Act.put, List.setIfInBounds_toArray, List.set_cons_zero, List.set_cons_succ, i64_w, i32_w]
                rfl
              refine take_ (i := 1) (N := some 78) (v := ?_) (a' := ?_) #[true, true, false, false, true, false, false, false, false, false, false, false] rfl rfl (by kernel_rfl) (fun _ _ _ h => h) (Or.inl ⟨by rfl, ?_⟩) hHeld ?_ ?_
              rotate_left
              · rintro w' ⟨s0, s1, s2, s3, s4, s5, s6, s7⟩
                go_simp
                with_reducible rfl
              rotate_left
              · simp only [Act.put, List.setIfInBounds_toArray, List.set_cons_zero, List.set_cons_succ, i64_w, i32_w]
                rfl
              refine pure_ (i := 2) (N := some 79) (v := ?_) (a' := ?_) #[true, true, true, false, true, false, false, false, false, false, false, false] rfl rfl (by kernel_rfl) (fun _ _ _ h => h) (Or.inl ⟨by rfl, ?_⟩) ?_ ?_
              rotate_left
              · intro w'
                go_simp
                with_reducible rfl
              rotate_left
              · simp only [Act.put, List.setIfInBounds_toArray, List.set_cons_zero, List.set_cons_succ, i64_w, i32_w]
                rfl
              refine take_ (i := 3) (N := some 80) (v := ?_) (a' := ?_) #[true, true, true, true, true, false, false, false, false, false, false, false] rfl rfl (by kernel_rfl) (fun _ _ _ h => h) (Or.inl ⟨by rfl, ?_⟩) hHeld ?_ ?_
              rotate_left
              · rintro w' ⟨s0, s1, s2, s3, s4, s5, s6, s7⟩
                go_simp
                with_reducible rfl
              rotate_left
              · simp only [Act.put, List.setIfInBounds_toArray, List.set_cons_zero, List.set_cons_succ, i64_w, i32_w]
                rfl
              refine take_ (i := 5) (N := some 82) (v := ?_) (a' := ?_) #[true, true, true, true, true, true, false, false, false, false, false, false] rfl rfl (by kernel_rfl) (fun _ _ _ h => h) (Or.inl ⟨by rfl, ?_⟩) hHeld ?_ ?_
              rotate_left
              · rintro w' ⟨s0, s1, s2, s3, s4, s5, s6, s7⟩
                go_simp
                with_reducible rfl
              rotate_left
              · simp only [Act.put, List.setIfInBounds_toArray, List.set_cons_zero, List.set_cons_succ, i64_w, i32_w]
                rfl
              refine pure_ (i := 6) (N := some 83) (v := ?_) (a' := ?_) #[true, true, true, true, true, true, true, false, false, false, false, false] rfl rfl (by kernel_rfl) (fun _ _ _ h => h) (Or.inl ⟨by rfl, ?_⟩) ?_ ?_
              rotate_left
              · intro w'
                go_simp
                with_reducible rfl
              rotate_left
              · simp only [Act.put, List.setIfInBounds_toArray, List.set_cons_zero, List.set_cons_succ, i64_w, i32_w]
                rfl
              refine take_ (i := 7) (N := some 84) (v := ?_) (a' := ?_) #[true, true, true, true, true, true, true, true, false, false, false, false] rfl rfl (by kernel_rfl) (fun _ _ _ h => h) (Or.inl ⟨by rfl, ?_⟩) hHeld ?_ ?_
              rotate_left
              · rintro w' ⟨s0, s1, s2, s3, s4, s5, s6, s7⟩
                go_simp
                with_reducible rfl
              rotate_left
              · simp only [Act.put, List.setIfInBounds_toArray, List.set_cons_zero, List.set_cons_succ, i64_w, i32_w]
                rfl
              refine join_ (σ := Nat × Nat) 2 #[true, true, true, true, true, true, true, true, true, true, false, false] (fun s => [(16, Value.pointer (some ⟨s.1, 0, none⟩)), (17, Value.pointer (some ⟨s.2, 0, none⟩))]) (fun s w' => Aside0 (Below wr.heap.size wr w') ∧ s.1 ≠ s.2 ∧ wr.heap.size ≤ s.1 ∧ wr.heap.size ≤ s.2 ∧ s.1 < w'.heap.size ∧ s.2 < w'.heap.size ∧ w'.cell? ⟨s.1, 0, none⟩ = some (.int .i64 0) ∧ w'.cell? ⟨s.1, 1, none⟩ = some (.int .i64 0) ∧ w'.cell? ⟨s.1, 2, none⟩ = some (.slice none 0 0) ∧ w'.cell? ⟨s.2, 0, none⟩ = some (.int .i64 0) ∧ w'.cell? ⟨s.2, 1, none⟩ = some (.int .i64 0) ∧ w'.cell? ⟨s.2, 2, none⟩ = some (.slice none 0 0) ∧ (∀ j, w'.frozen? ⟨s.1, j, none⟩ = false) ∧ (∀ j, w'.frozen? ⟨s.2, j, none⟩ = false) ∧ (w'.cell? ⟨w.heap.size, 1, none⟩ = some (.slice (some ada) ma c1) ∧ w'.cell? ⟨w.heap.size + 1, 1, none⟩ = some (.slice (some adb) mb d1) ∧ w'.cell? ada = some (.int .i64 xk) ∧ w'.cell? ⟨ada.block, ada.off + 1, none⟩ = some (.int .i64 xn) ∧ w'.cell? ⟨ada.block, ada.off + 2, none⟩ = some (.slice AX xl nx) ∧ w'.cell? adb = some (.int .i64 vk) ∧ w'.cell? ⟨adb.block, adb.off + 1, none⟩ = some (.int .i64 vn) ∧ w'.cell? ⟨adb.block, adb.off + 2, none⟩ = some (.slice BX vl mx))) ?_ ?_
              rotate_left
              · intro hCont
                refine two_ (i := 8) (j := 9) (Ni := some 16) (Nj := some 17) #[true, true, true, true, true, true, true, true, true, false, false, false] #[true, true, true, true, true, true, true, true, false, true, false, false] rfl rfl rfl rfl (by kernel_rfl) (by decide) (by decide) (fun K hK => ?_) (fun K hK => ?_)
                · skip
                  refine value_ (w1 := ?_) (v := ?_) (by rfl) rfl ?_ ?_
                  rotate_left 2
                  · go_simp
                    constructor
                    · rfl
                    · rfl
                  refine hK.out _ _ ⟨(by go_simp), (by go_simp), (by go_simp), (by go_simp), (by go_simp), (by go_simp), (by go_simp), (by go_simp)⟩ (fun hHeld => ?_)
                  clear hK K
                  refine norm_ (a' := ?_) ?_ ?_
                  rotate_left
                  · show Act.put _ (some 16) _ = _
                    simp only [Act.put, List.setIfInBounds_toArray, List.set_cons_zero, List.set_cons_succ, i64_w, i32_w]
                    rfl
                  refine one_ (i := 9) (N := some 17) #[true, true, true, true, true, true, true, true, true, true, false, false] rfl rfl (by kernel_rfl) (by decide) (fun K hK => ?_)
                  refine value_ (w1 := ?_) (v := ?_) (by rfl) rfl ?_ ?_
                  rotate_left 2
                  · go_simp
                    constructor
                    · rfl
                    · rfl
                  refine hK.out _ _ ⟨(by go_simp), (by go_simp), (by go_simp), (by go_simp), (by go_simp), (by go_simp), (by go_simp), (by go_simp)⟩ (fun hHeld => ?_)
                  clear hK K
                  refine norm_ (a' := ?_) ?_ ?_
                  rotate_left
                  · show Act.put _ (some 17) _ = _
                    simp only [Act.put, List.setIfInBounds_toArray, List.set_cons_zero, List.set_cons_succ, i64_w, i32_w]
                    rfl
                  exact norm_ (by simp only [putAll, Act.put, List.setIfInBounds_toArray, List.set_cons_zero, List.set_cons_succ]) (hCont (wr.heap.size, wr.heap.size + 1) _ ⟨⟨by (repeat (first | exact Below.refl _ _ | apply below_alloc | apply below_drew | apply pw_below_drewN))⟩, by simp, by simp, by simp, by first | (simp; done) | (simp; omega), by first | (simp; done) | (simp; omega), by go_simp, by go_simp, by go_simp, by go_simp, by go_simp, by go_simp, by intro j; go_simp, by intro j; go_simp, hHeld⟩)
                · skip
                  refine value_ (w1 := ?_) (v := ?_) (by rfl) rfl ?_ ?_
                  rotate_left 2
                  · go_simp
                    constructor
                    · rfl
                    · rfl
                  refine hK.out _ _ ⟨(by go_simp), (by go_simp), (by go_simp), (by go_simp), (by go_simp), (by go_simp), (by go_simp), (by go_simp)⟩ (fun hHeld => ?_)
                  clear hK K
                  refine norm_ (a' := ?_) ?_ ?_
                  rotate_left
                  · show Act.put _ (some 17) _ = _
                    simp only [Act.put, List.setIfInBounds_toArray, List.set_cons_zero, List.set_cons_succ, i64_w, i32_w]
                    rfl
                  refine one_ (i := 8) (N := some 16) #[true, true, true, true, true, true, true, true, true, true, false, false] rfl rfl (by kernel_rfl) (by decide) (fun K hK => ?_)
                  refine value_ (w1 := ?_) (v := ?_) (by rfl) rfl ?_ ?_
                  rotate_left 2
                  · go_simp
                    constructor
                    · rfl
                    · rfl
                  refine hK.out _ _ ⟨(by go_simp), (by go_simp), (by go_simp), (by go_simp), (by go_simp), (by go_simp), (by go_simp), (by go_simp)⟩ (fun hHeld => ?_)
                  clear hK K
                  refine norm_ (a' := ?_) ?_ ?_
                  rotate_left
                  · show Act.put _ (some 16) _ = _
                    simp only [Act.put, List.setIfInBounds_toArray, List.set_cons_zero, List.set_cons_succ, i64_w, i32_w]
                    rfl
                  exact norm_ (by simp only [putAll, Act.put, List.setIfInBounds_toArray, List.set_cons_zero, List.set_cons_succ]) (hCont (wr.heap.size + 1, wr.heap.size) _ ⟨⟨by (repeat (first | exact Below.refl _ _ | apply below_alloc | apply below_drew | apply pw_below_drewN))⟩, by simp, by simp, by simp, by first | (simp; done) | (simp; omega), by first | (simp; done) | (simp; omega), by go_simp, by go_simp, by go_simp, by go_simp, by go_simp, by go_simp, by intro j; go_simp, by intro j; go_simp, hHeld⟩)
              rintro ⟨p, q⟩ w9 ⟨hb9, hpq, hp0, hq0, hp1, hq1, e0_, e1_, e2_, e3_, e4_, e5_, ef0, ef1, hHeld⟩
              have hpn : ∀ q, q < wr.heap.size → p ≠ q := fun q h => by simp only at hp0; omega
              simp only at hpq hp0 hq0 hp1 hq1 e0_ e1_ e2_ e3_ e4_ e5_ ef0 ef1
              refine norm_ (a' := ?_) ?_ ?_
              rotate_left
              · simp only [putAll, Act.put, List.setIfInBounds_toArray, List.set_cons_zero, List.set_cons_succ]
                rfl
              refine one_ (i := 10) (N := none) #[true, true, true, true, true, true, true, true, true, true, true, false] rfl rfl (by kernel_rfl) (by decide) (fun K hK => ?_)
              refine skip_ (w1 := ?_) (by rfl) rfl ?_ ?_
              rotate_left
              · go_simp
                rfl
              refine hK.out _ _ ⟨cell_set (cell_set (cell_set hHeld.1 (hpn _ hl0)) (hpn _ hl0)) (hpn _ hl0), cell_set (cell_set (cell_set hHeld.2.1 (hpn _ hl1)) (hpn _ hl1)) (hpn _ hl1), cell_set (cell_set (cell_set hHeld.2.2.1 (hpn _ hlA)) (hpn _ hlA)) (hpn _ hlA), cell_set (cell_set (cell_set hHeld.2.2.2.1 (hpn _ hlA)) (hpn _ hlA)) (hpn _ hlA), cell_set (cell_set (cell_set hHeld.2.2.2.2.1 (hpn _ hlA)) (hpn _ hlA)) (hpn _ hlA), cell_set (cell_set (cell_set hHeld.2.2.2.2.2.1 (hpn _ hlB)) (hpn _ hlB)) (hpn _ hlB), cell_set (cell_set (cell_set hHeld.2.2.2.2.2.2.1 (hpn _ hlB)) (hpn _ hlB)) (hpn _ hlB), cell_set (cell_set (cell_set hHeld.2.2.2.2.2.2.2 (hpn _ hlB)) (hpn _ hlB)) (hpn _ hlB)⟩ (fun hHeld => ?_)
              clear hK K
              refine last_ (i := 11) (N := none) #[true, true, true, true, true, true, true, true, true, true, true, true] rfl rfl (by kernel_rfl) (by decide) (fun K hK => ?_)
              refine skip_ (w1 := ?_) (by rfl) rfl ?_ ?_
              rotate_left
              · go_simp
                rfl
              refine hK.out _ _ ?_
              clear hK K
              refine done_ (by kernel_rfl) ?_
              have hsl : ∀ (x : Addr) (v : Value), x.block < wr.heap.size → wr.cell? x = some v → w9.cell? x = some v := fun x v hx h => (hb9.out.cell hx).trans h
              obtain ⟨t0, t1, t2, ts, tf, tz, tb⟩ := set3 (.int .i64 xk) (.int .i64 xn) (.slice AX xl nx) e0_ e1_ e2_
              obtain ⟨r0, r1, r2, rs, rf, rz, rb⟩ := set3 (.int .i64 vk) (.int .i64 vn) (.slice BX vl mx) (ts _ _ (fun e => hpq e.symm) e3_) (ts _ _ (fun e => hpq e.symm) e4_) (ts _ _ (fun e => hpq e.symm) e5_)
              replace t0 := rs _ _ hpq t0
              replace t1 := rs _ _ hpq t1
              replace t2 := rs _ _ hpq t2
              have hb10 := rb _ _ hq0 (tb _ _ hp0 hb9.out)
              have gf0 : ∀ j, _ := fun j => (rf ⟨p, j, none⟩).trans ((tf ⟨p, j, none⟩).trans (ef0 j))
              have gf1 : ∀ j, _ := fun j => (rf ⟨q, j, none⟩).trans ((tf ⟨q, j, none⟩).trans (ef1 j))
              have hz10 := rz.trans tz
              clear ts tf tz tb rs rf rz rb hsl hHeld
              generalize hW10 : ((((((w9.setCell ⟨p, 0, none⟩ (.int .i64 xk)).setCell ⟨p, 1, none⟩ (.int .i64 xn)).setCell ⟨p, 2, none⟩ (.slice AX xl nx)).setCell ⟨q, 0, none⟩ (.int .i64 vk)).setCell ⟨q, 1, none⟩ (.int .i64 vn)).setCell ⟨q, 2, none⟩ (.slice BX vl mx)) = W10 at t0 t1 t2 r0 r1 r2 hb10 gf0 gf1 hz10 ⊢
              clear hW10
              have hbw1 : Below w.heap.size w W10 := hbw.out.trans (hb10.mono (by omega))
              have f00 : W10.cell? ⟨w.heap.size, 0, none⟩ = some (.slice A0 na c0) := (hb10.cell (p := ⟨w.heap.size, 0, none⟩) (by simp <;> omega)).trans y00
              have f01 : W10.cell? ⟨w.heap.size, 1, none⟩ = some (.slice (some ada) ma c1) := (hb10.cell (p := ⟨w.heap.size, 1, none⟩) (by simp <;> omega)).trans y01
              have f10 : W10.cell? ⟨w.heap.size + 1, 0, none⟩ = some (.slice B0 nb d0) := (hb10.cell (p := ⟨w.heap.size + 1, 0, none⟩) (by simp <;> omega)).trans y10
              have f11 : W10.cell? ⟨w.heap.size + 1, 1, none⟩ = some (.slice (some adb) mb d1) := (hb10.cell (p := ⟨w.heap.size + 1, 1, none⟩) (by simp <;> omega)).trans y11
              have f20 : W10.cell? ⟨w.heap.size + 1 + 1, 0, none⟩ = some (.slice none 0 0) := (hb10.cell (p := ⟨w.heap.size + 1 + 1, 0, none⟩) (by simp <;> omega)).trans y20
              have f21 : W10.cell? ⟨w.heap.size + 1 + 1, 1, none⟩ = some (.slice none 0 0) := (hb10.cell (p := ⟨w.heap.size + 1 + 1, 1, none⟩) (by simp <;> omega)).trans y21
              have ff : ∀ j, W10.frozen? ⟨w.heap.size + 1 + 1, j, none⟩ = false := fun j => (hb10.frozen (p := ⟨w.heap.size + 1 + 1, j, none⟩) (by simp <;> omega)).trans (yf j)
              have Y20 := Aside0.mk y20
              have Y21 := Aside0.mk y21
              have YF := Aside0.mk yf
              clear y00 y01 y10 y11 y20 y21 yf x0 x1 x2 v0 v1 v2 k0 k1 k2 k3 k4 k5 k6 k7 n0 n1 n2 n3 n4 n5 n6 n7 e0_ e1_ e2_ e3_ e4_ e5_ ef0 ef1 hb9
              have HB10 := Aside0.mk hb10
              have HBW1 := Aside0.mk hbw1
              clear hb10 hbw1
              have hkB : nb ≠ 0 → k < mb := fun hb0 => by
                by_cases h : na = 0
                · have := hNa.out h; omega
                · have := HEQ.out h hb0; omega
              have hkA : na ≠ 0 → k < ma := fun ha0 => by
                by_cases h : nb = 0
                · have := hNb.out h; omega
                · have := HEQ.out ha0 h; omega
              by_cases hna : na = 0
              · have tA : decide ((0 : Int) < (na : Int)) = false := by simp; omega
                have tA2 : decide (0 < na) = false := by simp; omega
                have HN0 := Aside0.mk hna
                clear hna hkA
                by_cases hnb : nb = 0
                · have tB : decide ((0 : Int) < (nb : Int)) = false := by simp; omega
                  have tB2 : decide (0 < nb) = false := by simp; omega
                  have HM0 := Aside0.mk hnb
                  clear hnb hkB
                  go_wp2_with fail
                  have hP : Aside0 (T.dyC op xk xn vk vn = T.pairs op a b k) := ⟨by unfold T.pairs; rw [beside_atom (by rw [← HNA.out]; exact HN0.out), beside_atom (by rw [← HNB.out]; exact HM0.out), (HX0.out).1, (HX0.out).2, (HV0.out).1, (HV0.out).2]⟩
                  refine (atCell_calls op xk xn vk vn _ _ _ HX0i.out HV0i.out).mono ?_
                  rintro e w12 ⟨rfl, hb12⟩
                  rw [hP.out]
                  have hbx : Below wr.heap.size wr w12 := (HB10.out).trans (hb12.mono (Aside0.out ⟨(HB10.out).size⟩))
                  have hz12 : w.heap.size + 4 ≤ w12.heap.size := by have := hbx.size; omega
                  have hbw12 : Below w.heap.size w w12 := hbw.out.trans (hbx.mono (by omega))
                  generalize hrn : (T.pairs op a b k).1 = rn
                  generalize hre : (T.pairs op a b k).2 = re
                  by_cases hr0 : re = 0
                  · have HR0 := Aside0.mk (show (T.pairs op a b k).2 = 0 by rw [hre]; exact hr0)
                    have HRN := Aside0.mk hrn
                    subst hr0
                    clear hre hrn
                    obtain ⟨V, ec, rfl⟩ := Kd.R_slice HRC.out
                    have hxl : (T.results (T.pairs op a b) k).length ≤ 16384 := by rw [results_len]; omega
                    have y51 : wr.cell? ⟨w1.heap.size, 1, none⟩ = some (.slice V (T.results (T.pairs op a b) k).length ec) := cell_of_row wr w1.heap.size 1 _ _ _ HBK.out
                    have y5f : ∀ j, wr.frozen? ⟨w1.heap.size, j, none⟩ = false := fun j => by simp [World.frozen?, HBK.out]
                    have z51 := (hbx.cell (p := ⟨w1.heap.size, 1, none⟩) hgl).trans y51
                    have z5f : ∀ j, w12.frozen? ⟨w1.heap.size, j, none⟩ = false := fun j => (hbx.frozen (p := ⟨w1.heap.size, j, none⟩) hgl).trans (y5f j)
                    have HR12 := Aside0.mk (Kd.R_below HRC.out hbx)
                    have HBX := Aside0.mk hbx
                    have HB12 := Aside0.mk hbw12
                    have HBK12 := Aside0.mk ((hbx.block w1.heap.size hgl).trans HBK.out)
                    have hgl12 : w1.heap.size < w12.heap.size := by have := hbx.size; omega
                    have hne0 := Aside0.mk (Kd.R_away HRC.out (g := w1.heap.size) (fun k hk => hk))
                    generalize hxs : T.results (T.pairs op a b) k = xs at HR12 HRC HBK12 hxl y51 z51 hne0
                    have HXS := Aside0.mk hxs
                    clear hxs y51 y5f hbx hbw12
                    go_wp2_with (at_builtin; (refine Kd.R_append kC w1.heap.size rfl (.tmp 115) (.tmp 117) 23 33 (.agg #[.int .i64 0, .int .i64 0, .slice none 0 0]) 40 rfl Try.underlying23 info_cell rfl (by decide) (by omega) (.slice V xs.length ec) xs (T.numc rn) _ (fun k => k ≠ w1.heap.size) (fun _ => False) rfl (by rw [World.size_alloc]; rfl) (M_num _ _ _ rn) (fun k hk => hk.elim) (fun k hk => by have := hgl12; simp at hk; omega) (Kd.R_alloc HR12.out _) (Below.refl _ _) (by simp; omega) (by omega) ?_); intro v1 w3 hR3 hb3 hg3 hat3; go_loud (obtain ⟨V1, ec1, rfl⟩ := Kd.R_slice hR3; have hg3' : ∀ q, q < w12.heap.size → some q ≠ (Value.slice V xs.length ec).ownBlock → w3.heap[q]? = w12.heap[q]? := fun q hq hne => (hg3.block q (by simp; omega) hne).trans (Below.heap_alloc _ _ _ hq); have hb5 := Aside0.mk ((hg3' _ hgl12 hne0.out).trans HBK12.out); have hcc1 : w3.cell? ⟨w1.heap.size, 1, none⟩ = some (.slice V xs.length ec) := (World.cell?_of_block (hg3' _ hgl12 hne0.out)).trans z51; have hfz : w3.frozen? ⟨w1.heap.size, 1, none⟩ = false := (frozen_block (hg3' _ hgl12 hne0.out)).trans (z5f 1); have hgl3 : w1.heap.size < w3.heap.size := (by have := hg3.size; simp at this; omega); have hz3 : w12.heap.size < w3.heap.size := (by have := hg3.size; simp at this; omega); replace hR3 := Aside0.mk hR3; replace hb3 := Aside0.mk hb3; clear hat3 hg3 hg3'))
                    refine ⟨⟨k + 1, by omega, by go_num, ⟨.slice V1 (xs.length + 1) ec1, ?_, ?_⟩, ⟨?_⟩, ⟨firstErr_succ her.out HR0.out⟩⟩, by simp [intOf]; omega⟩
                    · simp [World.setCell, Array.getElem?_modify, hb5.out]
                    · rw [← results_succ, HXS.out, HRN.out]
                      have h5 := Kd.R_far hR3.out (p := ⟨w1.heap.size, 1, none⟩) (fun _ h => h) (.slice V1 (xs.length + 1) ec1)
                      simpa using h5
                    · refine Below.setCell ?_ (by simp) _
                      exact (((hbl.out.trans (HBX.out.mono hbl.out.size)).alloc (Nat.le_of_lt hgl12) _).trans hb3.out)
                  · have z0 : ∀ o, (w12.alloc o).cell? ⟨w.heap.size + 1 + 1, 0, none⟩ = some (.slice none 0 0) := fun o => later ((hbx.cell (p := ⟨w.heap.size + 1 + 1, 0, none⟩) (by simp; omega)).trans Y20.out) o
                    have z1 : ∀ o, (w12.alloc o).cell? ⟨w.heap.size + 1 + 1, 1, none⟩ = some (.slice none 0 0) := fun o => later ((hbx.cell (p := ⟨w.heap.size + 1 + 1, 1, none⟩) (by simp; omega)).trans Y21.out) o
                    have zf : ∀ j o, (w12.alloc o).frozen? ⟨w.heap.size + 1 + 1, j, none⟩ = false := fun j o => (((Below.refl _ _).alloc (Nat.le_refl _) o).frozen (p := ⟨w.heap.size + 1 + 1, j, none⟩) (by simp; omega)).trans ((hbx.frozen (p := ⟨w.heap.size + 1 + 1, j, none⟩) (by simp; omega)).trans (YF.out j))
                    have hx1 : (re == 0) = false := by rw [beq_eq_false_iff_ne]; exact hr0
                    have hx2 : (re != 0) = true := by rw [bne_iff_ne]; exact hr0
                    have HRE := Aside0.mk (And.intro hre hr0)
                    have HB12 := Aside0.mk hbw12
                    clear hbx hbw12 hb12 hrn hre hr0
                    go_wp2_with fail
                    exact bodyPost_ret (v := .tuple #[.agg #[.slice none 0 0, .slice none 0 0], .int .i64 re]) (by simp only [results, Try.results53]; go_simp) rfl (new_none (by have h9 := firstErr_bad hlt her.out (by rw [HRE.out.1]; exact HRE.out.2); rw [HDY.out]; unfold T.cellsErr; rw [h9, HRE.out.1, if_pos HRE.out.2]) (by (repeat (refine Below.setCell ?_ (by first | (simp; done) | (simp; omega)) _)); exact below_alloc HB12.out _))
                · have tB : decide ((0 : Int) < (nb : Int)) = true := by simp; omega
                  have tB2 : decide (0 < nb) = true := by simp; omega
                  have hnb1 : (0 : Int) < (nb : Int) := by omega
                  have HM0 := Aside0.mk hnb
                  have hkB1 := hkB hnb
                  have hkB3 : (k : Int) < (mb : Int) := by omega
                  clear hnb hkB
                  obtain ⟨ad2, AZ, mz1, eb1, b0_, b1_, b2_, lb_, gb_⟩ := at_cell (Kd.C_below GB1.out HBW1.out) k (by rw [← HMB.out]; exact hkB1)
                  obtain rfl := Option.some.inj eb1
                  generalize hxk : (b.cells.getD k zc).kind = zk at b0_
                  generalize hxn : (b.cells.getD k zc).n = zn at b1_
                  have HZ0 := Aside0.mk (And.intro hxk hxn)
                  have HZ0i := Aside0.mk (show in64 zn by rw [← hxn]; exact (wfC_iff.1 ((wfA_iff.1 HWB.out).2.2.2 _ (getD_mem zc (by rw [← HMB.out]; exact hkB1)))).2.1)
                  clear hxk hxn
                  generalize (b.cells.getD k zc).box.length = zl at b2_
                  clear lb_ gb_
                  obtain ⟨s0, s1, s2, ss, sf, sz2, sb⟩ := set3 (.int .i64 zk) (.int .i64 zn) (.slice AZ zl mz1) r0 r1 r2
                  have kt0 := ss _ _ hpq t0
                  have kt1 := ss _ _ hpq t1
                  have kt2 := ss _ _ hpq t2
                  have hb12_ := sb _ _ hq0 HB10.out
                  clear ss sf sb
                  go_upto_region 27 with (fail)
                  generalize hW12 : (((W10.setCell ⟨q, 0, none⟩ (.int .i64 zk)).setCell ⟨q, 1, none⟩ (.int .i64 zn)).setCell ⟨q, 2, none⟩ (.slice AZ zl mz1)) = W12 at s0 s1 s2 kt0 kt1 kt2 hb12_ sz2 ⊢
                  clear hW12 t0 t1 t2 r0 r1 r2 gf0 gf1 f10 f11 b0_ b1_ b2_
                  have HB12_ := Aside0.mk hb12_
                  clear hb12_
                  go_wp2_with fail
                  have hP : Aside0 (T.dyC op xk xn zk zn = T.pairs op a b k) := ⟨by unfold T.pairs; rw [beside_atom (by rw [← HNA.out]; exact HN0.out), beside_at (by rw [← HNB.out]; exact HM0.out), (HX0.out).1, (HX0.out).2, (HZ0.out).1, (HZ0.out).2]⟩
                  refine (atCell_calls op xk xn zk zn _ _ _ HX0i.out HZ0i.out).mono ?_
                  rintro e w12 ⟨rfl, hb12⟩
                  rw [hP.out]
                  have hbx : Below wr.heap.size wr w12 := (HB12_.out).trans (hb12.mono (Aside0.out ⟨(HB12_.out).size⟩))
                  have hz12 : w.heap.size + 4 ≤ w12.heap.size := by have := hbx.size; omega
                  have hbw12 : Below w.heap.size w w12 := hbw.out.trans (hbx.mono (by omega))
                  generalize hrn : (T.pairs op a b k).1 = rn
                  generalize hre : (T.pairs op a b k).2 = re
                  by_cases hr0 : re = 0
                  · have HR0 := Aside0.mk (show (T.pairs op a b k).2 = 0 by rw [hre]; exact hr0)
                    have HRN := Aside0.mk hrn
                    subst hr0
                    clear hre hrn
                    obtain ⟨V, ec, rfl⟩ := Kd.R_slice HRC.out
                    have hxl : (T.results (T.pairs op a b) k).length ≤ 16384 := by rw [results_len]; omega
                    have y51 : wr.cell? ⟨w1.heap.size, 1, none⟩ = some (.slice V (T.results (T.pairs op a b) k).length ec) := cell_of_row wr w1.heap.size 1 _ _ _ HBK.out
                    have y5f : ∀ j, wr.frozen? ⟨w1.heap.size, j, none⟩ = false := fun j => by simp [World.frozen?, HBK.out]
                    have z51 := (hbx.cell (p := ⟨w1.heap.size, 1, none⟩) hgl).trans y51
                    have z5f : ∀ j, w12.frozen? ⟨w1.heap.size, j, none⟩ = false := fun j => (hbx.frozen (p := ⟨w1.heap.size, j, none⟩) hgl).trans (y5f j)
                    have HR12 := Aside0.mk (Kd.R_below HRC.out hbx)
                    have HBX := Aside0.mk hbx
                    have HB12 := Aside0.mk hbw12
                    have HBK12 := Aside0.mk ((hbx.block w1.heap.size hgl).trans HBK.out)
                    have hgl12 : w1.heap.size < w12.heap.size := by have := hbx.size; omega
                    have hne0 := Aside0.mk (Kd.R_away HRC.out (g := w1.heap.size) (fun k hk => hk))
                    generalize hxs : T.results (T.pairs op a b) k = xs at HR12 HRC HBK12 hxl y51 z51 hne0
                    have HXS := Aside0.mk hxs
                    clear hxs y51 y5f hbx hbw12
                    go_wp2_with (at_builtin; (refine Kd.R_append kC w1.heap.size rfl (.tmp 115) (.tmp 117) 23 33 (.agg #[.int .i64 0, .int .i64 0, .slice none 0 0]) 40 rfl Try.underlying23 info_cell rfl (by decide) (by omega) (.slice V xs.length ec) xs (T.numc rn) _ (fun k => k ≠ w1.heap.size) (fun _ => False) rfl (by rw [World.size_alloc]; rfl) (M_num _ _ _ rn) (fun k hk => hk.elim) (fun k hk => by have := hgl12; simp at hk; omega) (Kd.R_alloc HR12.out _) (Below.refl _ _) (by simp; omega) (by omega) ?_); intro v1 w3 hR3 hb3 hg3 hat3; go_loud (obtain ⟨V1, ec1, rfl⟩ := Kd.R_slice hR3; have hg3' : ∀ q, q < w12.heap.size → some q ≠ (Value.slice V xs.length ec).ownBlock → w3.heap[q]? = w12.heap[q]? := fun q hq hne => (hg3.block q (by simp; omega) hne).trans (Below.heap_alloc _ _ _ hq); have hb5 := Aside0.mk ((hg3' _ hgl12 hne0.out).trans HBK12.out); have hcc1 : w3.cell? ⟨w1.heap.size, 1, none⟩ = some (.slice V xs.length ec) := (World.cell?_of_block (hg3' _ hgl12 hne0.out)).trans z51; have hfz : w3.frozen? ⟨w1.heap.size, 1, none⟩ = false := (frozen_block (hg3' _ hgl12 hne0.out)).trans (z5f 1); have hgl3 : w1.heap.size < w3.heap.size := (by have := hg3.size; simp at this; omega); have hz3 : w12.heap.size < w3.heap.size := (by have := hg3.size; simp at this; omega); replace hR3 := Aside0.mk hR3; replace hb3 := Aside0.mk hb3; clear hat3 hg3 hg3'))
                    refine ⟨⟨k + 1, by omega, by go_num, ⟨.slice V1 (xs.length + 1) ec1, ?_, ?_⟩, ⟨?_⟩, ⟨firstErr_succ her.out HR0.out⟩⟩, by simp [intOf]; omega⟩
                    · simp [World.setCell, Array.getElem?_modify, hb5.out]
                    · rw [← results_succ, HXS.out, HRN.out]
                      have h5 := Kd.R_far hR3.out (p := ⟨w1.heap.size, 1, none⟩) (fun _ h => h) (.slice V1 (xs.length + 1) ec1)
                      simpa using h5
                    · refine Below.setCell ?_ (by simp) _
                      exact (((hbl.out.trans (HBX.out.mono hbl.out.size)).alloc (Nat.le_of_lt hgl12) _).trans hb3.out)
                  · have z0 : ∀ o, (w12.alloc o).cell? ⟨w.heap.size + 1 + 1, 0, none⟩ = some (.slice none 0 0) := fun o => later ((hbx.cell (p := ⟨w.heap.size + 1 + 1, 0, none⟩) (by simp; omega)).trans Y20.out) o
                    have z1 : ∀ o, (w12.alloc o).cell? ⟨w.heap.size + 1 + 1, 1, none⟩ = some (.slice none 0 0) := fun o => later ((hbx.cell (p := ⟨w.heap.size + 1 + 1, 1, none⟩) (by simp; omega)).trans Y21.out) o
                    have zf : ∀ j o, (w12.alloc o).frozen? ⟨w.heap.size + 1 + 1, j, none⟩ = false := fun j o => (((Below.refl _ _).alloc (Nat.le_refl _) o).frozen (p := ⟨w.heap.size + 1 + 1, j, none⟩) (by simp; omega)).trans ((hbx.frozen (p := ⟨w.heap.size + 1 + 1, j, none⟩) (by simp; omega)).trans (YF.out j))
                    have hx1 : (re == 0) = false := by rw [beq_eq_false_iff_ne]; exact hr0
                    have hx2 : (re != 0) = true := by rw [bne_iff_ne]; exact hr0
                    have HRE := Aside0.mk (And.intro hre hr0)
                    have HB12 := Aside0.mk hbw12
                    clear hbx hbw12 hb12 hrn hre hr0
                    go_wp2_with fail
                    exact bodyPost_ret (v := .tuple #[.agg #[.slice none 0 0, .slice none 0 0], .int .i64 re]) (by simp only [results, Try.results53]; go_simp) rfl (new_none (by have h9 := firstErr_bad hlt her.out (by rw [HRE.out.1]; exact HRE.out.2); rw [HDY.out]; unfold T.cellsErr; rw [h9, HRE.out.1, if_pos HRE.out.2]) (by (repeat (refine Below.setCell ?_ (by first | (simp; done) | (simp; omega)) _)); exact below_alloc HB12.out _))
              · have tA : decide ((0 : Int) < (na : Int)) = true := by simp; omega
                have tA2 : decide (0 < na) = true := by simp; omega
                have hna1 : (0 : Int) < (na : Int) := by omega
                have HN0 := Aside0.mk hna
                have hkA1 := hkA hna
                have hkA3 : (k : Int) < (ma : Int) := by omega
                clear hna hkA
                obtain ⟨ad1, AY, my1, ea1, a0_, a1_, a2_, la_, ga_⟩ := at_cell (Kd.C_below GA1.out HBW1.out) k (by rw [← HMA.out]; exact hkA1)
                obtain rfl := Option.some.inj ea1
                generalize hxk : (a.cells.getD k zc).kind = yk at a0_
                generalize hxn : (a.cells.getD k zc).n = yn at a1_
                have HY0 := Aside0.mk (And.intro hxk hxn)
                have HY0i := Aside0.mk (show in64 yn by rw [← hxn]; exact (wfC_iff.1 ((wfA_iff.1 HWA.out).2.2.2 _ (getD_mem zc (by rw [← HMA.out]; exact hkA1)))).2.1)
                clear hxk hxn
                generalize (a.cells.getD k zc).box.length = yl at a2_
                clear la_ ga_
                obtain ⟨s0, s1, s2, ss, sf, sz, sb⟩ := set3 (.int .i64 yk) (.int .i64 yn) (.slice AY yl my1) t0 t1 t2
                have k10 := ss _ _ (by simp; omega) f10
                have k11 := ss _ _ (by simp; omega) f11
                have kr0 := ss _ _ (fun e => hpq e.symm) r0
                have kr1 := ss _ _ (fun e => hpq e.symm) r1
                have kr2 := ss _ _ (fun e => hpq e.symm) r2
                have kf0 : ∀ j, _ := fun j => (sf ⟨p, j, none⟩).trans (gf0 j)
                have kf1 : ∀ j, _ := fun j => (sf ⟨q, j, none⟩).trans (gf1 j)
                have hb11 := sb _ _ hp0 HB10.out
                clear ss sf sb
                go_upto_region 25 with (fail)
                generalize hW11 : (((W10.setCell ⟨p, 0, none⟩ (.int .i64 yk)).setCell ⟨p, 1, none⟩ (.int .i64 yn)).setCell ⟨p, 2, none⟩ (.slice AY yl my1)) = W11 at s0 s1 s2 k10 k11 kr0 kr1 kr2 kf0 kf1 hb11 sz ⊢
                clear hW11 t0 t1 t2 r0 r1 r2 gf0 gf1 f00 f01 f10 f11 f20 f21 ff a0_ a1_ a2_
                have HB11 := Aside0.mk hb11
                have HBW2 := Aside0.mk (show Below w.heap.size w W11 from hbw.out.trans (hb11.mono (by omega)))
                clear hb11
                have f10 := k10
                have f11 := k11
                have t0 := s0
                have t1 := s1
                have t2 := s2
                have r0 := kr0
                have r1 := kr1
                have r2 := kr2
                have gf0 := kf0
                have gf1 := kf1
                clear k10 k11 s0 s1 s2 kr0 kr1 kr2 kf0 kf1
                by_cases hnb : nb = 0
                · have tB : decide ((0 : Int) < (nb : Int)) = false := by simp; omega
                  have tB2 : decide (0 < nb) = false := by simp; omega
                  have HM0 := Aside0.mk hnb
                  clear hnb hkB
                  go_wp2_with fail
                  have hP : Aside0 (T.dyC op yk yn vk vn = T.pairs op a b k) := ⟨by unfold T.pairs; rw [beside_at (by rw [← HNA.out]; exact HN0.out), beside_atom (by rw [← HNB.out]; exact HM0.out), (HY0.out).1, (HY0.out).2, (HV0.out).1, (HV0.out).2]⟩
                  refine (atCell_calls op yk yn vk vn _ _ _ HY0i.out HV0i.out).mono ?_
                  rintro e w12 ⟨rfl, hb12⟩
                  rw [hP.out]
                  have hbx : Below wr.heap.size wr w12 := (HB11.out).trans (hb12.mono (Aside0.out ⟨(HB11.out).size⟩))
                  have hz12 : w.heap.size + 4 ≤ w12.heap.size := by have := hbx.size; omega
                  have hbw12 : Below w.heap.size w w12 := hbw.out.trans (hbx.mono (by omega))
                  generalize hrn : (T.pairs op a b k).1 = rn
                  generalize hre : (T.pairs op a b k).2 = re
                  by_cases hr0 : re = 0
                  · have HR0 := Aside0.mk (show (T.pairs op a b k).2 = 0 by rw [hre]; exact hr0)
                    have HRN := Aside0.mk hrn
                    subst hr0
                    clear hre hrn
                    obtain ⟨V, ec, rfl⟩ := Kd.R_slice HRC.out
                    have hxl : (T.results (T.pairs op a b) k).length ≤ 16384 := by rw [results_len]; omega
                    have y51 : wr.cell? ⟨w1.heap.size, 1, none⟩ = some (.slice V (T.results (T.pairs op a b) k).length ec) := cell_of_row wr w1.heap.size 1 _ _ _ HBK.out
                    have y5f : ∀ j, wr.frozen? ⟨w1.heap.size, j, none⟩ = false := fun j => by simp [World.frozen?, HBK.out]
                    have z51 := (hbx.cell (p := ⟨w1.heap.size, 1, none⟩) hgl).trans y51
                    have z5f : ∀ j, w12.frozen? ⟨w1.heap.size, j, none⟩ = false := fun j => (hbx.frozen (p := ⟨w1.heap.size, j, none⟩) hgl).trans (y5f j)
                    have HR12 := Aside0.mk (Kd.R_below HRC.out hbx)
                    have HBX := Aside0.mk hbx
                    have HB12 := Aside0.mk hbw12
                    have HBK12 := Aside0.mk ((hbx.block w1.heap.size hgl).trans HBK.out)
                    have hgl12 : w1.heap.size < w12.heap.size := by have := hbx.size; omega
                    have hne0 := Aside0.mk (Kd.R_away HRC.out (g := w1.heap.size) (fun k hk => hk))
                    generalize hxs : T.results (T.pairs op a b) k = xs at HR12 HRC HBK12 hxl y51 z51 hne0
                    have HXS := Aside0.mk hxs
                    clear hxs y51 y5f hbx hbw12
                    go_wp2_with (at_builtin; (refine Kd.R_append kC w1.heap.size rfl (.tmp 115) (.tmp 117) 23 33 (.agg #[.int .i64 0, .int .i64 0, .slice none 0 0]) 40 rfl Try.underlying23 info_cell rfl (by decide) (by omega) (.slice V xs.length ec) xs (T.numc rn) _ (fun k => k ≠ w1.heap.size) (fun _ => False) rfl (by rw [World.size_alloc]; rfl) (M_num _ _ _ rn) (fun k hk => hk.elim) (fun k hk => by have := hgl12; simp at hk; omega) (Kd.R_alloc HR12.out _) (Below.refl _ _) (by simp; omega) (by omega) ?_); intro v1 w3 hR3 hb3 hg3 hat3; go_loud (obtain ⟨V1, ec1, rfl⟩ := Kd.R_slice hR3; have hg3' : ∀ q, q < w12.heap.size → some q ≠ (Value.slice V xs.length ec).ownBlock → w3.heap[q]? = w12.heap[q]? := fun q hq hne => (hg3.block q (by simp; omega) hne).trans (Below.heap_alloc _ _ _ hq); have hb5 := Aside0.mk ((hg3' _ hgl12 hne0.out).trans HBK12.out); have hcc1 : w3.cell? ⟨w1.heap.size, 1, none⟩ = some (.slice V xs.length ec) := (World.cell?_of_block (hg3' _ hgl12 hne0.out)).trans z51; have hfz : w3.frozen? ⟨w1.heap.size, 1, none⟩ = false := (frozen_block (hg3' _ hgl12 hne0.out)).trans (z5f 1); have hgl3 : w1.heap.size < w3.heap.size := (by have := hg3.size; simp at this; omega); have hz3 : w12.heap.size < w3.heap.size := (by have := hg3.size; simp at this; omega); replace hR3 := Aside0.mk hR3; replace hb3 := Aside0.mk hb3; clear hat3 hg3 hg3'))
                    refine ⟨⟨k + 1, by omega, by go_num, ⟨.slice V1 (xs.length + 1) ec1, ?_, ?_⟩, ⟨?_⟩, ⟨firstErr_succ her.out HR0.out⟩⟩, by simp [intOf]; omega⟩
                    · simp [World.setCell, Array.getElem?_modify, hb5.out]
                    · rw [← results_succ, HXS.out, HRN.out]
                      have h5 := Kd.R_far hR3.out (p := ⟨w1.heap.size, 1, none⟩) (fun _ h => h) (.slice V1 (xs.length + 1) ec1)
                      simpa using h5
                    · refine Below.setCell ?_ (by simp) _
                      exact (((hbl.out.trans (HBX.out.mono hbl.out.size)).alloc (Nat.le_of_lt hgl12) _).trans hb3.out)
                  · have z0 : ∀ o, (w12.alloc o).cell? ⟨w.heap.size + 1 + 1, 0, none⟩ = some (.slice none 0 0) := fun o => later ((hbx.cell (p := ⟨w.heap.size + 1 + 1, 0, none⟩) (by simp; omega)).trans Y20.out) o
                    have z1 : ∀ o, (w12.alloc o).cell? ⟨w.heap.size + 1 + 1, 1, none⟩ = some (.slice none 0 0) := fun o => later ((hbx.cell (p := ⟨w.heap.size + 1 + 1, 1, none⟩) (by simp; omega)).trans Y21.out) o
                    have zf : ∀ j o, (w12.alloc o).frozen? ⟨w.heap.size + 1 + 1, j, none⟩ = false := fun j o => (((Below.refl _ _).alloc (Nat.le_refl _) o).frozen (p := ⟨w.heap.size + 1 + 1, j, none⟩) (by simp; omega)).trans ((hbx.frozen (p := ⟨w.heap.size + 1 + 1, j, none⟩) (by simp; omega)).trans (YF.out j))
                    have hx1 : (re == 0) = false := by rw [beq_eq_false_iff_ne]; exact hr0
                    have hx2 : (re != 0) = true := by rw [bne_iff_ne]; exact hr0
                    have HRE := Aside0.mk (And.intro hre hr0)
                    have HB12 := Aside0.mk hbw12
                    clear hbx hbw12 hb12 hrn hre hr0
                    go_wp2_with fail
                    exact bodyPost_ret (v := .tuple #[.agg #[.slice none 0 0, .slice none 0 0], .int .i64 re]) (by simp only [results, Try.results53]; go_simp) rfl (new_none (by have h9 := firstErr_bad hlt her.out (by rw [HRE.out.1]; exact HRE.out.2); rw [HDY.out]; unfold T.cellsErr; rw [h9, HRE.out.1, if_pos HRE.out.2]) (by (repeat (refine Below.setCell ?_ (by first | (simp; done) | (simp; omega)) _)); exact below_alloc HB12.out _))
                · have tB : decide ((0 : Int) < (nb : Int)) = true := by simp; omega
                  have tB2 : decide (0 < nb) = true := by simp; omega
                  have hnb1 : (0 : Int) < (nb : Int) := by omega
                  have HM0 := Aside0.mk hnb
                  have hkB1 := hkB hnb
                  have hkB3 : (k : Int) < (mb : Int) := by omega
                  clear hnb hkB
                  obtain ⟨ad2, AZ, mz1, eb1, b0_, b1_, b2_, lb_, gb_⟩ := at_cell (Kd.C_below GB1.out HBW2.out) k (by rw [← HMB.out]; exact hkB1)
                  obtain rfl := Option.some.inj eb1
                  generalize hxk : (b.cells.getD k zc).kind = zk at b0_
                  generalize hxn : (b.cells.getD k zc).n = zn at b1_
                  have HZ0 := Aside0.mk (And.intro hxk hxn)
                  have HZ0i := Aside0.mk (show in64 zn by rw [← hxn]; exact (wfC_iff.1 ((wfA_iff.1 HWB.out).2.2.2 _ (getD_mem zc (by rw [← HMB.out]; exact hkB1)))).2.1)
                  clear hxk hxn
                  generalize (b.cells.getD k zc).box.length = zl at b2_
                  clear lb_ gb_
                  obtain ⟨s0, s1, s2, ss, sf, sz2, sb⟩ := set3 (.int .i64 zk) (.int .i64 zn) (.slice AZ zl mz1) r0 r1 r2
                  have kt0 := ss _ _ hpq t0
                  have kt1 := ss _ _ hpq t1
                  have kt2 := ss _ _ hpq t2
                  have hb12_ := sb _ _ hq0 HB11.out
                  clear ss sf sb
                  go_upto_region 27 with (fail)
                  generalize hW12 : (((W11.setCell ⟨q, 0, none⟩ (.int .i64 zk)).setCell ⟨q, 1, none⟩ (.int .i64 zn)).setCell ⟨q, 2, none⟩ (.slice AZ zl mz1)) = W12 at s0 s1 s2 kt0 kt1 kt2 hb12_ sz2 ⊢
                  clear hW12 t0 t1 t2 r0 r1 r2 gf0 gf1 f10 f11 b0_ b1_ b2_
                  have HB12_ := Aside0.mk hb12_
                  clear hb12_
                  go_wp2_with fail
                  have hP : Aside0 (T.dyC op yk yn zk zn = T.pairs op a b k) := ⟨by unfold T.pairs; rw [beside_at (by rw [← HNA.out]; exact HN0.out), beside_at (by rw [← HNB.out]; exact HM0.out), (HY0.out).1, (HY0.out).2, (HZ0.out).1, (HZ0.out).2]⟩
                  refine (atCell_calls op yk yn zk zn _ _ _ HY0i.out HZ0i.out).mono ?_
                  rintro e w12 ⟨rfl, hb12⟩
                  rw [hP.out]
                  have hbx : Below wr.heap.size wr w12 := (HB12_.out).trans (hb12.mono (Aside0.out ⟨(HB12_.out).size⟩))
                  have hz12 : w.heap.size + 4 ≤ w12.heap.size := by have := hbx.size; omega
                  have hbw12 : Below w.heap.size w w12 := hbw.out.trans (hbx.mono (by omega))
                  generalize hrn : (T.pairs op a b k).1 = rn
                  generalize hre : (T.pairs op a b k).2 = re
                  by_cases hr0 : re = 0
                  · have HR0 := Aside0.mk (show (T.pairs op a b k).2 = 0 by rw [hre]; exact hr0)
                    have HRN := Aside0.mk hrn
                    subst hr0
                    clear hre hrn
                    obtain ⟨V, ec, rfl⟩ := Kd.R_slice HRC.out
                    have hxl : (T.results (T.pairs op a b) k).length ≤ 16384 := by rw [results_len]; omega
                    have y51 : wr.cell? ⟨w1.heap.size, 1, none⟩ = some (.slice V (T.results (T.pairs op a b) k).length ec) := cell_of_row wr w1.heap.size 1 _ _ _ HBK.out
                    have y5f : ∀ j, wr.frozen? ⟨w1.heap.size, j, none⟩ = false := fun j => by simp [World.frozen?, HBK.out]
                    have z51 := (hbx.cell (p := ⟨w1.heap.size, 1, none⟩) hgl).trans y51
                    have z5f : ∀ j, w12.frozen? ⟨w1.heap.size, j, none⟩ = false := fun j => (hbx.frozen (p := ⟨w1.heap.size, j, none⟩) hgl).trans (y5f j)
                    have HR12 := Aside0.mk (Kd.R_below HRC.out hbx)
                    have HBX := Aside0.mk hbx
                    have HB12 := Aside0.mk hbw12
                    have HBK12 := Aside0.mk ((hbx.block w1.heap.size hgl).trans HBK.out)
                    have hgl12 : w1.heap.size < w12.heap.size := by have := hbx.size; omega
                    have hne0 := Aside0.mk (Kd.R_away HRC.out (g := w1.heap.size) (fun k hk => hk))
                    generalize hxs : T.results (T.pairs op a b) k = xs at HR12 HRC HBK12 hxl y51 z51 hne0
                    have HXS := Aside0.mk hxs
                    clear hxs y51 y5f hbx hbw12
                    go_wp2_with (at_builtin; (refine Kd.R_append kC w1.heap.size rfl (.tmp 115) (.tmp 117) 23 33 (.agg #[.int .i64 0, .int .i64 0, .slice none 0 0]) 40 rfl Try.underlying23 info_cell rfl (by decide) (by omega) (.slice V xs.length ec) xs (T.numc rn) _ (fun k => k ≠ w1.heap.size) (fun _ => False) rfl (by rw [World.size_alloc]; rfl) (M_num _ _ _ rn) (fun k hk => hk.elim) (fun k hk => by have := hgl12; simp at hk; omega) (Kd.R_alloc HR12.out _) (Below.refl _ _) (by simp; omega) (by omega) ?_); intro v1 w3 hR3 hb3 hg3 hat3; go_loud (obtain ⟨V1, ec1, rfl⟩ := Kd.R_slice hR3; have hg3' : ∀ q, q < w12.heap.size → some q ≠ (Value.slice V xs.length ec).ownBlock → w3.heap[q]? = w12.heap[q]? := fun q hq hne => (hg3.block q (by simp; omega) hne).trans (Below.heap_alloc _ _ _ hq); have hb5 := Aside0.mk ((hg3' _ hgl12 hne0.out).trans HBK12.out); have hcc1 : w3.cell? ⟨w1.heap.size, 1, none⟩ = some (.slice V xs.length ec) := (World.cell?_of_block (hg3' _ hgl12 hne0.out)).trans z51; have hfz : w3.frozen? ⟨w1.heap.size, 1, none⟩ = false := (frozen_block (hg3' _ hgl12 hne0.out)).trans (z5f 1); have hgl3 : w1.heap.size < w3.heap.size := (by have := hg3.size; simp at this; omega); have hz3 : w12.heap.size < w3.heap.size := (by have := hg3.size; simp at this; omega); replace hR3 := Aside0.mk hR3; replace hb3 := Aside0.mk hb3; clear hat3 hg3 hg3'))
                    refine ⟨⟨k + 1, by omega, by go_num, ⟨.slice V1 (xs.length + 1) ec1, ?_, ?_⟩, ⟨?_⟩, ⟨firstErr_succ her.out HR0.out⟩⟩, by simp [intOf]; omega⟩
                    · simp [World.setCell, Array.getElem?_modify, hb5.out]
                    · rw [← results_succ, HXS.out, HRN.out]
                      have h5 := Kd.R_far hR3.out (p := ⟨w1.heap.size, 1, none⟩) (fun _ h => h) (.slice V1 (xs.length + 1) ec1)
                      simpa using h5
                    · refine Below.setCell ?_ (by simp) _
                      exact (((hbl.out.trans (HBX.out.mono hbl.out.size)).alloc (Nat.le_of_lt hgl12) _).trans hb3.out)
                  · have z0 : ∀ o, (w12.alloc o).cell? ⟨w.heap.size + 1 + 1, 0, none⟩ = some (.slice none 0 0) := fun o => later ((hbx.cell (p := ⟨w.heap.size + 1 + 1, 0, none⟩) (by simp; omega)).trans Y20.out) o
                    have z1 : ∀ o, (w12.alloc o).cell? ⟨w.heap.size + 1 + 1, 1, none⟩ = some (.slice none 0 0) := fun o => later ((hbx.cell (p := ⟨w.heap.size + 1 + 1, 1, none⟩) (by simp; omega)).trans Y21.out) o
                    have zf : ∀ j o, (w12.alloc o).frozen? ⟨w.heap.size + 1 + 1, j, none⟩ = false := fun j o => (((Below.refl _ _).alloc (Nat.le_refl _) o).frozen (p := ⟨w.heap.size + 1 + 1, j, none⟩) (by simp; omega)).trans ((hbx.frozen (p := ⟨w.heap.size + 1 + 1, j, none⟩) (by simp; omega)).trans (YF.out j))
                    have hx1 : (re == 0) = false := by rw [beq_eq_false_iff_ne]; exact hr0
                    have hx2 : (re != 0) = true := by rw [bne_iff_ne]; exact hr0
                    have HRE := Aside0.mk (And.intro hre hr0)
                    have HB12 := Aside0.mk hbw12
                    clear hbx hbw12 hb12 hrn hre hr0
                    go_wp2_with fail
                    exact bodyPost_ret (v := .tuple #[.agg #[.slice none 0 0, .slice none 0 0], .int .i64 re]) (by simp only [results, Try.results53]; go_simp) rfl (new_none (by have h9 := firstErr_bad hlt her.out (by rw [HRE.out.1]; exact HRE.out.2); rw [HDY.out]; unfold T.cellsErr; rw [h9, HRE.out.1, if_pos HRE.out.2]) (by (repeat (refine Below.setCell ?_ (by first | (simp; done) | (simp; omega)) _)); exact below_alloc HB12.out _))
            · obtain rfl : ma = k := by omega
              clear y00 y01 y10 y11
              have HBL := hbl
              have hxl := Aside0.mk (results_len (T.pairs op a b) ma)
              generalize hxs : T.results (T.pairs op a b) ma = xs at HRC HBK hxl
              obtain ⟨V, ec, rfl⟩ := Kd.R_slice HRC.out
              have HX := Aside0.mk hxs
              have y50 : wr.cell? ⟨w1.heap.size, 0, none⟩ = some (.slice S0 S.length e0) := cell_of_row wr w1.heap.size 0 _ _ _ HBK.out
              have y51 : wr.cell? ⟨w1.heap.size, 1, none⟩ = some (.slice V xs.length ec) := cell_of_row wr w1.heap.size 1 _ _ _ HBK.out
              clear hxs
              go_wp2_with fail
              refine bodyPost_ret (v := .tuple #[.agg #[.slice S0 S.length e0, .slice V xs.length ec], .int .i64 0]) (by simp only [results, Try.results53]; go_simp) rfl ?_
              refine new_arr (s := S) (cs := xs) (by rw [HDY.out]; unfold T.cellsErr; rw [if_neg (by rw [her.out]; simp), HX.out]) hS0 ?_ ?_ ?_ ?_
              · exact (Kd.R_reads' HRC.out).2.1
              · refine Kd.F_mono (ok := fun k => zB ≤ k) ?_ (fun k hk => by have := HSZ4.out; omega)
                refine Kd.F_far (Kd.F_far (Kd.F_below HS.out HBL.out) ?_ _) ?_ _
                · intro k hk; have := HSZ4.out; simp; omega
                · intro k hk; have := HSZ4.out; simp; omega
              · have hst : ∀ q, w1.heap.size ≤ q → q < wr.heap.size → ((wr.setCell ⟨w.heap.size + 1 + 1, 0, none⟩ (.slice S0 S.length e0)).setCell ⟨w.heap.size + 1 + 1, 1, none⟩ (.slice V xs.length ec)).heap[q]? = wr.heap[q]? := fun q hq _ => by
                  repeat (refine (Below.heap_setCell _ _ _ _ (by simp; omega)).trans ?_)
                  rfl
                have h5 := R_stay HRC.out hst
                exact Kd.R_F (Kd.R_mono (Kd.R_bound h5) (fun k hk => Nat.le_trans (show w.heap.size ≤ w1.heap.size by omega) hk.2.1))
              · repeat (refine Below.setCell ?_ (by simp; omega) _)
                exact hbw.out
        · have hlt' : ma < mb := by omega
          clear hle
          go_wp2_with fail
          have HDY : Aside0 (T.dyS op a b = T.cellsErr (T.pairs op a b) S mb) := ⟨by
            unfold T.dyS
            rw [if_neg HA.out, if_neg HB.out, if_neg H54.out, if_neg HO.out, if_neg (fun h => h HAG.out), HSE.out, ← HNA.out, ← HMA.out, ← HMB.out]
            congr 1
            by_cases h : na = 0
            · rw [if_pos h]
            · exfalso
              by_cases h2 : nb = 0
              · have := hNb.out h2; omega
              · have := HEQ.out h h2; omega⟩
          have hl0 : Aside0 (∃ vc, (w1.alloc (.cells #[.slice S0 S.length e0, .slice none 0 0] 25)).heap[w1.heap.size]? = some (.cells #[.slice S0 S.length e0, vc] 25 (0, 0)) ∧ kC.R 33 (w1.alloc (.cells #[.slice S0 S.length e0, .slice none 0 0] 25)) w1.heap.size (fun k => k ≠ w1.heap.size) vc (T.results (T.pairs op a b) 0)) := ⟨_, heap_alloc_new' _ _ _ rfl, Kd.R_nil _ _ _ _ _⟩
          go_loopw [74] (fun i W => ∃ k : Nat, k ≤ mb ∧ i = .int .i64 k ∧ Aside0 (∃ vc, W.heap[w1.heap.size]? = some (.cells #[.slice S0 S.length e0, vc] 25 (0, 0)) ∧ kC.R 33 W w1.heap.size (fun k => k ≠ w1.heap.size) vc (T.results (T.pairs op a b) k)) ∧ Aside0 (Below w1.heap.size w1 W) ∧ Aside0 (T.firstErr (T.pairs op a b) k = 0)) (fun i _ => mb - (intOf i).toNat)
          case atStart => exact ⟨0, by omega, rfl, hl0, ⟨by (repeat (first | exact Below.refl _ _ | apply below_alloc | apply below_drew | apply pw_below_drewN))⟩, ⟨rfl⟩⟩
          case round =>
            clear hl0
            obtain ⟨k, hk, rfl, hown, hbl, her⟩ := hrel
            obtain ⟨vc, hblk, hRC⟩ := hown.out
            clear hown
            have HRC := Aside0.mk hRC
            have HBK := Aside0.mk hblk
            have hgl : w1.heap.size < wr.heap.size := (Array.getElem?_eq_some_iff.1 hblk).1
            clear hRC
            have hs12 : w.heap.size + 4 ≤ wr.heap.size := by omega
            have hbw : Aside0 (Below w.heap.size w wr) := ⟨hb1.out.trans (hbl.out.mono (by omega))⟩
            have y00 : wr.cell? ⟨w.heap.size, 0, none⟩ = some (.slice A0 na c0) := (hbl.out.cell (p := ⟨w.heap.size, 0, none⟩) (by simp <;> omega)).trans p00
            have y01 : wr.cell? ⟨w.heap.size, 1, none⟩ = some (.slice A1 ma c1) := (hbl.out.cell (p := ⟨w.heap.size, 1, none⟩) (by simp <;> omega)).trans p01
            have y10 : wr.cell? ⟨w.heap.size + 1, 0, none⟩ = some (.slice B0 nb d0) := (hbl.out.cell (p := ⟨w.heap.size + 1, 0, none⟩) (by simp <;> omega)).trans p10
            have y11 : wr.cell? ⟨w.heap.size + 1, 1, none⟩ = some (.slice B1 mb d1) := (hbl.out.cell (p := ⟨w.heap.size + 1, 1, none⟩) (by simp <;> omega)).trans p11
            have y20 : wr.cell? ⟨w.heap.size + 1 + 1, 0, none⟩ = some (.slice none 0 0) := (hbl.out.cell (p := ⟨w.heap.size + 1 + 1, 0, none⟩) (by simp <;> omega)).trans p20
            have y21 : wr.cell? ⟨w.heap.size + 1 + 1, 1, none⟩ = some (.slice none 0 0) := (hbl.out.cell (p := ⟨w.heap.size + 1 + 1, 1, none⟩) (by simp <;> omega)).trans p21
            have yf : ∀ j, wr.frozen? ⟨w.heap.size + 1 + 1, j, none⟩ = false := fun j => (hbl.out.frozen (p := ⟨w.heap.size + 1 + 1, j, none⟩) (by simp <;> omega)).trans (pf j)
            by_cases hlt : k < mb
            · obtain ⟨ada, AX, nx, ea, x0, x1, x2, lx, gx⟩ := at_cell (Kd.C_below GA1.out hbw.out) 0 (by rw [← HMA.out]; omega)
              obtain ⟨adb, BX, mx, eb, v0, v1, v2, lv, gv⟩ := at_cell (Kd.C_below GB1.out hbw.out) 0 (by rw [← HMB.out]; omega)
              rw [Nat.zero_mul, add_zero] at x0 x1 x2 v0 v1 v2
              subst ea eb
              generalize hxk : (a.cells.getD 0 zc).kind = xk at x0
              generalize hxn : (a.cells.getD 0 zc).n = xn at x1
              generalize hvk : (b.cells.getD 0 zc).kind = vk at v0
              generalize hvn : (b.cells.getD 0 zc).n = vn at v1
              have HX0 := Aside0.mk (And.intro hxk hxn)
              have HV0 := Aside0.mk (And.intro hvk hvn)
              have HX0i := Aside0.mk (show in64 xn by rw [← hxn]; exact (wfC_iff.1 ((wfA_iff.1 HWA.out).2.2.2 _ (getD_mem zc (by rw [← HMA.out]; omega)))).2.1)
              have HV0i := Aside0.mk (show in64 vn by rw [← hvn]; exact (wfC_iff.1 ((wfA_iff.1 HWB.out).2.2.2 _ (getD_mem zc (by rw [← HMB.out]; omega)))).2.1)
              clear hxk hxn hvk hvn
              generalize (a.cells.getD 0 zc).box.length = xl at x2
              generalize (b.cells.getD 0 zc).box.length = vl at v2
              clear lx gx lv gv
              have hma0 : (0 : Int) < (ma : Int) := by omega
              have hmb0 : (0 : Int) < (mb : Int) := by omega
              replace hbw := Aside0.mk hbw.out
              have hd : ∀ (p : Addr) (v : Value), wr.cell? p = some v → ∀ o, (wr.drew.alloc o).cell? p = some v := fun p v h o => later (W := wr.drew) h o
              have hd2 : ∀ (p : Addr) (v : Value), wr.cell? p = some v → ∀ o o', ((wr.drew.alloc o).alloc o').cell? p = some v := fun p v h o o' => later2 (W := wr.drew) h o o'
              have hlA := cell_lt x0
              have hlB := cell_lt v0
              have hl0 : w.heap.size < wr.heap.size := by omega
              have hl1 : w.heap.size + 1 < wr.heap.size := by omega
              have k0 := hd _ _ x0
              have k1 := hd _ _ x1
              have k2 := hd _ _ x2
              have k3 := hd _ _ v0
              have k4 := hd _ _ v1
              have k5 := hd _ _ v2
              have k6 := hd _ _ y01
              have k7 := hd _ _ y11
              have n0 := hd2 _ _ x0
              have n1 := hd2 _ _ x1
              have n2 := hd2 _ _ x2
              have n3 := hd2 _ _ v0
              have n4 := hd2 _ _ v1
              have n5 := hd2 _ _ v2
              have n6 := hd2 _ _ y01
              have n7 := hd2 _ _ y11
              clear hd hd2
              go_wp2_with fail
              refine start_ (n := 12) (S := fun w' => w'.cell? ⟨w.heap.size, 1, none⟩ = some (.slice (some ada) ma c1) ∧ w'.cell? ⟨w.heap.size + 1, 1, none⟩ = some (.slice (some adb) mb d1) ∧ w'.cell? ada = some (.int .i64 xk) ∧ w'.cell? ⟨ada.block, ada.off + 1, none⟩ = some (.int .i64 xn) ∧ w'.cell? ⟨ada.block, ada.off + 2, none⟩ = some (.slice AX xl nx) ∧ w'.cell? adb = some (.int .i64 vk) ∧ w'.cell? ⟨adb.block, adb.off + 1, none⟩ = some (.int .i64 vn) ∧ w'.cell? ⟨adb.block, adb.off + 2, none⟩ = some (.slice BX vl mx)) (ds := [11]) #[false, false, false, false, false, false, false, false, false, false, false, false] (by kernel_rfl) rfl rfl ⟨(by go_simp), (by go_simp), (by go_simp), (by go_simp), (by go_simp), (by go_simp), (by go_simp), (by go_simp)⟩ (fun hHeld => ?_)
              refine pure_ (i := 0) (N := some 77) (v := ?_) (a' := ?_) #[true, false, false, false, false, false, false, false, false, false, false, false] rfl rfl (by kernel_rfl) (fun _ _ _ h => h) (Or.inl ⟨by rfl, ?_⟩) ?_ ?_
              rotate_left
              · intro w'
                go_simp
                with_reducible rfl
              rotate_left
              · simp only [Act.put, List.setIfInBounds_toArray, List.set_cons_zero, List.set_cons_succ, i64_w, i32_w]
                rfl
              refine pure_ (i := 4) (N := some 81) (v := ?_) (a' := ?_) #[true, false, false, false, true, false, false, false, false, false, false, false] rfl rfl (by kernel_rfl) (fun _ _ _ h => h) (Or.inl ⟨by rfl, ?_⟩) ?_ ?_
              rotate_left
              · intro w'
                go_simp
                with_reducible rfl
              rotate_left
              · simp only [Act.put, List.setIfInBounds_toArray, List.set_cons_zero, List.set_cons_succ, i64_w, i32_w]
                rfl
              refine take_ (i := 1) (N := some 78) (v := ?_) (a' := ?_) #[true, true, false, false, true, false, false, false, false, false, false, false] rfl rfl (by kernel_rfl) (fun _ _ _ h => h) (Or.inl ⟨by rfl, ?_⟩) hHeld ?_ ?_
              rotate_left
              · rintro w' ⟨s0, s1, s2, s3, s4, s5, s6, s7⟩
                go_simp
                with_reducible rfl
              rotate_left
              · simp only [Act.put, List.setIfInBounds_toArray, List.set_cons_zero, List.set_cons_succ, i64_w, i32_w]
                rfl
              refine pure_ (i := 2) (N := some 79) (v := ?_) (a' := ?_) #[true, true, true, false, true, false, false, false, false, false, false, false] rfl rfl (by kernel_rfl) (fun _ _ _ h => h) (Or.inl ⟨by rfl, ?_⟩) ?_ ?_
              rotate_left
              · intro w'
                go_simp
                with_reducible rfl
              rotate_left
              · simp only [Act.put, List.setIfInBounds_toArray, List.set_cons_zero, List.set_cons_succ, i64_w, i32_w]
                rfl
              refine take_ (i := 3) (N := some 80) (v := ?_) (a' := ?_) #[true, true, true, true, true, false, false, false, false, false, false, false] rfl rfl (by kernel_rfl) (fun _ _ _ h => h) (Or.inl ⟨by rfl, ?_⟩) hHeld ?_ ?_
              rotate_left
              · rintro w' ⟨s0, s1, s2, s3, s4, s5, s6, s7⟩
                go_simp
                with_reducible rfl
              rotate_left
              · simp only [Act.put, List.setIfInBounds_toArray, List.set_cons_zero, List.set_cons_succ, i64_w, i32_w]
                rfl
              refine take_ (i := 5) (N := some 82) (v := ?_) (a' := ?_) #[true, true, true, true, true, true, false, false, false, false, false, false] rfl rfl (by kernel_rfl) (fun _ _ _ h => h) (Or.inl ⟨by rfl, ?_⟩) hHeld ?_ ?_
              rotate_left
              · rintro w' ⟨s0, s1, s2, s3, s4, s5, s6, s7⟩
                go_simp
                with_reducible rfl
              rotate_left
              · simp only [Act.put, List.setIfInBounds_toArray, List.set_cons_zero, List.set_cons_succ, i64_w, i32_w]
                rfl
              refine pure_ (i := 6) (N := some 83) (v := ?_) (a' := ?_) #[true, true, true, true, true, true, true, false, false, false, false, false] rfl rfl (by kernel_rfl) (fun _ _ _ h => h) (Or.inl ⟨by rfl, ?_⟩) ?_ ?_
              rotate_left
              · intro w'
                go_simp
                with_reducible rfl
              rotate_left
              · simp only [Act.put, List.setIfInBounds_toArray, List.set_cons_zero, List.set_cons_succ, i64_w, i32_w]
                rfl
              refine take_ (i := 7) (N := some 84) (v := ?_) (a' := ?_) #[true, true, true, true, true, true, true, true, false, false, false, false] rfl rfl (by kernel_rfl) (fun _ _ _ h => h) (Or.inl ⟨by rfl, ?_⟩) hHeld ?_ ?_
              rotate_left
              · rintro w' ⟨s0, s1, s2, s3, s4, s5, s6, s7⟩
                go_simp
                with_reducible rfl
              rotate_left
              · simp only [Act.put, List.setIfInBounds_toArray, List.set_cons_zero, List.set_cons_succ, i64_w, i32_w]
                rfl
              refine join_ (σ := Nat × Nat) 2 #[true, true, true, true, true, true, true, true, true, true, false, false] (fun s => [(16, Value.pointer (some ⟨s.1, 0, none⟩)), (17, Value.pointer (some ⟨s.2, 0, none⟩))]) (fun s w' => Aside0 (Below wr.heap.size wr w') ∧ s.1 ≠ s.2 ∧ wr.heap.size ≤ s.1 ∧ wr.heap.size ≤ s.2 ∧ s.1 < w'.heap.size ∧ s.2 < w'.heap.size ∧ w'.cell? ⟨s.1, 0, none⟩ = some (.int .i64 0) ∧ w'.cell? ⟨s.1, 1, none⟩ = some (.int .i64 0) ∧ w'.cell? ⟨s.1, 2, none⟩ = some (.slice none 0 0) ∧ w'.cell? ⟨s.2, 0, none⟩ = some (.int .i64 0) ∧ w'.cell? ⟨s.2, 1, none⟩ = some (.int .i64 0) ∧ w'.cell? ⟨s.2, 2, none⟩ = some (.slice none 0 0) ∧ (∀ j, w'.frozen? ⟨s.1, j, none⟩ = false) ∧ (∀ j, w'.frozen? ⟨s.2, j, none⟩ = false) ∧ (w'.cell? ⟨w.heap.size, 1, none⟩ = some (.slice (some ada) ma c1) ∧ w'.cell? ⟨w.heap.size + 1, 1, none⟩ = some (.slice (some adb) mb d1) ∧ w'.cell? ada = some (.int .i64 xk) ∧ w'.cell? ⟨ada.block, ada.off + 1, none⟩ = some (.int .i64 xn) ∧ w'.cell? ⟨ada.block, ada.off + 2, none⟩ = some (.slice AX xl nx) ∧ w'.cell? adb = some (.int .i64 vk) ∧ w'.cell? ⟨adb.block, adb.off + 1, none⟩ = some (.int .i64 vn) ∧ w'.cell? ⟨adb.block, adb.off + 2, none⟩ = some (.slice BX vl mx))) ?_ ?_
              rotate_left
              · intro hCont
                refine two_ (i := 8) (j := 9) (Ni := some 16) (Nj := some 17) #[true, true, true, true, true, true, true, true, true, false, false, false] #[true, true, true, true, true, true, true, true, false, true, false, false] rfl rfl rfl rfl (by kernel_rfl) (by decide) (by decide) (fun K hK => ?_) (fun K hK => ?_)
                · skip
                  refine value_ (w1 := ?_) (v := ?_) (by rfl) rfl ?_ ?_
                  rotate_left 2
                  · go_simp
                    constructor
                    · rfl
                    · rfl
                  refine hK.out _ _ ⟨(by go_simp), (by go_simp), (by go_simp), (by go_simp), (by go_simp), (by go_simp), (by go_simp), (by go_simp)⟩ (fun hHeld => ?_)
                  clear hK K
                  refine norm_ (a' := ?_) ?_ ?_
                  rotate_left
                  · show Act.put _ (some 16) _ = _
                    simp only [Act.put, List.setIfInBounds_toArray, List.set_cons_zero, List.set_cons_succ, i64_w, i32_w]
                    rfl
                  refine one_ (i := 9) (N := some 17) #[true, true, true, true, true, true, true, true, true, true, false, false] rfl rfl (by kernel_rfl) (by decide) (fun K hK => ?_)
                  refine value_ (w1 := ?_) (v := ?_) (by rfl) rfl ?_ ?_
                  rotate_left 2
                  · go_simp
                    constructor
                    · rfl
                    · rfl
                  refine hK.out _ _ ⟨(by go_simp), (by go_simp), (by go_simp), (by go_simp), (by go_simp), (by go_simp), (by go_simp), (by go_simp)⟩ (fun hHeld => ?_)
                  clear hK K
                  refine norm_ (a' := ?_) ?_ ?_
                  rotate_left
                  · show Act.put _ (some 17) _ = _
                    simp only [Act.put, List.setIfInBounds_toArray, List.set_cons_zero, List.set_cons_succ, i64_w, i32_w]
                    rfl
                  exact norm_ (by simp only [putAll, Act.put, List.setIfInBounds_toArray, List.set_cons_zero, List.set_cons_succ]) (hCont (wr.heap.size, wr.heap.size + 1) _ ⟨⟨by (repeat (first | exact Below.refl _ _ | apply below_alloc | apply below_drew | apply pw_below_drewN))⟩, by simp, by simp, by simp, by first | (simp; done) | (simp; omega), by first | (simp; done) | (simp; omega), by go_simp, by go_simp, by go_simp, by go_simp, by go_simp, by go_simp, by intro j; go_simp, by intro j; go_simp, hHeld⟩)
                · skip
                  refine value_ (w1 := ?_) (v := ?_) (by rfl) rfl ?_ ?_
                  rotate_left 2
                  · go_simp
                    constructor
                    · rfl
                    · rfl
                  refine hK.out _ _ ⟨(by go_simp), (by go_simp), (by go_simp), (by go_simp), (by go_simp), (by go_simp), (by go_simp), (by go_simp)⟩ (fun hHeld => ?_)
                  clear hK K
                  refine norm_ (a' := ?_) ?_ ?_
                  rotate_left
                  · show Act.put _ (some 17) _ = _
                    simp only [Act.put, List.setIfInBounds_toArray, List.set_cons_zero, List.set_cons_succ, i64_w, i32_w]
                    rfl
                  refine one_ (i := 8) (N := some 16) #[true, true, true, true, true, true, true, true, true, true, false, false] rfl rfl (by kernel_rfl) (by decide) (fun K hK => ?_)
                  refine value_ (w1 := ?_) (v := ?_) (by rfl) rfl ?_ ?_
                  rotate_left 2
                  · go_simp
                    constructor
                    · rfl
                    · rfl
                  refine hK.out _ _ ⟨(by go_simp), (by go_simp), (by go_simp), (by go_simp), (by go_simp), (by go_simp), (by go_simp), (by go_simp)⟩ (fun hHeld => ?_)
                  clear hK K
                  refine norm_ (a' := ?_) ?_ ?_
                  rotate_left
                  · show Act.put _ (some 16) _ = _
                    simp only [Act.put, List.setIfInBounds_toArray, List.set_cons_zero, List.set_cons_succ, i64_w, i32_w]
                    rfl
                  exact norm_ (by simp only [putAll, Act.put, List.setIfInBounds_toArray, List.set_cons_zero, List.set_cons_succ]) (hCont (wr.heap.size + 1, wr.heap.size) _ ⟨⟨by (repeat (first | exact Below.refl _ _ | apply below_alloc | apply below_drew | apply pw_below_drewN))⟩, by simp, by simp, by simp, by first | (simp; done) | (simp; omega), by first | (simp; done) | (simp; omega), by go_simp, by go_simp, by go_simp, by go_simp, by go_simp, by go_simp, by intro j; go_simp, by intro j; go_simp, hHeld⟩)
              rintro ⟨p, q⟩ w9 ⟨hb9, hpq, hp0, hq0, hp1, hq1, e0_, e1_, e2_, e3_, e4_, e5_, ef0, ef1, hHeld⟩
              have hpn : ∀ q, q < wr.heap.size → p ≠ q := fun q h => by simp only at hp0; omega
              simp only at hpq hp0 hq0 hp1 hq1 e0_ e1_ e2_ e3_ e4_ e5_ ef0 ef1
              refine norm_ (a' := ?_) ?_ ?_
              rotate_left
              · simp only [putAll, Act.put, List.setIfInBounds_toArray, List.set_cons_zero, List.set_cons_succ]
                rfl
              refine one_ (i := 10) (N := none) #[true, true, true, true, true, true, true, true, true, true, true, false] rfl rfl (by kernel_rfl) (by decide) (fun K hK => ?_)
              refine skip_ (w1 := ?_) (by rfl) rfl ?_ ?_
              rotate_left
              · go_simp
                rfl
              refine hK.out _ _ ⟨cell_set (cell_set (cell_set hHeld.1 (hpn _ hl0)) (hpn _ hl0)) (hpn _ hl0), cell_set (cell_set (cell_set hHeld.2.1 (hpn _ hl1)) (hpn _ hl1)) (hpn _ hl1), cell_set (cell_set (cell_set hHeld.2.2.1 (hpn _ hlA)) (hpn _ hlA)) (hpn _ hlA), cell_set (cell_set (cell_set hHeld.2.2.2.1 (hpn _ hlA)) (hpn _ hlA)) (hpn _ hlA), cell_set (cell_set (cell_set hHeld.2.2.2.2.1 (hpn _ hlA)) (hpn _ hlA)) (hpn _ hlA), cell_set (cell_set (cell_set hHeld.2.2.2.2.2.1 (hpn _ hlB)) (hpn _ hlB)) (hpn _ hlB), cell_set (cell_set (cell_set hHeld.2.2.2.2.2.2.1 (hpn _ hlB)) (hpn _ hlB)) (hpn _ hlB), cell_set (cell_set (cell_set hHeld.2.2.2.2.2.2.2 (hpn _ hlB)) (hpn _ hlB)) (hpn _ hlB)⟩ (fun hHeld => ?_)
              clear hK K
              refine last_ (i := 11) (N := none) #[true, true, true, true, true, true, true, true, true, true, true, true] rfl rfl (by kernel_rfl) (by decide) (fun K hK => ?_)
              refine skip_ (w1 := ?_) (by rfl) rfl ?_ ?_
              rotate_left
              · go_simp
                rfl
              refine hK.out _ _ ?_
              clear hK K
              refine done_ (by kernel_rfl) ?_
              have hsl : ∀ (x : Addr) (v : Value), x.block < wr.heap.size → wr.cell? x = some v → w9.cell? x = some v := fun x v hx h => (hb9.out.cell hx).trans h
              obtain ⟨t0, t1, t2, ts, tf, tz, tb⟩ := set3 (.int .i64 xk) (.int .i64 xn) (.slice AX xl nx) e0_ e1_ e2_
              obtain ⟨r0, r1, r2, rs, rf, rz, rb⟩ := set3 (.int .i64 vk) (.int .i64 vn) (.slice BX vl mx) (ts _ _ (fun e => hpq e.symm) e3_) (ts _ _ (fun e => hpq e.symm) e4_) (ts _ _ (fun e => hpq e.symm) e5_)
              replace t0 := rs _ _ hpq t0
              replace t1 := rs _ _ hpq t1
              replace t2 := rs _ _ hpq t2
              have hb10 := rb _ _ hq0 (tb _ _ hp0 hb9.out)
              have gf0 : ∀ j, _ := fun j => (rf ⟨p, j, none⟩).trans ((tf ⟨p, j, none⟩).trans (ef0 j))
              have gf1 : ∀ j, _ := fun j => (rf ⟨q, j, none⟩).trans ((tf ⟨q, j, none⟩).trans (ef1 j))
              have hz10 := rz.trans tz
              clear ts tf tz tb rs rf rz rb hsl hHeld
              generalize hW10 : ((((((w9.setCell ⟨p, 0, none⟩ (.int .i64 xk)).setCell ⟨p, 1, none⟩ (.int .i64 xn)).setCell ⟨p, 2, none⟩ (.slice AX xl nx)).setCell ⟨q, 0, none⟩ (.int .i64 vk)).setCell ⟨q, 1, none⟩ (.int .i64 vn)).setCell ⟨q, 2, none⟩ (.slice BX vl mx)) = W10 at t0 t1 t2 r0 r1 r2 hb10 gf0 gf1 hz10 ⊢
              clear hW10
              have hbw1 : Below w.heap.size w W10 := hbw.out.trans (hb10.mono (by omega))
              have f00 : W10.cell? ⟨w.heap.size, 0, none⟩ = some (.slice A0 na c0) := (hb10.cell (p := ⟨w.heap.size, 0, none⟩) (by simp <;> omega)).trans y00
              have f01 : W10.cell? ⟨w.heap.size, 1, none⟩ = some (.slice (some ada) ma c1) := (hb10.cell (p := ⟨w.heap.size, 1, none⟩) (by simp <;> omega)).trans y01
              have f10 : W10.cell? ⟨w.heap.size + 1, 0, none⟩ = some (.slice B0 nb d0) := (hb10.cell (p := ⟨w.heap.size + 1, 0, none⟩) (by simp <;> omega)).trans y10
              have f11 : W10.cell? ⟨w.heap.size + 1, 1, none⟩ = some (.slice (some adb) mb d1) := (hb10.cell (p := ⟨w.heap.size + 1, 1, none⟩) (by simp <;> omega)).trans y11
              have f20 : W10.cell? ⟨w.heap.size + 1 + 1, 0, none⟩ = some (.slice none 0 0) := (hb10.cell (p := ⟨w.heap.size + 1 + 1, 0, none⟩) (by simp <;> omega)).trans y20
              have f21 : W10.cell? ⟨w.heap.size + 1 + 1, 1, none⟩ = some (.slice none 0 0) := (hb10.cell (p := ⟨w.heap.size + 1 + 1, 1, none⟩) (by simp <;> omega)).trans y21
              have ff : ∀ j, W10.frozen? ⟨w.heap.size + 1 + 1, j, none⟩ = false := fun j => (hb10.frozen (p := ⟨w.heap.size + 1 + 1, j, none⟩) (by simp <;> omega)).trans (yf j)
              have Y20 := Aside0.mk y20
              have Y21 := Aside0.mk y21
              have YF := Aside0.mk yf
              clear y00 y01 y10 y11 y20 y21 yf x0 x1 x2 v0 v1 v2 k0 k1 k2 k3 k4 k5 k6 k7 n0 n1 n2 n3 n4 n5 n6 n7 e0_ e1_ e2_ e3_ e4_ e5_ ef0 ef1 hb9
              have HB10 := Aside0.mk hb10
              have HBW1 := Aside0.mk hbw1
              clear hb10 hbw1
              have hkB : nb ≠ 0 → k < mb := fun hb0 => by
                by_cases h : na = 0
                · have := hNa.out h; omega
                · have := HEQ.out h hb0; omega
              have hkA : na ≠ 0 → k < ma := fun ha0 => by
                by_cases h : nb = 0
                · have := hNb.out h; omega
                · have := HEQ.out ha0 h; omega
              by_cases hna : na = 0
              · have tA : decide ((0 : Int) < (na : Int)) = false := by simp; omega
                have tA2 : decide (0 < na) = false := by simp; omega
                have HN0 := Aside0.mk hna
                clear hna hkA
                by_cases hnb : nb = 0
                · have tB : decide ((0 : Int) < (nb : Int)) = false := by simp; omega
                  have tB2 : decide (0 < nb) = false := by simp; omega
                  have HM0 := Aside0.mk hnb
                  clear hnb hkB
                  go_wp2_with fail
                  have hP : Aside0 (T.dyC op xk xn vk vn = T.pairs op a b k) := ⟨by unfold T.pairs; rw [beside_atom (by rw [← HNA.out]; exact HN0.out), beside_atom (by rw [← HNB.out]; exact HM0.out), (HX0.out).1, (HX0.out).2, (HV0.out).1, (HV0.out).2]⟩
                  refine (atCell_calls op xk xn vk vn _ _ _ HX0i.out HV0i.out).mono ?_
                  rintro e w12 ⟨rfl, hb12⟩
                  rw [hP.out]
                  have hbx : Below wr.heap.size wr w12 := (HB10.out).trans (hb12.mono (Aside0.out ⟨(HB10.out).size⟩))
                  have hz12 : w.heap.size + 4 ≤ w12.heap.size := by have := hbx.size; omega
                  have hbw12 : Below w.heap.size w w12 := hbw.out.trans (hbx.mono (by omega))
                  generalize hrn : (T.pairs op a b k).1 = rn
                  generalize hre : (T.pairs op a b k).2 = re
                  by_cases hr0 : re = 0
                  · have HR0 := Aside0.mk (show (T.pairs op a b k).2 = 0 by rw [hre]; exact hr0)
                    have HRN := Aside0.mk hrn
                    subst hr0
                    clear hre hrn
                    obtain ⟨V, ec, rfl⟩ := Kd.R_slice HRC.out
                    have hxl : (T.results (T.pairs op a b) k).length ≤ 16384 := by rw [results_len]; omega
                    have y51 : wr.cell? ⟨w1.heap.size, 1, none⟩ = some (.slice V (T.results (T.pairs op a b) k).length ec) := cell_of_row wr w1.heap.size 1 _ _ _ HBK.out
                    have y5f : ∀ j, wr.frozen? ⟨w1.heap.size, j, none⟩ = false := fun j => by simp [World.frozen?, HBK.out]
                    have z51 := (hbx.cell (p := ⟨w1.heap.size, 1, none⟩) hgl).trans y51
                    have z5f : ∀ j, w12.frozen? ⟨w1.heap.size, j, none⟩ = false := fun j => (hbx.frozen (p := ⟨w1.heap.size, j, none⟩) hgl).trans (y5f j)
                    have HR12 := Aside0.mk (Kd.R_below HRC.out hbx)
                    have HBX := Aside0.mk hbx
                    have HB12 := Aside0.mk hbw12
                    have HBK12 := Aside0.mk ((hbx.block w1.heap.size hgl).trans HBK.out)
                    have hgl12 : w1.heap.size < w12.heap.size := by have := hbx.size; omega
                    have hne0 := Aside0.mk (Kd.R_away HRC.out (g := w1.heap.size) (fun k hk => hk))
                    generalize hxs : T.results (T.pairs op a b) k = xs at HR12 HRC HBK12 hxl y51 z51 hne0
                    have HXS := Aside0.mk hxs
                    clear hxs y51 y5f hbx hbw12
                    go_wp2_with (at_builtin; (refine Kd.R_append kC w1.heap.size rfl (.tmp 115) (.tmp 117) 23 33 (.agg #[.int .i64 0, .int .i64 0, .slice none 0 0]) 40 rfl Try.underlying23 info_cell rfl (by decide) (by omega) (.slice V xs.length ec) xs (T.numc rn) _ (fun k => k ≠ w1.heap.size) (fun _ => False) rfl (by rw [World.size_alloc]; rfl) (M_num _ _ _ rn) (fun k hk => hk.elim) (fun k hk => by have := hgl12; simp at hk; omega) (Kd.R_alloc HR12.out _) (Below.refl _ _) (by simp; omega) (by omega) ?_); intro v1 w3 hR3 hb3 hg3 hat3; go_loud (obtain ⟨V1, ec1, rfl⟩ := Kd.R_slice hR3; have hg3' : ∀ q, q < w12.heap.size → some q ≠ (Value.slice V xs.length ec).ownBlock → w3.heap[q]? = w12.heap[q]? := fun q hq hne => (hg3.block q (by simp; omega) hne).trans (Below.heap_alloc _ _ _ hq); have hb5 := Aside0.mk ((hg3' _ hgl12 hne0.out).trans HBK12.out); have hcc1 : w3.cell? ⟨w1.heap.size, 1, none⟩ = some (.slice V xs.length ec) := (World.cell?_of_block (hg3' _ hgl12 hne0.out)).trans z51; have hfz : w3.frozen? ⟨w1.heap.size, 1, none⟩ = false := (frozen_block (hg3' _ hgl12 hne0.out)).trans (z5f 1); have hgl3 : w1.heap.size < w3.heap.size := (by have := hg3.size; simp at this; omega); have hz3 : w12.heap.size < w3.heap.size := (by have := hg3.size; simp at this; omega); replace hR3 := Aside0.mk hR3; replace hb3 := Aside0.mk hb3; clear hat3 hg3 hg3'))
                    refine ⟨⟨k + 1, by omega, by go_num, ⟨.slice V1 (xs.length + 1) ec1, ?_, ?_⟩, ⟨?_⟩, ⟨firstErr_succ her.out HR0.out⟩⟩, by simp [intOf]; omega⟩
                    · simp [World.setCell, Array.getElem?_modify, hb5.out]
                    · rw [← results_succ, HXS.out, HRN.out]
                      have h5 := Kd.R_far hR3.out (p := ⟨w1.heap.size, 1, none⟩) (fun _ h => h) (.slice V1 (xs.length + 1) ec1)
                      simpa using h5
                    · refine Below.setCell ?_ (by simp) _
                      exact (((hbl.out.trans (HBX.out.mono hbl.out.size)).alloc (Nat.le_of_lt hgl12) _).trans hb3.out)
                  · have z0 : ∀ o, (w12.alloc o).cell? ⟨w.heap.size + 1 + 1, 0, none⟩ = some (.slice none 0 0) := fun o => later ((hbx.cell (p := ⟨w.heap.size + 1 + 1, 0, none⟩) (by simp; omega)).trans Y20.out) o
                    have z1 : ∀ o, (w12.alloc o).cell? ⟨w.heap.size + 1 + 1, 1, none⟩ = some (.slice none 0 0) := fun o => later ((hbx.cell (p := ⟨w.heap.size + 1 + 1, 1, none⟩) (by simp; omega)).trans Y21.out) o
                    have zf : ∀ j o, (w12.alloc o).frozen? ⟨w.heap.size + 1 + 1, j, none⟩ = false := fun j o => (((Below.refl _ _).alloc (Nat.le_refl _) o).frozen (p := ⟨w.heap.size + 1 + 1, j, none⟩) (by simp; omega)).trans ((hbx.frozen (p := ⟨w.heap.size + 1 + 1, j, none⟩) (by simp; omega)).trans (YF.out j))
                    have hx1 : (re == 0) = false := by rw [beq_eq_false_iff_ne]; exact hr0
                    have hx2 : (re != 0) = true := by rw [bne_iff_ne]; exact hr0
                    have HRE := Aside0.mk (And.intro hre hr0)
                    have HB12 := Aside0.mk hbw12
                    clear hbx hbw12 hb12 hrn hre hr0
                    go_wp2_with fail
                    exact bodyPost_ret (v := .tuple #[.agg #[.slice none 0 0, .slice none 0 0], .int .i64 re]) (by simp only [results, Try.results53]; go_simp) rfl (new_none (by have h9 := firstErr_bad hlt her.out (by rw [HRE.out.1]; exact HRE.out.2); rw [HDY.out]; unfold T.cellsErr; rw [h9, HRE.out.1, if_pos HRE.out.2]) (by (repeat (refine Below.setCell ?_ (by first | (simp; done) | (simp; omega)) _)); exact below_alloc HB12.out _))
                · have tB : decide ((0 : Int) < (nb : Int)) = true := by simp; omega
                  have tB2 : decide (0 < nb) = true := by simp; omega
                  have hnb1 : (0 : Int) < (nb : Int) := by omega
                  have HM0 := Aside0.mk hnb
                  have hkB1 := hkB hnb
                  have hkB3 : (k : Int) < (mb : Int) := by omega
                  clear hnb hkB
                  obtain ⟨ad2, AZ, mz1, eb1, b0_, b1_, b2_, lb_, gb_⟩ := at_cell (Kd.C_below GB1.out HBW1.out) k (by rw [← HMB.out]; exact hkB1)
                  obtain rfl := Option.some.inj eb1
                  generalize hxk : (b.cells.getD k zc).kind = zk at b0_
                  generalize hxn : (b.cells.getD k zc).n = zn at b1_
                  have HZ0 := Aside0.mk (And.intro hxk hxn)
                  have HZ0i := Aside0.mk (show in64 zn by rw [← hxn]; exact (wfC_iff.1 ((wfA_iff.1 HWB.out).2.2.2 _ (getD_mem zc (by rw [← HMB.out]; exact hkB1)))).2.1)
                  clear hxk hxn
                  generalize (b.cells.getD k zc).box.length = zl at b2_
                  clear lb_ gb_
                  obtain ⟨s0, s1, s2, ss, sf, sz2, sb⟩ := set3 (.int .i64 zk) (.int .i64 zn) (.slice AZ zl mz1) r0 r1 r2
                  have kt0 := ss _ _ hpq t0
                  have kt1 := ss _ _ hpq t1
                  have kt2 := ss _ _ hpq t2
                  have hb12_ := sb _ _ hq0 HB10.out
                  clear ss sf sb
                  go_upto_region 27 with (fail)
                  generalize hW12 : (((W10.setCell ⟨q, 0, none⟩ (.int .i64 zk)).setCell ⟨q, 1, none⟩ (.int .i64 zn)).setCell ⟨q, 2, none⟩ (.slice AZ zl mz1)) = W12 at s0 s1 s2 kt0 kt1 kt2 hb12_ sz2 ⊢
                  clear hW12 t0 t1 t2 r0 r1 r2 gf0 gf1 f10 f11 b0_ b1_ b2_
                  have HB12_ := Aside0.mk hb12_
                  clear hb12_
                  go_wp2_with fail
                  have hP : Aside0 (T.dyC op xk xn zk zn = T.pairs op a b k) := ⟨by unfold T.pairs; rw [beside_atom (by rw [← HNA.out]; exact HN0.out), beside_at (by rw [← HNB.out]; exact HM0.out), (HX0.out).1, (HX0.out).2, (HZ0.out).1, (HZ0.out).2]⟩
                  refine (atCell_calls op xk xn zk zn _ _ _ HX0i.out HZ0i.out).mono ?_
                  rintro e w12 ⟨rfl, hb12⟩
                  rw [hP.out]
                  have hbx : Below wr.heap.size wr w12 := (HB12_.out).trans (hb12.mono (Aside0.out ⟨(HB12_.out).size⟩))
                  have hz12 : w.heap.size + 4 ≤ w12.heap.size := by have := hbx.size; omega
                  have hbw12 : Below w.heap.size w w12 := hbw.out.trans (hbx.mono (by omega))
                  generalize hrn : (T.pairs op a b k).1 = rn
                  generalize hre : (T.pairs op a b k).2 = re
                  by_cases hr0 : re = 0
                  · have HR0 := Aside0.mk (show (T.pairs op a b k).2 = 0 by rw [hre]; exact hr0)
                    have HRN := Aside0.mk hrn
                    subst hr0
                    clear hre hrn
                    obtain ⟨V, ec, rfl⟩ := Kd.R_slice HRC.out
                    have hxl : (T.results (T.pairs op a b) k).length ≤ 16384 := by rw [results_len]; omega
                    have y51 : wr.cell? ⟨w1.heap.size, 1, none⟩ = some (.slice V (T.results (T.pairs op a b) k).length ec) := cell_of_row wr w1.heap.size 1 _ _ _ HBK.out
                    have y5f : ∀ j, wr.frozen? ⟨w1.heap.size, j, none⟩ = false := fun j => by simp [World.frozen?, HBK.out]
                    have z51 := (hbx.cell (p := ⟨w1.heap.size, 1, none⟩) hgl).trans y51
                    have z5f : ∀ j, w12.frozen? ⟨w1.heap.size, j, none⟩ = false := fun j => (hbx.frozen (p := ⟨w1.heap.size, j, none⟩) hgl).trans (y5f j)
                    have HR12 := Aside0.mk (Kd.R_below HRC.out hbx)
                    have HBX := Aside0.mk hbx
                    have HB12 := Aside0.mk hbw12
                    have HBK12 := Aside0.mk ((hbx.block w1.heap.size hgl).trans HBK.out)
                    have hgl12 : w1.heap.size < w12.heap.size := by have := hbx.size; omega
                    have hne0 := Aside0.mk (Kd.R_away HRC.out (g := w1.heap.size) (fun k hk => hk))
                    generalize hxs : T.results (T.pairs op a b) k = xs at HR12 HRC HBK12 hxl y51 z51 hne0
                    have HXS := Aside0.mk hxs
                    clear hxs y51 y5f hbx hbw12
                    go_wp2_with (at_builtin; (refine Kd.R_append kC w1.heap.size rfl (.tmp 115) (.tmp 117) 23 33 (.agg #[.int .i64 0, .int .i64 0, .slice none 0 0]) 40 rfl Try.underlying23 info_cell rfl (by decide) (by omega) (.slice V xs.length ec) xs (T.numc rn) _ (fun k => k ≠ w1.heap.size) (fun _ => False) rfl (by rw [World.size_alloc]; rfl) (M_num _ _ _ rn) (fun k hk => hk.elim) (fun k hk => by have := hgl12; simp at hk; omega) (Kd.R_alloc HR12.out _) (Below.refl _ _) (by simp; omega) (by omega) ?_); intro v1 w3 hR3 hb3 hg3 hat3; go_loud (obtain ⟨V1, ec1, rfl⟩ := Kd.R_slice hR3; have hg3' : ∀ q, q < w12.heap.size → some q ≠ (Value.slice V xs.length ec).ownBlock → w3.heap[q]? = w12.heap[q]? := fun q hq hne => (hg3.block q (by simp; omega) hne).trans (Below.heap_alloc _ _ _ hq); have hb5 := Aside0.mk ((hg3' _ hgl12 hne0.out).trans HBK12.out); have hcc1 : w3.cell? ⟨w1.heap.size, 1, none⟩ = some (.slice V xs.length ec) := (World.cell?_of_block (hg3' _ hgl12 hne0.out)).trans z51; have hfz : w3.frozen? ⟨w1.heap.size, 1, none⟩ = false := (frozen_block (hg3' _ hgl12 hne0.out)).trans (z5f 1); have hgl3 : w1.heap.size < w3.heap.size := (by have := hg3.size; simp at this; omega); have hz3 : w12.heap.size < w3.heap.size := (by have := hg3.size; simp at this; omega); replace hR3 := Aside0.mk hR3; replace hb3 := Aside0.mk hb3; clear hat3 hg3 hg3'))
                    refine ⟨⟨k + 1, by omega, by go_num, ⟨.slice V1 (xs.length + 1) ec1, ?_, ?_⟩, ⟨?_⟩, ⟨firstErr_succ her.out HR0.out⟩⟩, by simp [intOf]; omega⟩
                    · simp [World.setCell, Array.getElem?_modify, hb5.out]
                    · rw [← results_succ, HXS.out, HRN.out]
                      have h5 := Kd.R_far hR3.out (p := ⟨w1.heap.size, 1, none⟩) (fun _ h => h) (.slice V1 (xs.length + 1) ec1)
                      simpa using h5
                    · refine Below.setCell ?_ (by simp) _
                      exact (((hbl.out.trans (HBX.out.mono hbl.out.size)).alloc (Nat.le_of_lt hgl12) _).trans hb3.out)
                  · have z0 : ∀ o, (w12.alloc o).cell? ⟨w.heap.size + 1 + 1, 0, none⟩ = some (.slice none 0 0) := fun o => later ((hbx.cell (p := ⟨w.heap.size + 1 + 1, 0, none⟩) (by simp; omega)).trans Y20.out) o
                    have z1 : ∀ o, (w12.alloc o).cell? ⟨w.heap.size + 1 + 1, 1, none⟩ = some (.slice none 0 0) := fun o => later ((hbx.cell (p := ⟨w.heap.size + 1 + 1, 1, none⟩) (by simp; omega)).trans Y21.out) o
                    have zf : ∀ j o, (w12.alloc o).frozen? ⟨w.heap.size + 1 + 1, j, none⟩ = false := fun j o => (((Below.refl _ _).alloc (Nat.le_refl _) o).frozen (p := ⟨w.heap.size + 1 + 1, j, none⟩) (by simp; omega)).trans ((hbx.frozen (p := ⟨w.heap.size + 1 + 1, j, none⟩) (by simp; omega)).trans (YF.out j))
                    have hx1 : (re == 0) = false := by rw [beq_eq_false_iff_ne]; exact hr0
                    have hx2 : (re != 0) = true := by rw [bne_iff_ne]; exact hr0
                    have HRE := Aside0.mk (And.intro hre hr0)
                    have HB12 := Aside0.mk hbw12
                    clear hbx hbw12 hb12 hrn hre hr0
                    go_wp2_with fail
                    exact bodyPost_ret (v := .tuple #[.agg #[.slice none 0 0, .slice none 0 0], .int .i64 re]) (by simp only [results, Try.results53]; go_simp) rfl (new_none (by have h9 := firstErr_bad hlt her.out (by rw [HRE.out.1]; exact HRE.out.2); rw [HDY.out]; unfold T.cellsErr; rw [h9, HRE.out.1, if_pos HRE.out.2]) (by (repeat (refine Below.setCell ?_ (by first | (simp; done) | (simp; omega)) _)); exact below_alloc HB12.out _))
              · have tA : decide ((0 : Int) < (na : Int)) = true := by simp; omega
                have tA2 : decide (0 < na) = true := by simp; omega
                have hna1 : (0 : Int) < (na : Int) := by omega
                have HN0 := Aside0.mk hna
                have hkA1 := hkA hna
                have hkA3 : (k : Int) < (ma : Int) := by omega
                clear hna hkA
                obtain ⟨ad1, AY, my1, ea1, a0_, a1_, a2_, la_, ga_⟩ := at_cell (Kd.C_below GA1.out HBW1.out) k (by rw [← HMA.out]; exact hkA1)
                obtain rfl := Option.some.inj ea1
                generalize hxk : (a.cells.getD k zc).kind = yk at a0_
                generalize hxn : (a.cells.getD k zc).n = yn at a1_
                have HY0 := Aside0.mk (And.intro hxk hxn)
                have HY0i := Aside0.mk (show in64 yn by rw [← hxn]; exact (wfC_iff.1 ((wfA_iff.1 HWA.out).2.2.2 _ (getD_mem zc (by rw [← HMA.out]; exact hkA1)))).2.1)
                clear hxk hxn
                generalize (a.cells.getD k zc).box.length = yl at a2_
                clear la_ ga_
                obtain ⟨s0, s1, s2, ss, sf, sz, sb⟩ := set3 (.int .i64 yk) (.int .i64 yn) (.slice AY yl my1) t0 t1 t2
                have k10 := ss _ _ (by simp; omega) f10
                have k11 := ss _ _ (by simp; omega) f11
                have kr0 := ss _ _ (fun e => hpq e.symm) r0
                have kr1 := ss _ _ (fun e => hpq e.symm) r1
                have kr2 := ss _ _ (fun e => hpq e.symm) r2
                have kf0 : ∀ j, _ := fun j => (sf ⟨p, j, none⟩).trans (gf0 j)
                have kf1 : ∀ j, _ := fun j => (sf ⟨q, j, none⟩).trans (gf1 j)
                have hb11 := sb _ _ hp0 HB10.out
                clear ss sf sb
                go_upto_region 25 with (fail)
                generalize hW11 : (((W10.setCell ⟨p, 0, none⟩ (.int .i64 yk)).setCell ⟨p, 1, none⟩ (.int .i64 yn)).setCell ⟨p, 2, none⟩ (.slice AY yl my1)) = W11 at s0 s1 s2 k10 k11 kr0 kr1 kr2 kf0 kf1 hb11 sz ⊢
                clear hW11 t0 t1 t2 r0 r1 r2 gf0 gf1 f00 f01 f10 f11 f20 f21 ff a0_ a1_ a2_
                have HB11 := Aside0.mk hb11
                have HBW2 := Aside0.mk (show Below w.heap.size w W11 from hbw.out.trans (hb11.mono (by omega)))
                clear hb11
                have f10 := k10
                have f11 := k11
                have t0 := s0
                have t1 := s1
                have t2 := s2
                have r0 := kr0
                have r1 := kr1
                have r2 := kr2
                have gf0 := kf0
                have gf1 := kf1
                clear k10 k11 s0 s1 s2 kr0 kr1 kr2 kf0 kf1
                by_cases hnb : nb = 0
                · have tB : decide ((0 : Int) < (nb : Int)) = false := by simp; omega
                  have tB2 : decide (0 < nb) = false := by simp; omega
                  have HM0 := Aside0.mk hnb
                  clear hnb hkB
                  go_wp2_with fail
                  have hP : Aside0 (T.dyC op yk yn vk vn = T.pairs op a b k) := ⟨by unfold T.pairs; rw [beside_at (by rw [← HNA.out]; exact HN0.out), beside_atom (by rw [← HNB.out]; exact HM0.out), (HY0.out).1, (HY0.out).2, (HV0.out).1, (HV0.out).2]⟩
                  refine (atCell_calls op yk yn vk vn _ _ _ HY0i.out HV0i.out).mono ?_
                  rintro e w12 ⟨rfl, hb12⟩
                  rw [hP.out]
                  have hbx : Below wr.heap.size wr w12 := (HB11.out).trans (hb12.mono (Aside0.out ⟨(HB11.out).size⟩))
                  have hz12 : w.heap.size + 4 ≤ w12.heap.size := by have := hbx.size; omega
                  have hbw12 : Below w.heap.size w w12 := hbw.out.trans (hbx.mono (by omega))
                  generalize hrn : (T.pairs op a b k).1 = rn
                  generalize hre : (T.pairs op a b k).2 = re
                  by_cases hr0 : re = 0
                  · have HR0 := Aside0.mk (show (T.pairs op a b k).2 = 0 by rw [hre]; exact hr0)
                    have HRN := Aside0.mk hrn
                    subst hr0
                    clear hre hrn
                    obtain ⟨V, ec, rfl⟩ := Kd.R_slice HRC.out
                    have hxl : (T.results (T.pairs op a b) k).length ≤ 16384 := by rw [results_len]; omega
                    have y51 : wr.cell? ⟨w1.heap.size, 1, none⟩ = some (.slice V (T.results (T.pairs op a b) k).length ec) := cell_of_row wr w1.heap.size 1 _ _ _ HBK.out
                    have y5f : ∀ j, wr.frozen? ⟨w1.heap.size, j, none⟩ = false := fun j => by simp [World.frozen?, HBK.out]
                    have z51 := (hbx.cell (p := ⟨w1.heap.size, 1, none⟩) hgl).trans y51
                    have z5f : ∀ j, w12.frozen? ⟨w1.heap.size, j, none⟩ = false := fun j => (hbx.frozen (p := ⟨w1.heap.size, j, none⟩) hgl).trans (y5f j)
                    have HR12 := Aside0.mk (Kd.R_below HRC.out hbx)
                    have HBX := Aside0.mk hbx
                    have HB12 := Aside0.mk hbw12
                    have HBK12 := Aside0.mk ((hbx.block w1.heap.size hgl).trans HBK.out)
                    have hgl12 : w1.heap.size < w12.heap.size := by have := hbx.size; omega
                    have hne0 := Aside0.mk (Kd.R_away HRC.out (g := w1.heap.size) (fun k hk => hk))
                    generalize hxs : T.results (T.pairs op a b) k = xs at HR12 HRC HBK12 hxl y51 z51 hne0
                    have HXS := Aside0.mk hxs
                    clear hxs y51 y5f hbx hbw12
                    go_wp2_with (at_builtin; (refine Kd.R_append kC w1.heap.size rfl (.tmp 115) (.tmp 117) 23 33 (.agg #[.int .i64 0, .int .i64 0, .slice none 0 0]) 40 rfl Try.underlying23 info_cell rfl (by decide) (by omega) (.slice V xs.length ec) xs (T.numc rn) _ (fun k => k ≠ w1.heap.size) (fun _ => False) rfl (by rw [World.size_alloc]; rfl) (M_num _ _ _ rn) (fun k hk => hk.elim) (fun k hk => by have := hgl12; simp at hk; omega) (Kd.R_alloc HR12.out _) (Below.refl _ _) (by simp; omega) (by omega) ?_); intro v1 w3 hR3 hb3 hg3 hat3; go_loud (obtain ⟨V1, ec1, rfl⟩ := Kd.R_slice hR3; have hg3' : ∀ q, q < w12.heap.size → some q ≠ (Value.slice V xs.length ec).ownBlock → w3.heap[q]? = w12.heap[q]? := fun q hq hne => (hg3.block q (by simp; omega) hne).trans (Below.heap_alloc _ _ _ hq); have hb5 := Aside0.mk ((hg3' _ hgl12 hne0.out).trans HBK12.out); have hcc1 : w3.cell? ⟨w1.heap.size, 1, none⟩ = some (.slice V xs.length ec) := (World.cell?_of_block (hg3' _ hgl12 hne0.out)).trans z51; have hfz : w3.frozen? ⟨w1.heap.size, 1, none⟩ = false := (frozen_block (hg3' _ hgl12 hne0.out)).trans (z5f 1); have hgl3 : w1.heap.size < w3.heap.size := (by have := hg3.size; simp at this; omega); have hz3 : w12.heap.size < w3.heap.size := (by have := hg3.size; simp at this; omega); replace hR3 := Aside0.mk hR3; replace hb3 := Aside0.mk hb3; clear hat3 hg3 hg3'))
                    refine ⟨⟨k + 1, by omega, by go_num, ⟨.slice V1 (xs.length + 1) ec1, ?_, ?_⟩, ⟨?_⟩, ⟨firstErr_succ her.out HR0.out⟩⟩, by simp [intOf]; omega⟩
                    · simp [World.setCell, Array.getElem?_modify, hb5.out]
                    · rw [← results_succ, HXS.out, HRN.out]
                      have h5 := Kd.R_far hR3.out (p := ⟨w1.heap.size, 1, none⟩) (fun _ h => h) (.slice V1 (xs.length + 1) ec1)
                      simpa using h5
                    · refine Below.setCell ?_ (by simp) _
                      exact (((hbl.out.trans (HBX.out.mono hbl.out.size)).alloc (Nat.le_of_lt hgl12) _).trans hb3.out)
                  · have z0 : ∀ o, (w12.alloc o).cell? ⟨w.heap.size + 1 + 1, 0, none⟩ = some (.slice none 0 0) := fun o => later ((hbx.cell (p := ⟨w.heap.size + 1 + 1, 0, none⟩) (by simp; omega)).trans Y20.out) o
                    have z1 : ∀ o, (w12.alloc o).cell? ⟨w.heap.size + 1 + 1, 1, none⟩ = some (.slice none 0 0) := fun o => later ((hbx.cell (p := ⟨w.heap.size + 1 + 1, 1, none⟩) (by simp; omega)).trans Y21.out) o
                    have zf : ∀ j o, (w12.alloc o).frozen? ⟨w.heap.size + 1 + 1, j, none⟩ = false := fun j o => (((Below.refl _ _).alloc (Nat.le_refl _) o).frozen (p := ⟨w.heap.size + 1 + 1, j, none⟩) (by simp; omega)).trans ((hbx.frozen (p := ⟨w.heap.size + 1 + 1, j, none⟩) (by simp; omega)).trans (YF.out j))
                    have hx1 : (re == 0) = false := by rw [beq_eq_false_iff_ne]; exact hr0
                    have hx2 : (re != 0) = true := by rw [bne_iff_ne]; exact hr0
                    have HRE := Aside0.mk (And.intro hre hr0)
                    have HB12 := Aside0.mk hbw12
                    clear hbx hbw12 hb12 hrn hre hr0
                    go_wp2_with fail
                    exact bodyPost_ret (v := .tuple #[.agg #[.slice none 0 0, .slice none 0 0], .int .i64 re]) (by simp only [results, Try.results53]; go_simp) rfl (new_none (by have h9 := firstErr_bad hlt her.out (by rw [HRE.out.1]; exact HRE.out.2); rw [HDY.out]; unfold T.cellsErr; rw [h9, HRE.out.1, if_pos HRE.out.2]) (by (repeat (refine Below.setCell ?_ (by first | (simp; done) | (simp; omega)) _)); exact below_alloc HB12.out _))
                · have tB : decide ((0 : Int) < (nb : Int)) = true := by simp; omega
                  have tB2 : decide (0 < nb) = true := by simp; omega
                  have hnb1 : (0 : Int) < (nb : Int) := by omega
                  have HM0 := Aside0.mk hnb
                  have hkB1 := hkB hnb
                  have hkB3 : (k : Int) < (mb : Int) := by omega
                  clear hnb hkB
                  obtain ⟨ad2, AZ, mz1, eb1, b0_, b1_, b2_, lb_, gb_⟩ := at_cell (Kd.C_below GB1.out HBW2.out) k (by rw [← HMB.out]; exact hkB1)
                  obtain rfl := Option.some.inj eb1
                  generalize hxk : (b.cells.getD k zc).kind = zk at b0_
                  generalize hxn : (b.cells.getD k zc).n = zn at b1_
                  have HZ0 := Aside0.mk (And.intro hxk hxn)
                  have HZ0i := Aside0.mk (show in64 zn by rw [← hxn]; exact (wfC_iff.1 ((wfA_iff.1 HWB.out).2.2.2 _ (getD_mem zc (by rw [← HMB.out]; exact hkB1)))).2.1)
                  clear hxk hxn
                  generalize (b.cells.getD k zc).box.length = zl at b2_
                  clear lb_ gb_
                  obtain ⟨s0, s1, s2, ss, sf, sz2, sb⟩ := set3 (.int .i64 zk) (.int .i64 zn) (.slice AZ zl mz1) r0 r1 r2
                  have kt0 := ss _ _ hpq t0
                  have kt1 := ss _ _ hpq t1
                  have kt2 := ss _ _ hpq t2
                  have hb12_ := sb _ _ hq0 HB11.out
                  clear ss sf sb
                  go_upto_region 27 with (fail)
                  generalize hW12 : (((W11.setCell ⟨q, 0, none⟩ (.int .i64 zk)).setCell ⟨q, 1, none⟩ (.int .i64 zn)).setCell ⟨q, 2, none⟩ (.slice AZ zl mz1)) = W12 at s0 s1 s2 kt0 kt1 kt2 hb12_ sz2 ⊢
                  clear hW12 t0 t1 t2 r0 r1 r2 gf0 gf1 f10 f11 b0_ b1_ b2_
                  have HB12_ := Aside0.mk hb12_
                  clear hb12_
                  go_wp2_with fail
                  have hP : Aside0 (T.dyC op yk yn zk zn = T.pairs op a b k) := ⟨by unfold T.pairs; rw [beside_at (by rw [← HNA.out]; exact HN0.out), beside_at (by rw [← HNB.out]; exact HM0.out), (HY0.out).1, (HY0.out).2, (HZ0.out).1, (HZ0.out).2]⟩
                  refine (atCell_calls op yk yn zk zn _ _ _ HY0i.out HZ0i.out).mono ?_
                  rintro e w12 ⟨rfl, hb12⟩
                  rw [hP.out]
                  have hbx : Below wr.heap.size wr w12 := (HB12_.out).trans (hb12.mono (Aside0.out ⟨(HB12_.out).size⟩))
                  have hz12 : w.heap.size + 4 ≤ w12.heap.size := by have := hbx.size; omega
                  have hbw12 : Below w.heap.size w w12 := hbw.out.trans (hbx.mono (by omega))
                  generalize hrn : (T.pairs op a b k).1 = rn
                  generalize hre : (T.pairs op a b k).2 = re
                  by_cases hr0 : re = 0
                  · have HR0 := Aside0.mk (show (T.pairs op a b k).2 = 0 by rw [hre]; exact hr0)
                    have HRN := Aside0.mk hrn
                    subst hr0
                    clear hre hrn
                    obtain ⟨V, ec, rfl⟩ := Kd.R_slice HRC.out
                    have hxl : (T.results (T.pairs op a b) k).length ≤ 16384 := by rw [results_len]; omega
                    have y51 : wr.cell? ⟨w1.heap.size, 1, none⟩ = some (.slice V (T.results (T.pairs op a b) k).length ec) := cell_of_row wr w1.heap.size 1 _ _ _ HBK.out
                    have y5f : ∀ j, wr.frozen? ⟨w1.heap.size, j, none⟩ = false := fun j => by simp [World.frozen?, HBK.out]
                    have z51 := (hbx.cell (p := ⟨w1.heap.size, 1, none⟩) hgl).trans y51
                    have z5f : ∀ j, w12.frozen? ⟨w1.heap.size, j, none⟩ = false := fun j => (hbx.frozen (p := ⟨w1.heap.size, j, none⟩) hgl).trans (y5f j)
                    have HR12 := Aside0.mk (Kd.R_below HRC.out hbx)
                    have HBX := Aside0.mk hbx
                    have HB12 := Aside0.mk hbw12
                    have HBK12 := Aside0.mk ((hbx.block w1.heap.size hgl).trans HBK.out)
                    have hgl12 : w1.heap.size < w12.heap.size := by have := hbx.size; omega
                    have hne0 := Aside0.mk (Kd.R_away HRC.out (g := w1.heap.size) (fun k hk => hk))
                    generalize hxs : T.results (T.pairs op a b) k = xs at HR12 HRC HBK12 hxl y51 z51 hne0
                    have HXS := Aside0.mk hxs
                    clear hxs y51 y5f hbx hbw12
                    go_wp2_with (at_builtin; (refine Kd.R_append kC w1.heap.size rfl (.tmp 115) (.tmp 117) 23 33 (.agg #[.int .i64 0, .int .i64 0, .slice none 0 0]) 40 rfl Try.underlying23 info_cell rfl (by decide) (by omega) (.slice V xs.length ec) xs (T.numc rn) _ (fun k => k ≠ w1.heap.size) (fun _ => False) rfl (by rw [World.size_alloc]; rfl) (M_num _ _ _ rn) (fun k hk => hk.elim) (fun k hk => by have := hgl12; simp at hk; omega) (Kd.R_alloc HR12.out _) (Below.refl _ _) (by simp; omega) (by omega) ?_); intro v1 w3 hR3 hb3 hg3 hat3; go_loud (obtain ⟨V1, ec1, rfl⟩ := Kd.R_slice hR3; have hg3' : ∀ q, q < w12.heap.size → some q ≠ (Value.slice V xs.length ec).ownBlock → w3.heap[q]? = w12.heap[q]? := fun q hq hne => (hg3.block q (by simp; omega) hne).trans (Below.heap_alloc _ _ _ hq); have hb5 := Aside0.mk ((hg3' _ hgl12 hne0.out).trans HBK12.out); have hcc1 : w3.cell? ⟨w1.heap.size, 1, none⟩ = some (.slice V xs.length ec) := (World.cell?_of_block (hg3' _ hgl12 hne0.out)).trans z51; have hfz : w3.frozen? ⟨w1.heap.size, 1, none⟩ = false := (frozen_block (hg3' _ hgl12 hne0.out)).trans (z5f 1); have hgl3 : w1.heap.size < w3.heap.size := (by have := hg3.size; simp at this; omega); have hz3 : w12.heap.size < w3.heap.size := (by have := hg3.size; simp at this; omega); replace hR3 := Aside0.mk hR3; replace hb3 := Aside0.mk hb3; clear hat3 hg3 hg3'))
                    refine ⟨⟨k + 1, by omega, by go_num, ⟨.slice V1 (xs.length + 1) ec1, ?_, ?_⟩, ⟨?_⟩, ⟨firstErr_succ her.out HR0.out⟩⟩, by simp [intOf]; omega⟩
                    · simp [World.setCell, Array.getElem?_modify, hb5.out]
                    · rw [← results_succ, HXS.out, HRN.out]
                      have h5 := Kd.R_far hR3.out (p := ⟨w1.heap.size, 1, none⟩) (fun _ h => h) (.slice V1 (xs.length + 1) ec1)
                      simpa using h5
                    · refine Below.setCell ?_ (by simp) _
                      exact (((hbl.out.trans (HBX.out.mono hbl.out.size)).alloc (Nat.le_of_lt hgl12) _).trans hb3.out)
                  · have z0 : ∀ o, (w12.alloc o).cell? ⟨w.heap.size + 1 + 1, 0, none⟩ = some (.slice none 0 0) := fun o => later ((hbx.cell (p := ⟨w.heap.size + 1 + 1, 0, none⟩) (by simp; omega)).trans Y20.out) o
                    have z1 : ∀ o, (w12.alloc o).cell? ⟨w.heap.size + 1 + 1, 1, none⟩ = some (.slice none 0 0) := fun o => later ((hbx.cell (p := ⟨w.heap.size + 1 + 1, 1, none⟩) (by simp; omega)).trans Y21.out) o
                    have zf : ∀ j o, (w12.alloc o).frozen? ⟨w.heap.size + 1 + 1, j, none⟩ = false := fun j o => (((Below.refl _ _).alloc (Nat.le_refl _) o).frozen (p := ⟨w.heap.size + 1 + 1, j, none⟩) (by simp; omega)).trans ((hbx.frozen (p := ⟨w.heap.size + 1 + 1, j, none⟩) (by simp; omega)).trans (YF.out j))
                    have hx1 : (re == 0) = false := by rw [beq_eq_false_iff_ne]; exact hr0
                    have hx2 : (re != 0) = true := by rw [bne_iff_ne]; exact hr0
                    have HRE := Aside0.mk (And.intro hre hr0)
                    have HB12 := Aside0.mk hbw12
                    clear hbx hbw12 hb12 hrn hre hr0
                    go_wp2_with fail
                    exact bodyPost_ret (v := .tuple #[.agg #[.slice none 0 0, .slice none 0 0], .int .i64 re]) (by simp only [results, Try.results53]; go_simp) rfl (new_none (by have h9 := firstErr_bad hlt her.out (by rw [HRE.out.1]; exact HRE.out.2); rw [HDY.out]; unfold T.cellsErr; rw [h9, HRE.out.1, if_pos HRE.out.2]) (by (repeat (refine Below.setCell ?_ (by first | (simp; done) | (simp; omega)) _)); exact below_alloc HB12.out _))
            · obtain rfl : mb = k := by omega
              clear y00 y01 y10 y11
              have HBL := hbl
              have hxl := Aside0.mk (results_len (T.pairs op a b) mb)
              generalize hxs : T.results (T.pairs op a b) mb = xs at HRC HBK hxl
              obtain ⟨V, ec, rfl⟩ := Kd.R_slice HRC.out
              have HX := Aside0.mk hxs
              have y50 : wr.cell? ⟨w1.heap.size, 0, none⟩ = some (.slice S0 S.length e0) := cell_of_row wr w1.heap.size 0 _ _ _ HBK.out
              have y51 : wr.cell? ⟨w1.heap.size, 1, none⟩ = some (.slice V xs.length ec) := cell_of_row wr w1.heap.size 1 _ _ _ HBK.out
              clear hxs
              go_wp2_with fail
              refine bodyPost_ret (v := .tuple #[.agg #[.slice S0 S.length e0, .slice V xs.length ec], .int .i64 0]) (by simp only [results, Try.results53]; go_simp) rfl ?_
              refine new_arr (s := S) (cs := xs) (by rw [HDY.out]; unfold T.cellsErr; rw [if_neg (by rw [her.out]; simp), HX.out]) hS0 ?_ ?_ ?_ ?_
              · exact (Kd.R_reads' HRC.out).2.1
              · refine Kd.F_mono (ok := fun k => zB ≤ k) ?_ (fun k hk => by have := HSZ4.out; omega)
                refine Kd.F_far (Kd.F_far (Kd.F_below HS.out HBL.out) ?_ _) ?_ _
                · intro k hk; have := HSZ4.out; simp; omega
                · intro k hk; have := HSZ4.out; simp; omega
              · have hst : ∀ q, w1.heap.size ≤ q → q < wr.heap.size → ((wr.setCell ⟨w.heap.size + 1 + 1, 0, none⟩ (.slice S0 S.length e0)).setCell ⟨w.heap.size + 1 + 1, 1, none⟩ (.slice V xs.length ec)).heap[q]? = wr.heap[q]? := fun q hq _ => by
                  repeat (refine (Below.heap_setCell _ _ _ _ (by simp; omega)).trans ?_)
                  rfl
                have h5 := R_stay HRC.out hst
                exact Kd.R_F (Kd.R_mono (Kd.R_bound h5) (fun k hk => Nat.le_trans (show w.heap.size ≤ w1.heap.size by omega) hk.2.1))
              · repeat (refine Below.setCell ?_ (by simp; omega) _)
                exact hbw.out
      · have HAG := Aside0.mk hag
        have h1 : ((T.agree a.shape b.shape).2 == 0) = false := by rw [beq_eq_false_iff_ne]; exact hag
        have h2 : ((T.agree a.shape b.shape).2 != 0) = true := by rw [bne_iff_ne]; exact hag
        clear hag
        generalize hS : (T.agree a.shape b.shape).1 = S at hS0 HS ⊢
        generalize hY : (T.agree a.shape b.shape).2 = Y at h1 h2 HAG ⊢
        have HY := Aside0.mk hY
        clear hS hY
        go_wp2_with fail
        exact bodyPost_ret (v := .tuple #[.agg #[.slice none 0 0, .slice none 0 0], .int .i64 Y]) (by simp only [results, Try.results53]; go_simp) rfl (new_none (by unfold T.dyS; rw [if_neg HA.out, if_neg HB.out, if_neg H54.out, if_neg HO.out, if_pos (by rw [HY.out]; exact HAG.out), HY.out]) (by (repeat (refine Below.setCell ?_ (by first | (simp; done) | (simp; omega)) _)); exact hb1.out))
end Go.Proofs.Ytdfijdajkdkkfaa
