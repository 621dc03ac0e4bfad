/-
  Walks: which shape comes of two.
-/
import Derived.Test.YtdfijdajkdkkfaaN3
import Derived.Test.YtdfijdajkdkkfaaWShare
import Derived.Deep.QuietTactic
import Derived.BigQuiet
set_option linter.unusedVariables false
set_option linter.unusedSimpArgs false
namespace Go.Proofs.Ytdfijdajkdkkfaa
open Go.RowKit Go.Proofs.YtdfijdajkdkkfaaW.PrintWords Go.Proofs.YtdfijdajkdkkfaaW.PrintLast
open T
theorem ne_at {s t : List Int} {k : Nat} (h : s.getD k 0 ≠ t.getD k 0) : s ≠ t := fun e => h (by rw [e])
theorem eq_all {s t : List Int} (hl : s.length = t.length) (h : ∀ j, j < s.length → s.getD j 0 = t.getD j 0) : s = t := by
  apply List.ext_getElem hl
  intro i h1 h2
  have := h i h1
  simpa [List.getD_eq_getElem?_getD, List.getElem?_eq_getElem h1, List.getElem?_eq_getElem h2] using this
set_option maxHeartbeats 8000000 in
set_option maxRecDepth 100000 in
theorem refInts_calls (s t : List Int) (A B : Option Addr) (c d : Nat) (w : World) (hc : s.length ≤ c) (hd : t.length ≤ d) (gs : Cint w A s) (gt : Cint w B t) : Calls Try.prog 57 #[.slice A s.length c, .slice B t.length d] w fun e w' => e = .returned (.bool (decide (s = t))) ∧ Below w.heap.size w w' := by
  have GS := Aside0.mk gs
  have GT := Aside0.mk gt
  have ms := Kd.C_max gs
  clear gs gt
  by_cases hl : s.length = t.length
  · have HL := Aside0.mk hl
    have hl1 : ((s.length : Int) == (t.length : Int)) = true := by rw [beq_iff_eq]; omega
    have hl2 : ((s.length : Int) != (t.length : Int)) = false := by rw [bne_eq_false_iff_eq]; omega
    clear hl
    go_enter Try.func57, Try.ntmps57
    go_wp2_with fail
    go_loopw [5] (fun i W => ∃ (k : Nat), k ≤ s.length ∧ i = .int .i64 k ∧ Aside0 (Below w.heap.size w W) ∧ Aside0 (∀ j, j < k → s.getD j 0 = t.getD j 0)) (fun i _ => s.length - (intOf i).toNat)
    case atStart => exact ⟨0, by omega, rfl, ⟨Below.refl _ _⟩, ⟨fun j hj => absurd hj (by omega)⟩⟩
    case round =>
      obtain ⟨k, hk, rfl, hbl, hinv⟩ := hrel
      by_cases hlt : k < s.length
      · have hlt2 : k < t.length := by have := HL.out; omega
        have hlt3 : (k : Int) < (s.length : Int) := by omega
        have hlt4 : (k : Int) < (t.length : Int) := by omega
        obtain ⟨ad, ea, u0⟩ := at_int GS.out k hlt
        subst ea
        obtain ⟨ad2, ea, u1⟩ := at_int GT.out k hlt2
        subst ea
        replace u0 := pw_cell_below hbl.out u0
        replace u1 := pw_cell_below hbl.out u1
        by_cases he : s.getD k 0 = t.getD k 0
        · have HE := Aside0.mk he
          rw [← he] at u1
          clear he
          generalize s.getD k 0 = p at u0 u1
          go_wp2_with fail
          go_quiet (fail)
          go_wp2_with fail
          exact ⟨⟨k + 1, by omega, by go_num, ⟨by apply pw_below_drewN; exact hbl.out⟩, ⟨fun j hj => by
            by_cases e : j = k
            · subst e; exact HE.out
            · exact hinv.out j (by omega)⟩⟩, by simp [intOf]; omega⟩
        · have HE := Aside0.mk (ne_at he)
          have hb1 : (s.getD k 0 == t.getD k 0) = false := by rw [beq_eq_false_iff_ne]; exact he
          have hb2 : (s.getD k 0 != t.getD k 0) = true := by rw [bne_iff_ne]; exact he
          clear he
          generalize s.getD k 0 = p at u0 hb1 hb2
          generalize t.getD k 0 = q at u1 hb1 hb2
          go_wp2_with fail
          go_quiet (fail)
          go_wp2_with fail
          go_ret
          exact ⟨ret_bool (by simp [HE.out]), by apply pw_below_drewN; exact hbl.out⟩
      · obtain rfl : k = s.length := by omega
        have HE := Aside0.mk (eq_all HL.out hinv.out)
        go_wp2_with fail
        go_ret
        exact ⟨ret_bool (by simp [HE.out]), hbl.out⟩
  · have HL := Aside0.mk (show s ≠ t from fun e => hl (by rw [e]))
    have hl1 : ((s.length : Int) == (t.length : Int)) = false := by rw [beq_eq_false_iff_ne]; omega
    have hl2 : ((s.length : Int) != (t.length : Int)) = true := by rw [bne_iff_ne]; omega
    clear hl
    go_enter Try.func57, Try.ntmps57
    go_wp2_with fail
    go_ret
    exact ⟨ret_bool (by simp [HL.out]), Below.refl _ _⟩
/-- Which shape comes of two. -/
def T.agree (s t : List Int) : List Int × Int := if s.length = 0 then (t, 0) else if t.length = 0 then (s, 0) else if s.length ≠ t.length then ([], 6) else if s ≠ t then ([], 7) else (s, 0)
/-- A row of whole numbers and a reason. -/
def SomeInts (p : List Int × Int) (w : World) (e : Ending) (w' : World) : Prop := ∃ A c, e = .returned (.tuple #[.slice A p.1.length c, .int .i64 p.2]) ∧ p.1.length ≤ c ∧ Cint w' A p.1 ∧ Below w.heap.size w w'
theorem some_ints {p : List Int × Int} {r : List Int} {x : Int} {A : Option Addr} {c : Nat} {w w' : World} (h : p = (r, x)) (hc : r.length ≤ c) (g : Cint w' A r) (hb : Below w.heap.size w w') : SomeInts p w (.returned (.tuple #[.slice A r.length c, .int .i64 x])) w' := by subst h; exact ⟨A, c, rfl, hc, g, hb⟩
set_option maxHeartbeats 8000000 in
set_option maxRecDepth 100000 in
theorem refAgree_calls (s t : List Int) (A B : Option Addr) (c d : Nat) (w : World) (hc : s.length ≤ c) (hd : t.length ≤ d) (gs : Cint w A s) (gt : Cint w B t) : Calls Try.prog 56 #[.slice A s.length c, .slice B t.length d] w (SomeInts (T.agree s t) w) := by
  have GS := Aside0.mk gs
  have GT := Aside0.mk gt
  clear gs gt
  by_cases h1 : s.length = 0
  · have H1 := Aside0.mk h1
    have hb : ((s.length : Int) == 0) = true := by rw [beq_iff_eq]; omega
    clear h1
    go_enter Try.func56, Try.ntmps56
    go_wp2_with fail
    go_ret2
    exact some_ints (by simp [T.agree, H1.out]) hd GT.out (Below.refl _ _)
  by_cases h2 : t.length = 0
  · have H1 := Aside0.mk h1
    have H2 := Aside0.mk h2
    have hb : ((s.length : Int) == 0) = false := by rw [beq_eq_false_iff_ne]; omega
    have hb2 : ((t.length : Int) == 0) = true := by rw [beq_iff_eq]; omega
    clear h1 h2
    go_enter Try.func56, Try.ntmps56
    go_wp2_with fail
    go_ret2
    exact some_ints (by simp [T.agree, H1.out, H2.out]) hc GS.out (Below.refl _ _)
  have H1 := Aside0.mk h1
  have H2 := Aside0.mk h2
  have hb : ((s.length : Int) == 0) = false := by rw [beq_eq_false_iff_ne]; omega
  have hb2 : ((t.length : Int) == 0) = false := by rw [beq_eq_false_iff_ne]; omega
  clear h1 h2
  by_cases hl : s.length = t.length
  · have HL := Aside0.mk hl
    have hl1 : ((s.length : Int) == (t.length : Int)) = true := by rw [beq_iff_eq]; omega
    have hl2 : ((s.length : Int) != (t.length : Int)) = false := by rw [bne_eq_false_iff_eq]; omega
    clear hl
    by_cases he : s = t
    · have HE := Aside0.mk he
      have hdt : decide (s = t) = true := by simp [he]
      clear he
      go_enter Try.func56, Try.ntmps56
      go_wp2_with (go_at_call 57; refine (refInts_calls s t _ _ c d _ hc hd GS.out GT.out).mono ?_; rintro e w' ⟨rfl, hb0⟩; rw [hdt])
      go_ret2
      exact some_ints (by unfold T.agree; rw [if_neg H1.out, if_neg H2.out, if_neg (fun h => h HL.out), if_neg (fun h => h HE.out)]) hc (Kd.C_below GS.out hb0) hb0
    · have HE := Aside0.mk he
      have hdt : decide (s = t) = false := by simp [he]
      clear he
      go_enter Try.func56, Try.ntmps56
      go_wp2_with (go_at_call 57; refine (refInts_calls s t _ _ c d _ hc hd GS.out GT.out).mono ?_; rintro e w' ⟨rfl, hb0⟩; rw [hdt])
      go_ret2
      exact some_ints (r := []) (by unfold T.agree; rw [if_neg H1.out, if_neg H2.out, if_neg (fun h => h HL.out), if_pos HE.out]) (by simp) (Kd.C_nil _ _) hb0
  · have HL := Aside0.mk hl
    have hl1 : ((s.length : Int) == (t.length : Int)) = false := by rw [beq_eq_false_iff_ne]; omega
    have hl2 : ((s.length : Int) != (t.length : Int)) = true := by rw [bne_iff_ne]; omega
    clear hl
    go_enter Try.func56, Try.ntmps56
    go_wp2_with fail
    go_ret2
    exact some_ints (r := []) (by simp [T.agree, H1.out, H2.out, HL.out]) (by simp) (Kd.C_nil _ _) (Below.refl _ _)
/-- A row of whole numbers that is new, and a reason. -/
def NewInts (p : List Int × Int) (w : World) (e : Ending) (w' : World) : Prop := ∃ A c, e = .returned (.tuple #[.slice A p.1.length c, .int .i64 p.2]) ∧ p.1.length ≤ c ∧ Kd.F (Kd.int .i64) w' (fun k => w.heap.size ≤ k) A p.1.length p.1 ∧ Below w.heap.size w w'
theorem new_ints {p : List Int × Int} {r : List Int} {x : Int} {A : Option Addr} {n c : Nat} {ok : Nat → Prop} {w w' : World} (h : p = (r, x)) (hR : (Kd.int .i64).R 3 w' w.heap.size ok (.slice A n c) r) (hb : Below w.heap.size w w') : NewInts p w (.returned (.tuple #[.slice A n c, .int .i64 x])) w' := by
  subst h
  have h2 := Kd.R_mono (Kd.R_bound hR) (ok' := fun k => w.heap.size ≤ k) (fun k hk => hk.2.1)
  have h3 := Kd.R_reads' hR
  obtain rfl := h3.1
  exact ⟨A, c, rfl, h3.2.1, Kd.R_F h2, hb⟩
theorem new_nil {p : List Int × Int} {x : Int} {w w' : World} (h : p = ([], x)) (hb : Below w.heap.size w w') : NewInts p w (.returned (.tuple #[.slice none 0 0, .int .i64 x])) w' := by subst h; exact ⟨none, 0, rfl, by simp, Kd.F_nil _ _ _, hb⟩
theorem NewInts.some {p : List Int × Int} {w : World} {e : Ending} {w' : World} (h : NewInts p w e w') : SomeInts p w e w' := by
  obtain ⟨A, c, h1, h2, h3, h4⟩ := h
  exact ⟨A, c, h1, h2, Kd.F_now h3, h4⟩
set_option maxHeartbeats 8000000 in
set_option maxRecDepth 100000 in
theorem atAgree_calls (s t : List Int) (A B : Option Addr) (c d : Nat) (w : World) (ms : s.length ≤ 17592186044416) (mt : t.length ≤ 17592186044416) (hc : s.length ≤ c) (hd : t.length ≤ d) (gs : Cint w A s) (gt : Cint w B t) : Calls Try.prog 55 #[.slice A s.length c, .slice B t.length d] w (NewInts (T.agree s t) w) := by
  have GS := Aside0.mk gs
  have GT := Aside0.mk gt
  clear gs gt
  by_cases h1 : s.length = 0
  · have H1 := Aside0.mk h1
    have hb : ((s.length : Int) == 0) = true := by rw [beq_iff_eq]; omega
    clear h1
    go_enter Try.func55, Try.ntmps55
    go_wp2_with (at_builtin; go_loud (refine Kd.R_append_rows (Kd.int .i64) (Rr := (Kd.int .i64).K w) w.heap.size rfl (.const (.slice none 0 0)) (.tmp 11) 22 3 (.int .i64 0) 8 rfl Try.underlying22 info_int rfl (by decide) (by omega) (.slice none 0 0) [] t B t.length d (fun _ => True) (fun _ => False) rfl rfl (Kd.R_nil _ _ _ _ _) GT.out (fun _ _ hq => hq) (fun _ hq => hq.elim) (fun _ _ => trivial) (Below.refl _ _) ?hs (by simp; omega) ?_); (case hs => first | exact Nat.le_refl _ | (exact HBL.out.size)); intro v1 w1 hR hb0 hg hat; rw [List.nil_append] at hR; obtain ⟨V1, e1, rfl⟩ := Kd.R_slice hR; replace hR := Aside0.mk hR; replace hb0 := Aside0.mk hb0; clear hg hat)
    go_ret2
    exact new_ints (by simp [T.agree, H1.out]) hR.out hb0.out
  by_cases h2 : t.length = 0
  · have H1 := Aside0.mk h1
    have H2 := Aside0.mk h2
    have hb : ((s.length : Int) == 0) = false := by rw [beq_eq_false_iff_ne]; omega
    have hb2 : ((t.length : Int) == 0) = true := by rw [beq_iff_eq]; omega
    clear h1 h2
    go_enter Try.func55, Try.ntmps55
    go_wp2_with (at_builtin; go_loud (refine Kd.R_append_rows (Kd.int .i64) (Rr := (Kd.int .i64).K w) w.heap.size rfl (.const (.slice none 0 0)) (.tmp 17) 22 3 (.int .i64 0) 8 rfl Try.underlying22 info_int rfl (by decide) (by omega) (.slice none 0 0) [] s A s.length c (fun _ => True) (fun _ => False) rfl rfl (Kd.R_nil _ _ _ _ _) GS.out (fun _ _ hq => hq) (fun _ hq => hq.elim) (fun _ _ => trivial) (Below.refl _ _) ?hs (by simp; omega) ?_); (case hs => first | exact Nat.le_refl _ | (exact HBL.out.size)); intro v1 w1 hR hb0 hg hat; rw [List.nil_append] at hR; obtain ⟨V1, e1, rfl⟩ := Kd.R_slice hR; replace hR := Aside0.mk hR; replace hb0 := Aside0.mk hb0; clear hg hat)
    go_ret2
    exact new_ints (by simp [T.agree, H1.out, H2.out]) hR.out hb0.out
  have H1 := Aside0.mk h1
  have H2 := Aside0.mk h2
  have hb : ((s.length : Int) == 0) = false := by rw [beq_eq_false_iff_ne]; omega
  have hb2 : ((t.length : Int) == 0) = false := by rw [beq_eq_false_iff_ne]; omega
  clear h1 h2
  by_cases hl : s.length = t.length
  · have HL := Aside0.mk hl
    have hl1 : ((s.length : Int) == (t.length : Int)) = true := by rw [beq_iff_eq]; omega
    have hl2 : ((s.length : Int) != (t.length : Int)) = false := by rw [bne_eq_false_iff_eq]; omega
    clear hl
    go_enter Try.func55, Try.ntmps55
    go_wp2_with fail
    go_loopw [6, 27] (fun z i W => ∃ (k : Nat), k ≤ s.length ∧ i = .int .i64 k ∧ Aside0 (Below w.heap.size w W) ∧ Aside0 (∀ j, j < k → s.getD j 0 = t.getD j 0)) (fun _ i _ => s.length - (intOf i).toNat)
    case atStart => exact ⟨0, by omega, rfl, ⟨Below.refl _ _⟩, ⟨fun j hj => absurd hj (by omega)⟩⟩
    case round =>
      obtain ⟨k, hk, rfl, hbl, hinv⟩ := hrel
      by_cases hlt : k < s.length
      · have hlt2 : k < t.length := by have := HL.out; omega
        have hlt3 : (k : Int) < (s.length : Int) := by omega
        have hlt4 : (k : Int) < (t.length : Int) := by omega
        obtain ⟨ad, ea, u0⟩ := at_int GS.out k hlt
        subst ea
        obtain ⟨ad2, ea, u1⟩ := at_int GT.out k hlt2
        subst ea
        replace u0 := pw_cell_below hbl.out u0
        replace u1 := pw_cell_below hbl.out u1
        by_cases he : s.getD k 0 = t.getD k 0
        · have HE := Aside0.mk he
          rw [← he] at u1
          clear he
          generalize s.getD k 0 = p at u0 u1
          go_wp2_with fail
          go_quiet (fail)
          go_wp2_with fail
          exact ⟨⟨k + 1, by omega, by go_num, ⟨by apply pw_below_drewN; exact hbl.out⟩, ⟨fun j hj => by
            by_cases e : j = k
            · subst e; exact HE.out
            · exact hinv.out j (by omega)⟩⟩, by simp [intOf]; omega⟩
        · have HE := Aside0.mk (ne_at he)
          have hb1 : (s.getD k 0 == t.getD k 0) = false := by rw [beq_eq_false_iff_ne]; exact he
          have hb2 : (s.getD k 0 != t.getD k 0) = true := by rw [bne_iff_ne]; exact he
          clear he
          generalize s.getD k 0 = p at u0 hb1 hb2
          generalize t.getD k 0 = q at u1 hb1 hb2
          go_wp2_with fail
          go_quiet (fail)
          go_wp2_with fail
          go_ret2
          exact new_nil (by unfold T.agree; rw [if_neg H1.out, if_neg H2.out, if_neg (fun h => h HL.out), if_pos HE.out]) (by apply pw_below_drewN; exact hbl.out)
      · obtain rfl : k = s.length := by omega
        have HE := Aside0.mk (eq_all HL.out hinv.out)
        have HBL := hbl
        go_wp2_with (at_builtin; go_loud (refine Kd.R_append_rows (Kd.int .i64) (Rr := (Kd.int .i64).K wr) w.heap.size rfl (.const (.slice none 0 0)) (.tmp 40) 22 3 (.int .i64 0) 8 rfl Try.underlying22 info_int rfl (by decide) (by omega) (.slice none 0 0) [] s A s.length c (fun _ => True) (fun _ => False) rfl rfl (Kd.R_nil _ _ _ _ _) (Kd.C_below GS.out HBL.out) (fun _ _ hq => hq) (fun _ hq => hq.elim) (fun _ _ => trivial) (HBL.out) ?hs (by simp; omega) ?_); (case hs => first | exact Nat.le_refl _ | (exact HBL.out.size)); intro v1 w1 hR hb0 hg hat; rw [List.nil_append] at hR; obtain ⟨V1, e1, rfl⟩ := Kd.R_slice hR; replace hR := Aside0.mk hR; replace hb0 := Aside0.mk hb0; clear hg hat)
        go_ret2
        exact new_ints (by unfold T.agree; rw [if_neg H1.out, if_neg H2.out, if_neg (fun h => h HL.out), if_neg (fun h => h HE.out)]) hR.out hb0.out
  · have HL := Aside0.mk hl
    have hl1 : ((s.length : Int) == (t.length : Int)) = false := by rw [beq_eq_false_iff_ne]; omega
    have hl2 : ((s.length : Int) != (t.length : Int)) = true := by rw [bne_iff_ne]; omega
    clear hl
    go_enter Try.func55, Try.ntmps55
    go_wp2_with fail
    go_ret2
    exact new_nil (by simp [T.agree, H1.out, H2.out, HL.out]) (Below.refl _ _)
end Go.Proofs.Ytdfijdajkdkkfaa
