/-
  Walks: products, the reference's.
-/
import Derived.Test.YtdfijdajkdkkfaaN2
set_option linter.unusedVariables false
set_option linter.unusedSimpArgs false
namespace Go.Proofs.Ytdfijdajkdkkfaa
open Go.RowKit Go.Proofs.YtdfijdajkdkkfaaW.PrintWords Go.Proofs.YtdfijdajkdkkfaaW.PrintLast
open T
theorem prodL_zero : ∀ {l : List Int}, (0 : Int) ∈ l → T.prodL l = 0
  | x :: xs, h => by
    rcases List.mem_cons.1 h with e | h
    · rw [T.prodL, ← e, Int.zero_mul]
    · rw [T.prodL, prodL_zero h, Int.mul_zero]
theorem neg_pos {P x : Int} (hP : P ≠ 0) (hx : 0 < x) : decide (P < 0) = decide (P * x < 0) := by
  have := neg_mul hP (show x ≠ 0 by omega)
  rw [← this]
  have h : decide (x < 0) = false := by simp; omega
  rw [h]; simp
theorem neg_neg {P x : Int} (hP : P ≠ 0) (hx : x < 0) : (!decide (P < 0)) = decide (P * x < 0) := by
  have := neg_mul hP (show x ≠ 0 by omega)
  rw [← this]
  have h : decide (x < 0) = true := by simp; omega
  rw [h]; simp
set_option maxHeartbeats 8000000 in
set_option maxRecDepth 100000 in
theorem refProd_calls (l : List Int) (A : Option Addr) (c : Nat) (w : World) (hl : ∀ x ∈ l, in64 x) (hc : l.length ≤ c) (g : Cint w A l) : Calls Try.prog 140 #[.slice A l.length c] w (TwoInts (T.fit (T.prodL l)) w) := by
  have G := Aside0.mk g
  have HL := Aside0.mk hl
  have ml := Kd.C_max g
  clear g hl
  go_enter Try.func140, Try.ntmps140
  go_wp2_with fail
  go_loop [7] (fun i => ∃ (k : Nat), k ≤ l.length ∧ i = .int .i64 k ∧ Aside0 (∀ j, j < k → l.getD j 0 ≠ 0)) (fun i => l.length - (intOf i).toNat)
  case atStart => exact ⟨0, by omega, rfl, ⟨fun j hj => absurd hj (by omega)⟩⟩
  case round =>
    obtain ⟨k, hk, rfl, hno⟩ := hrel
    by_cases hlt : k < l.length
    · obtain ⟨ad, e, hx⟩ := at_int G.out k hlt
      subst e
      by_cases hx0 : l.getD k 0 = 0
      · have HZ := Aside0.mk (prodL_zero (hx0 ▸ getD_mem 0 hlt))
        rw [hx0] at hx
        clear hx0
        go_wp2_with fail
        go_ret2
        exact two_ints (by rw [HZ.out]; simp [T.fit])
      · have HX := Aside0.mk hx0
        generalize hgx : l.getD k 0 = x at hx hx0
        have HGX := Aside0.mk hgx
        have hxb : (x == 0) = false := by rw [beq_eq_false_iff_ne]; exact hx0
        clear hgx hx0
        go_wp2_with fail
        exact ⟨⟨k + 1, by omega, by go_num, ⟨fun j hj => by
          by_cases e : j = k
          · subst e; exact HX.out
          · exact hno.out j (by omega)⟩⟩, by simp [intOf]; omega⟩
    · obtain rfl : k = l.length := by omega
      go_wp2_with fail
      go_loop [4, 5, 6, 8, 9] (fun n b o i m => ∃ (k : Nat) (P : Int) (v : Nat) (ov : Bool), k ≤ l.length ∧ i = .int .i64 k ∧ n = .int .u64 v ∧ b = .bool (decide (P < 0)) ∧ o = .bool ov ∧ Aside0 (P ≠ 0) ∧ Aside0 (P * T.prodL (l.drop k) = T.prodL l) ∧ 1 ≤ v ∧ v ≤ 9223372036854775808 ∧ Aside0 (ov = true → 9223372036854775808 < P.natAbs) ∧ Aside0 (ov = false → v = P.natAbs)) (fun _ _ _ i _ => l.length - (intOf i).toNat)
      case atStart => exact ⟨0, 1, 1, false, by omega, rfl, rfl, rfl, rfl, ⟨by omega⟩, ⟨by simp⟩, by omega, by omega, ⟨by simp⟩, ⟨by simp⟩⟩
      case round =>
        obtain ⟨k, P, v, ov, hk, rfl, rfl, rfl, rfl, hP, hinv, hv1, hv2, ho1, ho2⟩ := hrel
        by_cases hlt : k < l.length
        · obtain ⟨ad, e, hx⟩ := at_int G.out k hlt
          have hin := HL.out _ (getD_mem 0 hlt)
          have hx0 := hno.out k hlt
          have hst := Aside0.mk (prodL_at hlt)
          subst e
          generalize l.getD k 0 = x at hx hin hst hx0
          have hnew := Aside0.mk (show P * x * T.prodL (l.drop (k + 1)) = T.prodL l by rw [← hinv.out, hst.out, Int.mul_assoc])
          have hne := Aside0.mk (Int.mul_ne_zero hP.out hx0)
          have hab := Aside0.mk (show v = P.natAbs → v * x.natAbs = (P * x).natAbs by intro h; rw [h, Int.natAbs_mul])
          have hxa : 1 ≤ x.natAbs := by omega
          have hxb : x.natAbs ≤ 9223372036854775808 := by unfold in64 at hin; omega
          have hov2 := Aside0.mk (fun h => over_mul (P := P) (x := x) h hx0)
          have hovv := Aside0.mk (show v = P.natAbs → 9223372036854775808 < v * x.natAbs → 9223372036854775808 < (P * x).natAbs by intro h; rw [h, Int.natAbs_mul]; exact id)
          have hdiv := Aside0.mk (div_lt (n := v) hxa)
          have hcast := Aside0.mk (Int.natCast_mul v x.natAbs)
          have HB := Aside0.mk (And.intro hxa hxb)
          clear hxa hxb
          by_cases hneg : x < 0
          · have hsg := Aside0.mk (neg_neg hP.out hneg)
            have HM := Aside0.mk (show -(x + 1) + 1 = (x.natAbs : Int) by omega)
            obtain ⟨hin0, hin1⟩ := hin
            clear hx0
            by_cases hov : 9223372036854775808 < v * x.natAbs
            · have hov1 : (9223372036854775808 : Int) / (-(x + 1) + 1) < (v : Int) := by have := hdiv.out.2 hov; rwa [← HM.out] at this
              have HV := Aside0.mk hov
              clear hov
              go_wp2_with fail
              refine ⟨⟨k + 1, P * x, x.natAbs, true, by omega, by go_num, ?_, val_bool hsg.out, rfl, hne, hnew, HB.out.1, HB.out.2, ⟨fun _ => ?_⟩, ⟨nofun⟩⟩, by simp [intOf]; omega⟩
              · exact val_int (by have h1 := HM.out; have h2 := HB.out; omega)
              · cases ov with
                | true => exact hov2.out (ho1.out rfl)
                | false => exact hovv.out (ho2.out rfl) HV.out
            · have hov1 : (v : Int) ≤ (9223372036854775808 : Int) / (-(x + 1) + 1) := Int.not_lt.1 fun h => hov (hdiv.out.1 (by rw [← HM.out]; exact h))
              have HV := Aside0.mk hov
              clear hov
              go_wp2_with fail
              refine ⟨⟨k + 1, P * x, v * x.natAbs, ov, by omega, by go_num, ?_, val_bool hsg.out, rfl, hne, hnew, ?_, by have := HV.out; omega, ⟨fun h => hov2.out (ho1.out h)⟩, ⟨fun h => hab.out (ho2.out h)⟩⟩, by simp [intOf]; omega⟩
              · refine val_int ?_
                have h1 := HM.out
                have h2 := HV.out
                have h3 := hcast.out
                have h4 : (v : Int) * (-(x + 1) + 1) = (v : Int) * (x.natAbs : Int) := congrArg _ h1
                rw [h4]
                rw [← h3, IntKind.wrap_u64]; omega
              · exact Nat.mul_pos hv1 HB.out.1
          · have hsg := Aside0.mk (neg_pos hP.out (show 0 < x by omega))
            have HM := Aside0.mk (show x = (x.natAbs : Int) by omega)
            obtain ⟨hin0, hin1⟩ := hin
            have hxz : (x == 0) = false := by rw [beq_eq_false_iff_ne]; exact hx0
            have hxp : 0 < x := by omega
            clear hx0
            by_cases hov : 9223372036854775808 < v * x.natAbs
            · have hov1 : (9223372036854775808 : Int) / x < (v : Int) := by have := hdiv.out.2 hov; rwa [← HM.out] at this
              have HV := Aside0.mk hov
              clear hov
              go_wp2_with fail
              refine ⟨⟨k + 1, P * x, x.natAbs, true, by omega, by go_num, ?_, val_bool hsg.out, rfl, hne, hnew, HB.out.1, HB.out.2, ⟨fun _ => ?_⟩, ⟨nofun⟩⟩, by simp [intOf]; omega⟩
              · exact val_int (by have h1 := HM.out; have h2 := HB.out; omega)
              · cases ov with
                | true => exact hov2.out (ho1.out rfl)
                | false => exact hovv.out (ho2.out rfl) HV.out
            · have hov1 : (v : Int) ≤ (9223372036854775808 : Int) / x := Int.not_lt.1 fun h => hov (hdiv.out.1 (by rw [← HM.out]; exact h))
              have HV := Aside0.mk hov
              clear hov
              go_wp2_with fail
              refine ⟨⟨k + 1, P * x, v * x.natAbs, ov, by omega, by go_num, ?_, val_bool hsg.out, rfl, hne, hnew, ?_, by have := HV.out; omega, ⟨fun h => hov2.out (ho1.out h)⟩, ⟨fun h => hab.out (ho2.out h)⟩⟩, by simp [intOf]; omega⟩
              · refine val_int ?_
                have h1 := HM.out
                have h2 := HV.out
                have h3 := hcast.out
                have h4 : (v : Int) * x = (v : Int) * (x.natAbs : Int) := congrArg _ h1
                rw [h4]
                rw [← h3, IntKind.wrap_u64]; omega
              · exact Nat.mul_pos hv1 HB.out.1
        · obtain rfl : k = l.length := by omega
          rw [List.drop_length, T.prodL, Int.mul_one] at hinv
          cases ov with
          | true =>
            have := ho1.out rfl
            have HO := Aside0.mk (show ¬ in64 (T.prodL l) by rw [← hinv.out]; unfold in64; omega)
            clear this
            generalize decide (P < 0) = b
            go_wp2_with fail
            go_ret2
            exact two_ints (by rw [fit_out HO.out])
          | false =>
            have hv := ho2.out rfl
            have HO := Aside0.mk (show (if decide (P < 0) = true then -(v : Int) else v) = T.prodL l by rw [← hinv.out, hv]; exact abs_sign P)
            clear hv ho1 ho2 hP hinv
            generalize decide (P < 0) = b at HO
            cases b
            · have HO2 := Aside0.mk (show (v : Int) = T.prodL l by simpa using HO.out)
              clear HO
              go_wp2_with fail
              all_goals go_ret2
              all_goals refine two_ints ?_
              all_goals rw [← HO2.out]
              all_goals (go_light; first | (rw [fit_out (by unfold in64; omega)]; done) | (rw [fit_in (by unfold in64; omega)]; first | done | (refine Prod.ext ?_ rfl; show _ = _; first | omega | (unfold wrap64; omega))))
            · have HO2 := Aside0.mk (show -(v : Int) = T.prodL l by simpa using HO.out)
              clear HO
              go_wp2_with fail
              all_goals go_ret2
              all_goals refine two_ints ?_
              all_goals rw [← HO2.out]
              all_goals (go_light; first | (rw [fit_out (by unfold in64; omega)]; done) | (rw [fit_in (by unfold in64; omega)]; first | done | (refine Prod.ext ?_ rfl; show _ = _; first | omega | (unfold wrap64; omega))))
set_option maxHeartbeats 8000000 in
set_option maxRecDepth 100000 in
theorem refMul_calls (a b : Int) (w : World) (ha : in64 a) (hb : in64 b) : Calls Try.prog 102 #[.int .i64 a, .int .i64 b] w (TwoBelow (T.fit (a * b)) w) := by
  have HL := Aside0.mk (show ∀ x ∈ [a, b], in64 x by simp [ha, hb])
  clear ha hb
  go_enter Try.func102, Try.ntmps102
  go_wp2_with fail
  refine (refProd_calls [a, b] _ 2 _ HL.out (by simp) (lit_ints' _ [a, b] 2 _ rfl (by simp))).mono ?_
  rintro e w' ⟨rfl, rfl⟩
  rw [two_mul]
  go_wp2_with fail
  go_ret2
  exact ⟨rfl, by (repeat (first | exact Below.refl _ _ | apply below_alloc | apply below_drew | apply pw_below_drewN))⟩
end Go.Proofs.Ytdfijdajkdkkfaa
