/-
  Walks: whole numbers of 64 bits, the program's.
-/
import Derived.Test.YtdfijdajkdkkfaaW9
set_option linter.unusedVariables false
set_option linter.unusedSimpArgs false
namespace Go.Proofs.Ytdfijdajkdkkfaa
open Go.RowKit Go.Proofs.YtdfijdajkdkkfaaW.PrintWords Go.Proofs.YtdfijdajkdkkfaaW.PrintLast
open T
/-- A number, if it fits. -/
def T.fit (n : Int) : Int × Int := if -9223372036854775808 ≤ n ∧ n ≤ 9223372036854775807 then (n, 0) else (0, 9)
def T.resS (a b : Int) : Int := if a = 0 then b else if a = -1 ∨ a = 1 then 0 else if (b.tmod a < 0 ∧ 0 < a) ∨ (0 < b.tmod a ∧ a < 0) then b.tmod a + a else b.tmod a
abbrev TwoInts (p : Int × Int) (w : World) (e : Ending) (w' : World) : Prop := e = .returned (.tuple #[.int .i64 p.1, .int .i64 p.2]) ∧ w = w'
theorem two_ints {p : Int × Int} {a b : Int} {w : World} (h : p = (a, b)) : TwoInts p w (.returned (.tuple #[.int .i64 a, .int .i64 b])) w := by subst h; exact ⟨rfl, rfl⟩
theorem fit_in {n : Int} (h : in64 n) : T.fit n = (n, 0) := if_pos h
theorem fit_out {n : Int} (h : ¬ in64 n) : T.fit n = (0, 9) := if_neg h
set_option maxHeartbeats 8000000 in
set_option maxRecDepth 100000 in
theorem numAdd_calls (a b : Int) (w : World) (ha : in64 a) (hb : in64 b) : Calls Try.prog 135 #[.int .i64 a, .int .i64 b] w (TwoInts (T.fit (a + b)) w) := by
  obtain ⟨a0, a1⟩ := ha
  obtain ⟨b0, b1⟩ := hb
  go_enter Try.func135, Try.ntmps135
  go_wp2_with fail
  all_goals go_ret2
  all_goals refine two_ints ?_
  all_goals (go_light; first | (rw [fit_out (by unfold in64; omega)]; done) | (rw [fit_in (by unfold in64; omega)]; first | done | (refine Prod.ext ?_ rfl; show _ = _; unfold wrap64; omega)))
set_option maxHeartbeats 8000000 in
set_option maxRecDepth 100000 in
theorem numSub_calls (a b : Int) (w : World) (ha : in64 a) (hb : in64 b) : Calls Try.prog 136 #[.int .i64 a, .int .i64 b] w (TwoInts (T.fit (a - b)) w) := by
  obtain ⟨a0, a1⟩ := ha
  obtain ⟨b0, b1⟩ := hb
  go_enter Try.func136, Try.ntmps136
  go_wp2_with fail
  all_goals go_ret2
  all_goals refine two_ints ?_
  all_goals (go_light; first | (rw [fit_out (by unfold in64; omega)]; done) | (rw [fit_in (by unfold in64; omega)]; first | done | (refine Prod.ext ?_ rfl; show _ = _; unfold wrap64; omega)))
set_option maxHeartbeats 8000000 in
set_option maxRecDepth 100000 in
theorem numNeg_calls (a : Int) (w : World) (ha : in64 a) : Calls Try.prog 156 #[.int .i64 a] w (TwoInts (T.fit (-a)) w) := by
  have HA := Aside0.mk ha
  clear ha
  go_enter Try.func156, Try.ntmps156
  go_wp2_with fail
  refine (numSub_calls 0 a _ (by unfold in64; omega) HA.out).mono ?_; rintro e w' ⟨rfl, rfl⟩
  go_wp2_with fail
  go_ret2
  exact two_ints (by simp)
theorem ret_ub {a b : Int} {c d : Bool} (h1 : a = b) (h2 : c = d) : Ending.returned (.tuple #[.int .u64 a, .bool c]) = .returned (.tuple #[.int .u64 b, .bool d]) := by rw [h1, h2]
def T.sgn (a : Int) : Int := if a < 0 then -1 else if 0 < a then 1 else 0
theorem numSgn_calls (a : Int) (w : World) : Calls Try.prog 157 #[.int .i64 a] w fun e w' => e = .returned (.int .i64 (T.sgn a)) ∧ w = w' := by
  go_enter Try.func157, Try.ntmps157
  go_wp2_with fail
  all_goals go_ret
  all_goals exact ⟨ret_int (by unfold T.sgn; (repeat' split) <;> omega), rfl⟩
set_option maxHeartbeats 8000000 in
set_option maxRecDepth 100000 in
theorem numAbs_calls (a : Int) (w : World) (ha : in64 a) : Calls Try.prog 158 #[.int .i64 a] w (TwoInts (T.fit (if a < 0 then -a else a)) w) := by
  have HA := Aside0.mk ha
  clear ha
  go_enter Try.func158, Try.ntmps158
  go_wp2_with (go_at_call 156; refine (numNeg_calls a _ HA.out).mono ?_; rintro e w' ⟨rfl, rfl⟩)
  all_goals go_ret2
  · exact two_ints rfl
  · exact two_ints (by rw [fit_in HA.out])
set_option maxHeartbeats 8000000 in
set_option maxRecDepth 100000 in
theorem numSize_calls (a : Int) (w : World) (ha : in64 a) : Calls Try.prog 167 #[.int .i64 a] w fun e w' => e = .returned (.tuple #[.int .u64 (a.natAbs : Int), .bool (decide (a < 0))]) ∧ w = w' := by
  obtain ⟨a0, a1⟩ := ha
  go_enter Try.func167, Try.ntmps167
  go_wp2_with fail
  all_goals go_ret2
  · refine ⟨ret_ub ?_ (by simp; omega), rfl⟩
    rw [IntKind.wrap_u64, IntKind.wrap_u64]; omega
  · exact ⟨ret_ub (by omega) (by simp; omega), rfl⟩
set_option maxHeartbeats 8000000 in
set_option maxRecDepth 100000 in
theorem numSigned_calls (n : Nat) (b : Bool) (w : World) (h1 : 1 ≤ n) (h2 : n ≤ 9223372036854775808) : Calls Try.prog 168 #[.int .u64 n, .bool b] w (TwoInts (T.fit (if b = true then -(n : Int) else n)) w) := by
  cases b
  · go_enter Try.func168, Try.ntmps168
    go_wp2_with fail
    all_goals go_ret2
    all_goals refine two_ints ?_
    all_goals (go_light; first | (rw [fit_out (by unfold in64; omega)]; done) | (rw [fit_in (by unfold in64; omega)]; first | done | (refine Prod.ext ?_ rfl; show _ = _; first | omega | (unfold wrap64; omega))))
  · go_enter Try.func168, Try.ntmps168
    go_wp2_with fail
    all_goals go_ret2
    all_goals refine two_ints ?_
    all_goals (go_light; first | (rw [fit_out (by unfold in64; omega)]; done) | (rw [fit_in (by unfold in64; omega)]; first | done | (refine Prod.ext ?_ rfl; show _ = _; first | omega | (unfold wrap64; omega))))
theorem abs_sign (P : Int) : (if decide (P < 0) = true then -(P.natAbs : Int) else P.natAbs) = P := by
  by_cases h : P < 0 <;> simp [h] <;> omega
theorem numSigned_at {P Q : Int} (w : World) (h1 : 1 ≤ P.natAbs) (h2 : P.natAbs ≤ 9223372036854775808) (e : P = Q) : Calls Try.prog 168 #[.int .u64 P.natAbs, .bool (decide (P < 0))] w (TwoInts (T.fit Q) w) := by
  subst e
  have hs := numSigned_calls P.natAbs (decide (P < 0)) w h1 h2
  rw [abs_sign] at hs
  exact hs
def T.prodL : List Int → Int
  | [] => 1
  | x :: xs => x * T.prodL xs
theorem prodL_at {l : List Int} {k : Nat} (hk : k < l.length) : T.prodL (l.drop k) = l.getD k 0 * T.prodL (l.drop (k + 1)) := by rw [drop_cons 0 hk, T.prodL]
theorem prodL_end {l : List Int} {k : Nat} (hk : l.length ≤ k) : T.prodL (l.drop k) = 1 := by rw [List.drop_of_length_le hk, T.prodL]
theorem neg_mul {P x : Int} (hP : P ≠ 0) (hx : x ≠ 0) : (decide (P < 0) != decide (x < 0)) = decide (P * x < 0) := by
  rcases Int.lt_or_gt_of_ne hP with h | h <;> rcases Int.lt_or_gt_of_ne hx with h' | h'
  · have := Int.mul_pos_of_neg_of_neg h h'; simp [h, h']; omega
  · have := Int.mul_neg_of_neg_of_pos h h'; have h2 : ¬ x < 0 := by omega
    simp [h, h2, this]
  · have := Int.mul_neg_of_pos_of_neg h h'; have h2 : ¬ P < 0 := by omega
    simp [h', h2, this]
  · have := Int.mul_pos h h'; have h2 : ¬ P < 0 := by omega
    have h3 : ¬ x < 0 := by omega
    simp [h2, h3]; omega
theorem over_mul {P x : Int} (hP : 9223372036854775808 < P.natAbs) (hx : x ≠ 0) : 9223372036854775808 < (P * x).natAbs := by
  rw [Int.natAbs_mul]
  have : 1 ≤ x.natAbs := by omega
  have := Nat.mul_le_mul_left P.natAbs this
  omega
theorem div_lt {n m : Nat} (hm : 1 ≤ m) : ((9223372036854775808 : Int) / (m : Int) < (n : Int)) ↔ 9223372036854775808 < n * m := by
  rw [Int.ediv_lt_iff_lt_mul (by omega)]
  have : ((n * m : Nat) : Int) = (n : Int) * (m : Int) := Int.natCast_mul _ _
  omega
set_option maxHeartbeats 8000000 in
set_option maxRecDepth 100000 in
theorem numProd_calls (l : List Int) (A : Option Addr) (c : Nat) (w : World) (hl : ∀ x ∈ l, in64 x) (hc : l.length ≤ c) (g : Cint w A l) : Calls Try.prog 159 #[.slice A l.length c] w (TwoInts (T.fit (T.prodL l)) w) := by
  have G := Aside0.mk g
  have HL := Aside0.mk hl
  have ml := Kd.C_max g
  clear g hl
  go_enter Try.func159, Try.ntmps159
  go_wp2_with fail
  go_loop [4, 5, 6, 12] (fun n b o i => ∃ (k : Nat) (P : Int) (v : Nat) (ov : Bool), k ≤ l.length ∧ i = .int .i64 k ∧ n = .int .u64 v ∧ b = .bool (decide (P < 0)) ∧ o = .bool ov ∧ Aside0 (P ≠ 0) ∧ Aside0 (P * T.prodL (l.drop k) = T.prodL l) ∧ Aside0 (ov = true → 9223372036854775808 < P.natAbs) ∧ Aside0 (ov = false → v = P.natAbs ∧ P.natAbs ≤ 9223372036854775808)) (fun _ _ _ i => l.length - (intOf i).toNat)
  case atStart => exact ⟨0, 1, 1, false, by omega, rfl, rfl, rfl, rfl, ⟨by omega⟩, ⟨by simp⟩, ⟨by simp⟩, ⟨by simp⟩⟩
  case round =>
    obtain ⟨k, P, v, ov, hk, rfl, rfl, rfl, rfl, hP, hinv, ho1, ho2⟩ := hrel
    by_cases hlt : k < l.length
    · obtain ⟨ad, e, hx⟩ := at_int G.out k hlt
      have hin := Aside0.mk (HL.out _ (getD_mem 0 hlt))
      have hst := Aside0.mk (prodL_at hlt)
      subst e
      generalize l.getD k 0 = x at hx hin hst
      by_cases hx0 : x = 0
      · subst hx0
        go_wp2_with fail
        refine (numSize_calls 0 _ hin.out).mono ?_; rintro e w' ⟨rfl, rfl⟩
        go_wp2_with fail
        go_ret2
        exact two_ints (by rw [← hinv.out, hst.out]; simp [T.fit])
      · have HX := Aside0.mk hx0
        have hm1 : 1 ≤ x.natAbs := by omega
        have hnb := Aside0.mk (neg_mul hP.out hx0)
        have hne := Aside0.mk (Int.mul_ne_zero hP.out hx0)
        clear hx0
        go_wp2_with fail
        refine (numSize_calls x _ hin.out).mono ?_; rintro e w' ⟨rfl, rfl⟩
        have hab := Aside0.mk (show P.natAbs * x.natAbs = (P * x).natAbs by rw [Int.natAbs_mul])
        generalize hm : x.natAbs = m at *
        have HM := Aside0.mk hm
        clear hm
        have hm0 : ((m : Int) == 0) = false := by rw [beq_eq_false_iff_ne]; omega
        have hnew := Aside0.mk (show P * x * T.prodL (l.drop (k + 1)) = T.prodL l by rw [← hinv.out, hst.out, Int.mul_assoc])
        cases ov with
        | true =>
          have hov2 := Aside0.mk (over_mul (ho1.out rfl) HX.out)
          go_wp2_with fail
          exact ⟨⟨k + 1, P * x, v, true, by omega, by go_num, rfl, val_bool hnb.out, rfl, hne, hnew, ⟨fun _ => hov2.out⟩, ⟨nofun⟩⟩, by simp [intOf]; omega⟩
        | false =>
          obtain ⟨rfl, hvb⟩ := ho2.out rfl
          by_cases hov : 9223372036854775808 < P.natAbs * m
          · have hov1 := (div_lt (n := P.natAbs) hm1).2 hov
            go_wp2_with fail
            exact ⟨⟨k + 1, P * x, _, true, by omega, by go_num, rfl, val_bool hnb.out, rfl, hne, hnew, ⟨fun _ => hab.out ▸ hov⟩, ⟨nofun⟩⟩, by simp [intOf]; omega⟩
          · have hov1 : (P.natAbs : Int) ≤ 9223372036854775808 / (m : Int) := Int.not_lt.1 fun h => hov ((div_lt (n := P.natAbs) hm1).1 h)
            have HV := Aside0.mk hov
            have hpm : (P.natAbs : Int) * (m : Int) = ((P.natAbs * m : Nat) : Int) := (Int.natCast_mul _ _).symm
            have HPM := Aside0.mk hpm
            clear hov hpm
            go_wp2_with fail
            refine ⟨⟨k + 1, P * x, P.natAbs * m, false, by omega, by go_num, ?_, val_bool hnb.out, rfl, hne, hnew, ⟨nofun⟩, ⟨fun _ => ⟨hab.out, hab.out ▸ Nat.not_lt.1 HV.out⟩⟩⟩, by simp [intOf]; omega⟩
            refine val_int ?_
            have := HV.out
            rw [HPM.out, IntKind.wrap_u64]; omega
    · obtain rfl : k = l.length := by omega
      rw [List.drop_length, T.prodL, Int.mul_one] at hinv
      cases ov with
      | true =>
        have := ho1.out rfl
        go_wp2_with fail
        go_ret2
        exact two_ints (by rw [fit_out (by rw [← hinv.out]; unfold in64; omega)])
      | false =>
        obtain ⟨rfl, hvb⟩ := ho2.out rfl
        have hp0 := hP.out
        have hs := Aside0.mk (numSigned_at w (by omega) hvb hinv.out)
        clear hinv hP hp0 ho1 ho2
        generalize decide (P < 0) = b at hs ⊢
        generalize P.natAbs = v at hs hvb ⊢
        go_wp2_with fail
        refine hs.out.mono ?_
        rintro e w' ⟨rfl, rfl⟩
        go_wp2_with fail
        go_ret2
        exact two_ints rfl
theorem two_mul (a b : Int) : T.prodL [a, b] = a * b := by simp [T.prodL]
set_option maxHeartbeats 8000000 in
set_option maxRecDepth 100000 in
theorem numMul_calls (a b : Int) (w : World) (ha : in64 a) (hb : in64 b) : Calls Try.prog 137 #[.int .i64 a, .int .i64 b] w fun e w' => e = .returned (.tuple #[.int .i64 (T.fit (a * b)).1, .int .i64 (T.fit (a * b)).2]) ∧ Below w.heap.size w w' := by
  have HL := Aside0.mk (show ∀ x ∈ [a, b], in64 x by simp [ha, hb])
  clear ha hb
  go_enter Try.func137, Try.ntmps137
  go_wp2_with fail
  refine (numProd_calls [a, b] _ 2 _ HL.out (by simp) (lit_ints' _ [a, b] 2 _ rfl (by simp))).mono ?_
  rintro e w' ⟨rfl, rfl⟩
  rw [two_mul]
  go_wp2_with fail
  go_ret2
  exact ⟨rfl, by (repeat (first | exact Below.refl _ _ | apply below_alloc | apply below_drew | apply pw_below_drewN))⟩
theorem tmod_in {a b : Int} (h : a ≠ 0) : -(a.natAbs : Int) < b.tmod a ∧ b.tmod a < a.natAbs ∧ (0 ≤ b → 0 ≤ b.tmod a) ∧ (b ≤ 0 → b.tmod a ≤ 0) := by
  have h1 := Int.natAbs_tmod b a
  have h2 : b.natAbs % a.natAbs < a.natAbs := Nat.mod_lt _ (by omega)
  generalize hr : b.natAbs % a.natAbs = r at h1 h2
  refine ⟨by clear hr; omega, by clear hr; omega, fun hb => Int.tmod_nonneg a hb, fun hb => ?_⟩
  have := Int.tmod_nonneg (a := -b) a (by clear hr h1 h2; omega)
  rw [Int.neg_tmod] at this; clear hr h1 h2
  omega
theorem resS_zero (b : Int) : T.resS 0 b = b := rfl
theorem resS_neg (b : Int) : T.resS (-1) b = 0 := rfl
theorem resS_in {a b : Int} (h0 : a ≠ 0) (h1 : a ≠ -1) : T.resS a b = if (b.tmod a != 0 && !(decide (b.tmod a < 0) == decide (a < 0))) = true then b.tmod a + a else b.tmod a := by
  unfold T.resS
  rw [if_neg h0]
  by_cases h2 : a = 1
  · subst h2
    simp [Int.tmod_one]
  · rw [if_neg (by omega)]
    rcases Int.lt_or_gt_of_ne h0 with h | h
    · have h3 : ¬ 0 < a := by omega
      by_cases h4 : b.tmod a < 0
      · have h5 : ¬ 0 < b.tmod a := by omega
        simp [h, h3, h4, h5]
      · by_cases h5 : b.tmod a = 0
        · simp [h5]
        · have h6 : 0 < b.tmod a := by omega
          simp [h, h3, h4, h5, h6]
    · have h3 : ¬ a < 0 := by omega
      by_cases h4 : b.tmod a < 0
      · have h5 : ¬ 0 < b.tmod a := by omega
        have h6 : b.tmod a ≠ 0 := by omega
        simp [h, h3, h4, h5, h6]
      · simp [h, h3, h4]
set_option maxHeartbeats 8000000 in
set_option maxRecDepth 100000 in
theorem numRes_calls (a b : Int) (w : World) (ha : in64 a) (hb : in64 b) : Calls Try.prog 138 #[.int .i64 a, .int .i64 b] w fun e w' => e = .returned (.int .i64 (T.resS a b)) ∧ w = w' := by
  by_cases h0 : a = 0
  · subst h0
    go_enter Try.func138, Try.ntmps138
    go_wp2_with fail
    go_ret
    exact ⟨ret_int (resS_zero b).symm, rfl⟩
  by_cases h1 : a = -1
  · subst h1
    go_enter Try.func138, Try.ntmps138
    go_wp2_with fail
    go_ret
    exact ⟨ret_int (resS_neg b).symm, rfl⟩
  have hr := Aside0.mk (resS_in (b := b) h0 h1)
  have ht := Aside0.mk (tmod_in (b := b) h0)
  have hab := Aside0.mk (And.intro ha hb)
  have h0' : (a == 0) = false := by simpa using h0
  have h1' : (a == -1) = false := by simpa using h1
  have h0'' : (a != 0) = true := by simpa using h0
  have H0 := Aside0.mk h0
  clear h0 h1 ha hb
  cases hq : (b.tmod a != 0 && !(decide (b.tmod a < 0) == decide (a < 0)))
  · have hv := Aside0.mk (by have := hr.out; rw [hq] at this; exact this)
    clear hr
    go_enter Try.func138, Try.ntmps138
    go_wp2_with fail
    all_goals first
      | exact absurd ‹a = 0› H0.out
      | (go_ret; exact ⟨ret_int (by rw [hv.out, if_neg (by decide)] <;> omega), rfl⟩)
  · have hv := Aside0.mk (by have := hr.out; rw [hq] at this; exact this)
    clear hr
    have hs := Aside0.mk (show -9223372036854775808 ≤ b.tmod a + a ∧ b.tmod a + a ≤ 9223372036854775807 by
      have ht := ht.out
      have h := hab.out
      unfold in64 at h
      simp at hq
      have := H0.out
      omega)
    go_enter Try.func138, Try.ntmps138
    go_wp2_with fail
    all_goals first
      | exact absurd ‹a = 0› H0.out
      | (go_ret; refine ⟨ret_int ?_, rfl⟩; rw [hv.out]; have := hs.out; clear hv; first | (simp_all; done) | (simp only [if_true]; unfold wrap64; omega))
end Go.Proofs.Ytdfijdajkdkkfaa
