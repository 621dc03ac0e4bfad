/-
  Contracts of the session, as the printed ones have it: Copy and Agree, told as shared.
-/
import Derived.Test.YtdfijdajkdkkfaaConv
import Derived.Test.YtdfijdajkdkkfaaA2
import Derived.Test.YtdfijdajkdkkfaaA5
import Derived.Test.YtdfijdajkdkkfaaWMore
set_option linter.unusedVariables false
set_option linter.unusedSimpArgs false
namespace Go.Proofs.Ytdfijdajkdkkfaa
open Go.RowKit Go.Proofs.YtdfijdajkdkkfaaW.PrintWords Go.Proofs.YtdfijdajkdkkfaaW.PrintLast Go.Proofs.YtdfijdajkdkkfaaW.PrintMore
open T
open XU (S25 S33 S33G k25 k33)
instance (n : Int) : Decidable (T.in64 n) := inferInstanceAs (Decidable (_ ∧ _))
/-- A row of the call's own, told as shared. -/
theorem V_new {α : Type} {d : Kd α} {e : Nat} {w : World} {base b2 : Nat} {ok : Nat → Prop} {v : Value} {xs : List α} (h : d.R e w base ok v xs) : Kd.V d e w b2 (fun k => base ≤ k) v xs := by
  have h2 := Kd.R_mono (Kd.R_bound h) (ok' := fun k => base ≤ k) (fun k hk => hk.2.1)
  obtain ⟨A, c, rfl⟩ := Kd.R_slice h2
  exact ⟨A, c, rfl, (Kd.R_reads' h2).2.1, Kd.R_F h2⟩
theorem V_toL {e : Nat} {w : World} {base : Nat} {ok : Nat → Prop} {v : Value} {xs : List T.Cell} (h : Kd.V kC e w base ok v xs) : Kd.V k33 e w base ok v (T.toL xs) := by
  obtain ⟨A, c, rfl, hl, hf⟩ := h
  refine ⟨A, c, by rw [toL_length], by rw [toL_length]; exact hl, ?_⟩
  rw [toL_length]
  exact fun W hW => C_toL (hf W hW)
theorem copy_shared (A0 A1 : Option Addr) (c0 c1 : Nat) {s : List Int} {cs : List S33} {r1 : List Int} {r2 : List S33} (w : World) (hr0 : Kd.C (Kd.int .i64) w A0 s.length s) (hc0 : s.length ≤ c0) (hr1 : Kd.C k33 w A1 cs.length cs) (hc1 : cs.length ≤ c1) (h : (if T.chk 8 ⟨s, T.ofL cs⟩ = 0 then some (s, cs) else none) = some (r1, r2)) :
    Calls Try.prog 21 #[.agg #[.slice A0 s.length c0, .slice A1 cs.length c1]] w fun e w' => ∃ v0_ v1_ : Value, e = .returned (.agg #[v0_, v1_]) ∧ Kd.V (Kd.int .i64) 3 w' w.heap.size (fun k_ => (w.heap.size ≤ k_)) v0_ r1 ∧ Kd.V k33 33 w' w.heap.size (fun k_ => (w.heap.size ≤ k_)) v1_ r2 ∧ Below w.heap.size w w' := by
  by_cases hk : T.chk 8 ⟨s, T.ofL cs⟩ = 0
  · rw [if_pos hk] at h
    simp only [Option.some.injEq, Prod.mk.injEq] at h
    obtain ⟨rfl, rfl⟩ := h
    have q := (copy_all (SizeOf.sizeOf (⟨s, T.ofL cs⟩ : T.Arr) + 1)).1 ⟨s, T.ofL cs⟩ 8 A0 A1 c0 c1 w (by omega) hk hc0 (by simpa using hc1) hr0 (CC_of hr1)
    simp only [Arr.shape_mk, Arr.cells_mk, ofL_length] at q
    refine q.mono ?_
    rintro e w' ⟨v0, v1, rfl, hM, hb⟩
    obtain ⟨u0, u1, he, g0, g1⟩ := kA_openM hM
    simp only [List.cons.injEq, and_true] at he
    obtain ⟨rfl, rfl⟩ := he
    have z := V_toL (V_new (b2 := w.heap.size) g1)
    rw [Arr.cells_mk, toL_ofL] at z
    exact ⟨v0, v1, rfl, V_new g0, z, hb⟩
  · rw [if_neg hk] at h; cases h
mutual
def T.wfbA : Arr → Bool
  | ⟨s, cs⟩ => decide (s.length ≤ 17592186044416) && s.all (fun d => decide (T.in64 d)) && decide (cs.length ≤ 17592186044416) && T.wfbL cs
def T.wfbL : List T.Cell → Bool
  | [] => true
  | c :: cs => T.wfbC c && T.wfbL cs
def T.wfbC : T.Cell → Bool
  | ⟨k, n, b⟩ => decide (T.in64 k) && decide (T.in64 n) && decide (b.length ≤ 17592186044416) && T.wfbB b
def T.wfbB : List Arr → Bool
  | [] => true
  | b :: bs => T.wfbA b && T.wfbB bs
end
mutual
theorem wfbA_iff : ∀ a, T.wfbA a = true ↔ wfA a
  | ⟨s, cs⟩ => by simp only [T.wfbA, wfA, Bool.and_eq_true, decide_eq_true_eq, List.all_eq_true, wfbL_iff cs, and_assoc]
theorem wfbL_iff : ∀ a, T.wfbL a = true ↔ wfL a
  | [] => by simp [T.wfbL, wfL]
  | c :: cs => by simp only [T.wfbL, wfL, Bool.and_eq_true, wfbC_iff c, wfbL_iff cs]
theorem wfbC_iff : ∀ a, T.wfbC a = true ↔ wfC a
  | ⟨k, n, b⟩ => by simp only [T.wfbC, wfC, Bool.and_eq_true, decide_eq_true_eq, wfbB_iff b, and_assoc]
theorem wfbB_iff : ∀ a, T.wfbB a = true ↔ wfB a
  | [] => by simp [T.wfbB, wfB]
  | b :: bs => by simp only [T.wfbB, wfB, Bool.and_eq_true, wfbA_iff b, wfbB_iff bs]
end
theorem F_toL {w : World} {ok : Nat → Prop} {A : Option Addr} {n : Nat} {xs : List T.Cell} (h : Kd.F kC w ok A n xs) : Kd.F k33 w ok A n (T.toL xs) := fun W hW => C_toL (h W hW)
theorem dy_shared (op : Int) (A0 A1 B0 B1 : Option Addr) (c0 c1 d0 d1 : Nat) {s : List Int} {cs : List S33} {t : List Int} {ds : List S33} {r1 : List Int} {r2 : List S33} {r3 : Int} (w : World) (hr0 : Kd.C (Kd.int .i64) w A0 s.length s) (hc0 : s.length ≤ c0) (hr1 : Kd.C k33 w A1 cs.length cs) (hc1 : cs.length ≤ c1) (hs0 : Kd.C (Kd.int .i64) w B0 t.length t) (hd0 : t.length ≤ d0) (hs1 : Kd.C k33 w B1 ds.length ds) (hd1 : ds.length ≤ d1)
    (h : (if T.wfbA ⟨s, T.ofL cs⟩ = true ∧ T.wfbA ⟨t, T.ofL ds⟩ = true then some ((T.dyS op ⟨s, T.ofL cs⟩ ⟨t, T.ofL ds⟩).1.shape, T.toL (T.dyS op ⟨s, T.ofL cs⟩ ⟨t, T.ofL ds⟩).1.cells, (T.dyS op ⟨s, T.ofL cs⟩ ⟨t, T.ofL ds⟩).2) else none) = some (r1, r2, r3)) :
    Calls Try.prog 53 #[.int .i64 op, .agg #[.slice A0 s.length c0, .slice A1 cs.length c1], .agg #[.slice B0 t.length d0, .slice B1 ds.length d1]] w fun e w' => ∃ v0_ v1_ : Value, e = .returned (.tuple #[.agg #[v0_, v1_], .int .i64 r3]) ∧ Kd.V (Kd.int .i64) 3 w' w.heap.size (fun k_ => (w.heap.size ≤ k_)) v0_ r1 ∧ Kd.V k33 33 w' w.heap.size (fun k_ => (w.heap.size ≤ k_)) v1_ r2 ∧ Below w.heap.size w w' := by
  by_cases hk : T.wfbA ⟨s, T.ofL cs⟩ = true ∧ T.wfbA ⟨t, T.ofL ds⟩ = true
  · rw [if_pos hk] at h
    have q := atDy_calls op ⟨s, T.ofL cs⟩ ⟨t, T.ofL ds⟩ A0 A1 B0 B1 c0 c1 d0 d1 w ((wfbA_iff _).1 hk.1) ((wfbA_iff _).1 hk.2) hc0 (by simpa using hc1) hd0 (by simpa using hd1) hr0 (CC_of hr1) hs0 (CC_of hs1)
    generalize T.dyS op ⟨s, T.ofL cs⟩ ⟨t, T.ofL ds⟩ = p at h q
    simp only [Option.some.injEq, Prod.mk.injEq] at h
    obtain ⟨rfl, rfl, rfl⟩ := h
    simp only [Arr.shape_mk, Arr.cells_mk, ofL_length] at q
    refine q.mono ?_
    rintro e w' ⟨V0, e0, V1, e1, rfl, h2, h3, h4, h5, h6⟩
    exact ⟨_, _, rfl, ⟨V0, e0, rfl, h2, h4⟩, ⟨V1, e1, by rw [toL_length], by rw [toL_length]; exact h3, by rw [toL_length]; exact F_toL h5⟩, h6⟩
  · rw [if_neg hk] at h; cases h
end Go.Proofs.Ytdfijdajkdkkfaa
