/-
  Walk: the law AtomicAgrees.
-/
import Derived.Test.YtdfijdajkdkkfaaA8
set_option linter.unusedVariables false
set_option linter.unusedSimpArgs false
namespace Go.Proofs.Ytdfijdajkdkkfaa
open Go.RowKit Go.Proofs.YtdfijdajkdkkfaaW.PrintWords Go.Proofs.YtdfijdajkdkkfaaW.PrintLast
open T
set_option maxHeartbeats 8000000 in
set_option maxRecDepth 100000 in
theorem atomicAgrees_calls (s t : List Int) (A B : Option Addr) (c d : Nat) (w : World) (ms : s.length ≤ 17592186044416) (mt : t.length ≤ 17592186044416) (hc : s.length ≤ c) (hd : t.length ≤ d) (gs : Cint w A s) (gt : Cint w B t) :
    Calls Try.prog 16 #[.slice A s.length c, .slice B t.length d] w fun e w' => e = .returned (.bool true) ∧ Below w.heap.size w w' := by
  have GS := Aside0.mk gs
  have GT := Aside0.mk gt
  have H1 := Aside0.mk (fun (W : World) (h : Below w.heap.size w W) => (atAgree_calls s t A B c d W ms mt hc hd (Kd.C_below gs h) (Kd.C_below gt h)).mono (fun _ _ hq => NewInts.some hq))
  have H2 := Aside0.mk (fun (W : World) (h : Below w.heap.size w W) => refAgree_calls s t A B c d W hc hd (Kd.C_below gs h) (Kd.C_below gt h))
  have H3 := Aside0.mk (fun (W : World) (h : Below w.heap.size w W) => (atAgree_calls t s B A d c W mt ms hd hc (Kd.C_below gt h) (Kd.C_below gs h)).mono (fun _ _ hq => NewInts.some hq))
  have et : T.agree t s = T.agree s t := by rcases agree_turn s t with h | h <;> exact h.symm
  rw [et] at H3
  clear gs gt et
  generalize T.agree s t = p at H1 H2 H3
  obtain ⟨r, x⟩ := p
  go_enter Try.func16, Try.ntmps16
  go_wp2_with fail
  refine (H1.out _ (Below.refl _ _)).mono ?_
  rintro e w1 ⟨A1, c1, rfl, k1, g1, hb⟩
  have k1' : r.length ≤ c1 := k1
  have hb1 := Aside0.mk hb
  have G1 := Aside0.mk (show Cint w1 A1 r from g1)
  clear hb g1 k1
  go_wp2_with fail
  refine (H2.out _ hb1.out).mono ?_
  rintro e w2 ⟨A2, c2, rfl, k2, g2, hb⟩
  have k2' : r.length ≤ c2 := k2
  have hb2 := Aside0.mk (then_below hb1.out hb)
  have G12 := Aside0.mk (Kd.C_below G1.out hb)
  have G2 := Aside0.mk (show Cint w2 A2 r from g2)
  clear hb g2 k2
  go_wp2_with fail
  refine (H3.out _ hb2.out).mono ?_
  rintro e w3 ⟨A3, c3, rfl, k3, g3, hb⟩
  have k3' : r.length ≤ c3 := k3
  have hb3 := Aside0.mk (then_below hb2.out hb)
  have G13 := Aside0.mk (Kd.C_below G12.out hb)
  have G23 := Aside0.mk (Kd.C_below G2.out hb)
  have G3 := Aside0.mk (show Cint w3 A3 r from g3)
  have hxx : (x == x) = true := by simp
  clear hb g3 k3
  go_wp2_with fail
  refine (refInts_calls r r A1 A2 c1 c2 _ k1' k2' G13.out G23.out).mono ?_
  rintro e w4 ⟨rfl, hb⟩
  rw [show decide (r = r) = true by simp]
  have hb4 := Aside0.mk (then_below hb3.out hb)
  have G14 := Aside0.mk (Kd.C_below G13.out hb)
  have G34 := Aside0.mk (Kd.C_below G3.out hb)
  clear hb
  go_wp2_with fail
  refine (refInts_calls r r A1 A3 c1 c3 _ k1' k3' G14.out G34.out).mono ?_
  rintro e w5 ⟨rfl, hb⟩
  rw [show decide (r = r) = true by simp]
  have hb5 := Aside0.mk (then_below hb4.out hb)
  clear hb
  go_wp2_with fail
  refine (works4_calls _).mono ?_; rintro e w6 ⟨rfl, hb⟩
  go_wp2_with fail
  go_ret
  exact ret_below rfl (then_below hb5.out hb)
end Go.Proofs.Ytdfijdajkdkkfaa
