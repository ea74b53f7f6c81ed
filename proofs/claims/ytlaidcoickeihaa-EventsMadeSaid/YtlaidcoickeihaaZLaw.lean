/- The statement EventsMade of chapter 21: the events of any messages by any maps are the same in both programs; for every input, no condition. -/
import Derived.Test.YtlaidcoickeihaaZP2
import Derived.Test.YtlaidcoickeihaaRows
import Derived.WalkKit
import Derived.ProofKit
import Derived.OpenShut
import Derived.ShutString
import Derived.ChangeOld
import Derived.Below
import Derived.SizedLaws
import Derived.Carry
namespace Go.Proofs.Ytlaidcoickeihaa.eventsMade
open Go.ChangeShapes Go.WideShapes Go.ChangeAt Go.RowKit Go.Proofs.Ytlaidcoickeihaa.Fit Go.Proofs.Ytlaidcoickeihaa.Wd.PrintWords Go.Proofs.Ytlaidcoickeihaa.SEventsMade Go.Proofs.Ytlaidcoickeihaa.Plain
set_option linter.unusedVariables false
theorem own : ownKnob Try.prog.godebug = none := by kernel_rfl
theorem laidOut : laidOutB Try.prog = true := by kernel_rfl
set_option maxRecDepth 100000 in
theorem lifted (os : Os) (started : os.Started) (H : Type) (enc : TypeId × Value → H) :
    ReturnsInHanded {} Try.checked os 7 .any (Rows.eventsMadeSpec.pre6 enc Try.prog Try.f7 Rows.eventsMadeRow.domain false) (Rows.eventsMadeSpec.post enc Try.prog Try.f7 false true false false) := by
  refine returnsInHanded_of_change_sized (C := Try.checked) own started (by kernel_rfl) Try.func7
    (ChangeSpec.witness6 (enc := enc) (C := Try.checked) false ⟨#[], #[.slice none 0 0, .slice none 0 0, .int .i64 0], []⟩ 8 (by kernel_rfl) (by kernel_rfl) (by kernel_rfl) (by kernel_rfl)) ?_
  intro W base args ds gs before hval0 hW hcnd hsz0 _
  have hsz : (DataW.weightsEach Try.prog (Try.f7.params.toList ++ Rows.eventsMadeSpec.plain.varTypes Try.prog) (ds ++ gs)).all (· ≤ reachBytes) = true := hsz0
  have hval : ∀ (j : Nat) t v, Try.f7.params[j]? = some t → args[j]? = some v → Value.okWide Try.prog W .any base t v := hval0
  have hW' := hW
  obtain ⟨p, q, hA0, hV, rfl, hfz, hnd⟩ := hW
  have hA : DataW.TrodAll enc Try.prog W 0 (fun _ => true) true Try.f7.params.toList args.toList ds p := hA0
  rw [Try.params7] at hA hval hsz
  obtain ⟨v0, vs0, d0, ds0, p0, q0, hargs, rfl, rfl, h0, r0⟩ := trodAll_cons hA
  obtain ⟨v1, vs1, d1, ds1, p1, q1, rfl, rfl, rfl, h1, r1⟩ := trodAll_cons r0
  obtain ⟨v2, vs2, d2, ds2, p2, q2, rfl, rfl, rfl, h2, r2⟩ := trodAll_cons r1
  obtain ⟨rfl, rfl, rfl⟩ := trodAll_nil r2
  obtain rfl : args = #[v0, v1, v2] := by cases args; simp_all
  obtain ⟨rfl, rfl⟩ := trodVars_none hV
  have k0_ := h0
  have lt0 : ∀ x ∈ p0, x.block < W.heap.size := by obtain ⟨m, hm⟩ := k0_; exact DataW.trod_lt m _ _ _ hm
  obtain ⟨a0, K0, g0⟩ := Fit.param (P := Try.prog) (t := 43) (Fit.slice (B := 88) Try.underlying43 (by kernel_rfl) (show Fit _ _ k48 _ from Fit.iso (Fit.struct Try.underlying48 (by kernel_rfl) (FitF.cons (Fit.string Try.underlying9 (by kernel_rfl)) rfl (FitF.cons (Fit.int Try.underlying3 (by kernel_rfl)) rfl (FitF.cons (Fit.int Try.underlying3 (by kernel_rfl)) rfl (FitF.cons (Fit.string Try.underlying9 (by kernel_rfl)) rfl (FitF.cons (show Fit _ _ k46 _ from Fit.iso (Fit.struct Try.underlying46 (by kernel_rfl) (FitF.cons (Fit.int Try.underlying2 (by kernel_rfl)) rfl (FitF.last (Fit.int Try.underlying2 (by kernel_rfl)) rfl))) _ (fun p => ⟨p.1, p.2⟩) (fun _ => rfl)) rfl (FitF.cons (show Fit _ _ k46 _ from Fit.iso (Fit.struct Try.underlying46 (by kernel_rfl) (FitF.cons (Fit.int Try.underlying2 (by kernel_rfl)) rfl (FitF.last (Fit.int Try.underlying2 (by kernel_rfl)) rfl))) _ (fun p => ⟨p.1, p.2⟩) (fun _ => rfl)) rfl (FitF.last (Fit.bool Try.underlying4 (by kernel_rfl)) rfl)))))))) _ (fun p => ⟨p.1, p.2.1, p.2.2.1, p.2.2.2.1, p.2.2.2.2.1, p.2.2.2.2.2.1, p.2.2.2.2.2.2⟩) (fun _ => rfl)) (by kernel_rfl)) hsz (j := 0) rfl rfl h0
  obtain ⟨A0, n0, c0, rfl⟩ := okWide_slice Try.underlying43 (hval 0 43 v0 rfl rfl)
  obtain ⟨B0, m0, e0, hc0, hC0⟩ := K0
  simp only [Value.cells, List.cons.injEq, Value.slice.injEq, and_true] at e0
  obtain ⟨rfl, rfl, rfl⟩ := e0
  have k1_ := h1
  have lt1 : ∀ x ∈ p1, x.block < W.heap.size := by obtain ⟨m, hm⟩ := k1_; exact DataW.trod_lt m _ _ _ hm
  obtain ⟨a1, K1, g1⟩ := Fit.param (P := Try.prog) (t := 25) (Fit.slice (B := 40) Try.underlying25 (by kernel_rfl) (show Fit _ _ k37 _ from Fit.iso (Fit.struct Try.underlying37 (by kernel_rfl) (FitF.cons (Fit.string Try.underlying9 (by kernel_rfl)) rfl (FitF.cons (Fit.int Try.underlying3 (by kernel_rfl)) rfl (FitF.cons (Fit.int Try.underlying3 (by kernel_rfl)) rfl (FitF.last (Fit.int Try.underlying3 (by kernel_rfl)) rfl))))) _ (fun p => ⟨p.1, p.2.1, p.2.2.1, p.2.2.2⟩) (fun _ => rfl)) (by kernel_rfl)) hsz (j := 1) rfl rfl h1
  obtain ⟨A1, n1, c1, rfl⟩ := okWide_slice Try.underlying25 (hval 1 25 v1 rfl rfl)
  obtain ⟨B1, m1, e1, hc1, hC1⟩ := K1
  simp only [Value.cells, List.cons.injEq, Value.slice.injEq, and_true] at e1
  obtain ⟨rfl, rfl, rfl⟩ := e1
  have k2_ := h2
  have lt2 : ∀ x ∈ p2, x.block < W.heap.size := by obtain ⟨m, hm⟩ := k2_; exact DataW.trod_lt m _ _ _ hm
  obtain ⟨a2, K2, g2⟩ := Fit.param (P := Try.prog) (t := 3) (Fit.int Try.underlying3 (by kernel_rfl)) hsz (j := 2) rfl rfl h2
  obtain ⟨b2, rfl⟩ := okWide_int Try.underlying3 (hval 2 3 v2 rfl rfl)
  have e2 : [Value.int .i64 b2] = [Value.int .i64 a2] := K2
  simp only [List.cons.injEq, Value.int.injEq, true_and, and_true] at e2
  obtain rfl := e2.symm
  clear hA0 hval0 hsz0 hsz
  obtain ⟨k, hk⟩ := SEventsMade.pure a0 a1 a2 (fun m hm => ⟨i64_of (g0.2 m hm).2.2.2.2.1.1, i64_of (g0.2 m hm).2.2.2.2.1.2, i64_of (g0.2 m hm).2.2.2.2.2.1.1, i64_of (g0.2 m hm).2.2.2.2.2.1.2⟩)
  refine (serinettelaw21_EventsMade.calls k _ _ a0 _ _ a1 a2 true W hC0 hc0 hC1 hc1 hk).mono fun e W' ⟨he, bel⟩ => ?_
  subst he
  exact ⟨_, rfl, _, _, _, [], _, [], hW', trodAll_mk1 (shut_bool Try.underlying4 _), (trodAll_cons_mk (Below.trod laidOut (by kernel_rfl) (of_decide_eq_true (by kernel_rfl)) k0_ bel lt0) (trodAll_cons_mk (Below.trod laidOut (by kernel_rfl) (of_decide_eq_true (by kernel_rfl)) k1_ bel lt1) (trodAll_cons_mk (Below.trod laidOut (by kernel_rfl) (of_decide_eq_true (by kernel_rfl)) k2_ bel lt2) trodAll_mk0))), rfl, bel.frame _, fun h => by cases h⟩
theorem over : Rows.eventsMadeRow.holds Try.pinned (OpenSpec.ofChange Rows.eventsMadeSpec) :=
  OpenClaim.holds_of_wide 7 Try.f7 rfl rfl rfl rfl rfl rfl rfl ⟨rfl, rfl, rfl, rfl, rfl⟩ rfl rfl rfl rfl rfl (by kernel_rfl) Try.func7 (by kernel_rfl)
    (of_decide_eq_true (by kernel_rfl)) (by unfold Func.isWrapper; first | (rw [if_pos (by decide +kernel)]; kernel_rfl) | (rw [if_neg (by decide +kernel)]; exact ⟨rfl, rfl⟩))
    (fun os started H enc _ => lifted os started H enc)
theorem proved : Rows.EventsMadeSaid := over
#print axioms proved
end Go.Proofs.Ytlaidcoickeihaa.eventsMade
namespace Go.Proofs.Ytlaidcoickeihaa
/-- The row, under a short name, for the claim. -/
theorem eventsMade_holds : Rows.EventsMadeSaid := eventsMade.proved
end Go.Proofs.Ytlaidcoickeihaa
