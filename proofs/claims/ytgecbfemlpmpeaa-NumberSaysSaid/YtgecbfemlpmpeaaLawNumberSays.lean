/- The law NumberSays: it returns true for every input and changes no argument; no condition. -/
import Derived.Test.YtgecbfemlpmpeaaRows
import Derived.Test.YtgecbfemlpmpeaaMNumberSays
import Derived.Test.YtgecbfemlpmpeaaSNumberSaysFit
import Derived.WalkKit
import Derived.ProofKit
import Derived.OpenShut
import Derived.ShutString
import Derived.ChangeOld
import Derived.Below
import Derived.SizedLaws
import Derived.Carry
namespace Go.Proofs.Ytgecbfemlpmpeaa.numberSays
open Go.ChangeShapes Go.WideShapes Go.ChangeAt Go.RowKit Go.Proofs.Ytgecbfemlpmpeaa.Fit Go.Proofs.Ytgecbfemlpmpeaa.Wd.PrintWords Go.Proofs.Ytgecbfemlpmpeaa.SNumberSays Go.Proofs.Ytgecbfemlpmpeaa.Plain
set_option linter.unusedVariables false
theorem own : ownKnob Try.prog.godebug = none := by kernel_rfl
theorem laidOut : laidOutB Try.prog = true := by kernel_rfl
set_option maxRecDepth 100000 in
theorem lifted (os : Os) (started : os.Started) (H : Type) (enc : TypeId × Value → H) :
    ReturnsInHanded {} Try.checked os 8 .any (Rows.numberSaysSpec.pre6 enc Try.prog Try.f8 Rows.numberSaysRow.domain false) (Rows.numberSaysSpec.post enc Try.prog Try.f8 false true false false) := by
  refine returnsInHanded_of_change_sized (C := Try.checked) own started (by kernel_rfl) Try.func8
    (ChangeSpec.witness6 (enc := enc) (C := Try.checked) false ⟨#[], #[.agg #[.int .i64 0, .int .i64 0], .agg #[.int .i64 0, .int .i64 0]], []⟩ 8 (by kernel_rfl) (by kernel_rfl) (by kernel_rfl) (by kernel_rfl)) ?_
  intro W base args ds gs before hval0 hW hcnd hsz0 _
  have hsz : (DataW.weightsEach Try.prog (Try.f8.params.toList ++ Rows.numberSaysSpec.plain.varTypes Try.prog) (ds ++ gs)).all (· ≤ reachBytes) = true := hsz0
  have hval : ∀ (j : Nat) t v, Try.f8.params[j]? = some t → args[j]? = some v → Value.okWide Try.prog W .any base t v := hval0
  have hW' := hW
  obtain ⟨p, q, hA0, hV, rfl, hfz, hnd⟩ := hW
  have hA : DataW.TrodAll enc Try.prog W 0 (fun _ => true) true Try.f8.params.toList args.toList ds p := hA0
  rw [Try.params8] at hA hval hsz
  obtain ⟨v0, vs0, d0, ds0, p0, q0, hargs, rfl, rfl, h0, r0⟩ := trodAll_cons hA
  obtain ⟨v1, vs1, d1, ds1, p1, q1, rfl, rfl, rfl, h1, r1⟩ := trodAll_cons r0
  obtain ⟨rfl, rfl, rfl⟩ := trodAll_nil r1
  obtain rfl : args = #[v0, v1] := by cases args; simp_all
  obtain ⟨rfl, rfl⟩ := trodVars_none hV
  have k0_ := h0
  have lt0 : ∀ x ∈ p0, x.block < W.heap.size := by obtain ⟨m, hm⟩ := k0_; exact DataW.trod_lt m _ _ _ hm
  obtain ⟨a0, K0, g0⟩ := Fit.param (P := Try.prog) (t := 24) (Fit.struct Try.underlying24 (by kernel_rfl) (FitF.cons (Fit.int Try.underlying2 (by kernel_rfl)) rfl (FitF.last (Fit.int Try.underlying2 (by kernel_rfl)) rfl))) hsz (j := 0) rfl rfl h0
  obtain ⟨cs0, rfl, _⟩ := okWide_struct Try.underlying24 (hval 0 24 v0 rfl rfl)
  obtain ⟨L0, hL0⟩ : ∃ L, L = (Value.agg cs0).cells.toList := ⟨_, rfl⟩
  rw [← hL0] at K0
  obtain ⟨n0_0, n0_1⟩ := a0
  obtain ⟨_, _, rfl, rfl, rfl⟩ := K0
  obtain rfl : cs0 = #[.int .i64 n0_0, .int .i64 n0_1] := Array.ext' hL0.symm
  have k1_ := h1
  have lt1 : ∀ x ∈ p1, x.block < W.heap.size := by obtain ⟨m, hm⟩ := k1_; exact DataW.trod_lt m _ _ _ hm
  obtain ⟨a1, K1, g1⟩ := Fit.param (P := Try.prog) (t := 24) (Fit.struct Try.underlying24 (by kernel_rfl) (FitF.cons (Fit.int Try.underlying2 (by kernel_rfl)) rfl (FitF.last (Fit.int Try.underlying2 (by kernel_rfl)) rfl))) hsz (j := 1) rfl rfl h1
  obtain ⟨cs1, rfl, _⟩ := okWide_struct Try.underlying24 (hval 1 24 v1 rfl rfl)
  obtain ⟨L1, hL1⟩ : ∃ L, L = (Value.agg cs1).cells.toList := ⟨_, rfl⟩
  rw [← hL1] at K1
  obtain ⟨n1_0, n1_1⟩ := a1
  obtain ⟨_, _, rfl, rfl, rfl⟩ := K1
  obtain rfl : cs1 = #[.int .i64 n1_0, .int .i64 n1_1] := Array.ext' hL1.symm
  clear hA0 hval0 hsz0 hsz
  obtain ⟨k, hk⟩ := pure (a := (n0_0, n0_1)) (b := (n1_0, n1_1)) ⟨i64_of g0.1, i64_of g0.2⟩ ⟨i64_of g1.1, i64_of g1.2⟩
  refine (serinettelaw01_NumberSays.calls k n0_0 n0_1 n1_0 n1_1 true ⟨rfl⟩ W  hk).mono fun e W' ⟨he, bel⟩ => ?_
  subst he
  exact ⟨_, rfl, _, _, _, [], _, [], hW', trodAll_mk1 (shut_bool Try.underlying4 _), (trodAll_cons_mk (Below.trod laidOut (by kernel_rfl) (of_decide_eq_true (by kernel_rfl)) k0_ bel lt0) (trodAll_cons_mk (Below.trod laidOut (by kernel_rfl) (of_decide_eq_true (by kernel_rfl)) k1_ bel lt1) trodAll_mk0)), rfl, bel.frame _, fun h => by cases h⟩
theorem over : Rows.numberSaysRow.holds Try.pinned (OpenSpec.ofChange Rows.numberSaysSpec) :=
  OpenClaim.holds_of_wide 8 Try.f8 rfl rfl rfl rfl rfl rfl rfl ⟨rfl, rfl, rfl, rfl, rfl⟩ rfl rfl rfl rfl rfl (by kernel_rfl) Try.func8 (by kernel_rfl)
    (of_decide_eq_true (by kernel_rfl)) (by unfold Func.isWrapper; first | (rw [if_pos (by decide +kernel)]; kernel_rfl) | (rw [if_neg (by decide +kernel)]; exact ⟨rfl, rfl⟩))
    (fun os started H enc _ => lifted os started H enc)
theorem proved : Rows.NumberSaysSaid := over
#print axioms proved
end Go.Proofs.Ytgecbfemlpmpeaa.numberSays
namespace Go.Proofs.Ytgecbfemlpmpeaa
/-- The row, under a short name, for the claim. -/
theorem numberSays_holds : Rows.NumberSaysSaid := numberSays.proved
end Go.Proofs.Ytgecbfemlpmpeaa
