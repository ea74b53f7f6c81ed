/- The law TurnsKept: it returns true for every input and changes no argument; no condition. -/
import Derived.Test.YtcgohbhligdicaaZP5
import Derived.Test.YtcgohbhligdicaaRows
import Derived.WalkKit
import Derived.ProofKit
import Derived.OpenShut
import Derived.ShutString
import Derived.ChangeOld
import Derived.Below
import Derived.SizedLaws
import Derived.Carry
namespace Go.Proofs.Ytcgohbhligdicaa.turnsKept
open Go.ChangeShapes Go.WideShapes Go.ChangeAt Go.RowKit Go.Proofs.Ytcgohbhligdicaa.Fit Go.Proofs.Ytcgohbhligdicaa.Wd.PrintWords Go.Proofs.Ytcgohbhligdicaa.STurnsKept Go.Proofs.Ytcgohbhligdicaa.Plain
set_option linter.unusedVariables false
theorem own : ownKnob Try.prog.godebug = none := by kernel_rfl
theorem laidOut : laidOutB Try.prog = true := by kernel_rfl
set_option maxRecDepth 100000 in
theorem lifted (os : Os) (started : os.Started) (H : Type) (enc : TypeId × Value → H) :
    ReturnsInHanded {} Try.checked os 3 .any (Rows.turnsKeptSpec.pre6 enc Try.prog Try.f3 Rows.turnsKeptRow.domain false) (Rows.turnsKeptSpec.post enc Try.prog Try.f3 false true false false) := by
  refine returnsInHanded_of_change_sized (C := Try.checked) own started (by kernel_rfl) Try.func3
    (ChangeSpec.witness6 (enc := enc) (C := Try.checked) false ⟨#[], #[.agg #[.int .i64 0, .int .i64 0, .int .i64 0, .int .i64 0, .int .i64 0, .int .i64 0, .int .i64 0]], []⟩ 8 (by kernel_rfl) (by kernel_rfl) (by kernel_rfl) (by kernel_rfl)) ?_
  intro W base args ds gs before hval0 hW hcnd hsz0 _
  have hsz : (DataW.weightsEach Try.prog (Try.f3.params.toList ++ Rows.turnsKeptSpec.plain.varTypes Try.prog) (ds ++ gs)).all (· ≤ reachBytes) = true := hsz0
  have hval : ∀ (j : Nat) t v, Try.f3.params[j]? = some t → args[j]? = some v → Value.okWide Try.prog W .any base t v := hval0
  have hW' := hW
  obtain ⟨p, q, hA0, hV, rfl, hfz, hnd⟩ := hW
  have hA : DataW.TrodAll enc Try.prog W 0 (fun _ => true) true Try.f3.params.toList args.toList ds p := hA0
  rw [Try.params3] at hA hval hsz
  obtain ⟨v0, vs0, d0, ds0, p0, q0, hargs, rfl, rfl, h0, r0⟩ := trodAll_cons hA
  obtain ⟨rfl, rfl, rfl⟩ := trodAll_nil r0
  obtain rfl : args = #[v0] := by cases args; simp_all
  obtain ⟨rfl, rfl⟩ := trodVars_none hV
  have k0_ := h0
  have lt0 : ∀ x ∈ p0, x.block < W.heap.size := by obtain ⟨m, hm⟩ := k0_; exact DataW.trod_lt m _ _ _ hm
  obtain ⟨a0, K0, g0⟩ := Fit.param (P := Try.prog) (t := 25) (Fit.struct Try.underlying25 (by kernel_rfl) (FitF.cons (show Fit _ _ k23 _ from Fit.iso (Fit.struct Try.underlying23 (by kernel_rfl) (FitF.cons (Fit.int Try.underlying2 (by kernel_rfl)) rfl (FitF.last (Fit.int Try.underlying2 (by kernel_rfl)) rfl))) _ (fun p => ⟨p.1, p.2⟩) (fun _ => rfl)) rfl (FitF.cons (show Fit _ _ k23 _ from Fit.iso (Fit.struct Try.underlying23 (by kernel_rfl) (FitF.cons (Fit.int Try.underlying2 (by kernel_rfl)) rfl (FitF.last (Fit.int Try.underlying2 (by kernel_rfl)) rfl))) _ (fun p => ⟨p.1, p.2⟩) (fun _ => rfl)) rfl (FitF.cons (show Fit _ _ k23 _ from Fit.iso (Fit.struct Try.underlying23 (by kernel_rfl) (FitF.cons (Fit.int Try.underlying2 (by kernel_rfl)) rfl (FitF.last (Fit.int Try.underlying2 (by kernel_rfl)) rfl))) _ (fun p => ⟨p.1, p.2⟩) (fun _ => rfl)) rfl (FitF.last (Fit.int Try.underlying3 (by kernel_rfl)) rfl))))) hsz (j := 0) rfl rfl h0
  obtain ⟨cs0, rfl, _⟩ := okWide_struct Try.underlying25 (hval 0 25 v0 rfl rfl)
  obtain ⟨L0, hL0⟩ : ∃ L, L = (Value.agg cs0).cells.toList := ⟨_, rfl⟩
  rw [← hL0] at K0
  obtain ⟨⟨n0_0_0, n0_0_1⟩, ⟨⟨n0_1_0, n0_1_1⟩, ⟨⟨n0_2_0, n0_2_1⟩, n0_3⟩⟩⟩ := a0
  obtain ⟨_, _, rfl, ⟨_, _, rfl, rfl, rfl⟩, ⟨_, _, rfl, ⟨_, _, rfl, rfl, rfl⟩, ⟨_, _, rfl, ⟨_, _, rfl, rfl, rfl⟩, rfl⟩⟩⟩ := K0
  obtain rfl : cs0 = #[.int .i64 n0_0_0, .int .i64 n0_0_1, .int .i64 n0_1_0, .int .i64 n0_1_1, .int .i64 n0_2_0, .int .i64 n0_2_1, .int .i64 n0_3] := Array.ext' hL0.symm
  clear hA0 hval0 hsz0 hsz
  obtain ⟨k, hk⟩ := (Exists.elim (pure (c := (n0_0_0, n0_0_1)) (s := (n0_1_0, n0_1_1)) (x := (n0_2_0, n0_2_1)) ⟨i64_of g0.1.1, i64_of g0.1.2⟩ ⟨i64_of g0.2.1.1, i64_of g0.2.1.2⟩ ⟨i64_of g0.2.2.1.1, i64_of g0.2.2.1.2⟩ n0_3) (fun K h => ⟨K, h K (Nat.le_refl K)⟩) : ∃ k, serinettelaw25_TurnsKept.f k n0_0_0 n0_0_1 n0_1_0 n0_1_1 n0_2_0 n0_2_1 n0_3 = some true)
  refine (serinettelaw25_TurnsKept.calls k n0_0_0 n0_0_1 n0_1_0 n0_1_1 n0_2_0 n0_2_1 n0_3 true ⟨rfl⟩ W  hk).mono fun e W' ⟨he, bel⟩ => ?_
  subst he
  exact ⟨_, rfl, _, _, _, [], _, [], hW', trodAll_mk1 (shut_bool Try.underlying4 _), (trodAll_cons_mk (Below.trod laidOut (by kernel_rfl) (of_decide_eq_true (by kernel_rfl)) k0_ bel lt0) trodAll_mk0), rfl, bel.frame _, fun h => by cases h⟩
theorem over : Rows.turnsKeptRow.holds Try.pinned (OpenSpec.ofChange Rows.turnsKeptSpec) :=
  OpenClaim.holds_of_wide 3 Try.f3 rfl rfl rfl rfl rfl rfl rfl ⟨rfl, rfl, rfl, rfl, rfl⟩ rfl rfl rfl rfl rfl (by kernel_rfl) Try.func3 (by kernel_rfl)
    (of_decide_eq_true (by kernel_rfl)) (by unfold Func.isWrapper; first | (rw [if_pos (by decide +kernel)]; kernel_rfl) | (rw [if_neg (by decide +kernel)]; exact ⟨rfl, rfl⟩))
    (fun os started H enc _ => lifted os started H enc)
theorem proved : Rows.TurnsKeptSaid := over
#print axioms proved
end Go.Proofs.Ytcgohbhligdicaa.turnsKept
namespace Go.Proofs.Ytcgohbhligdicaa
/-- The row, under a short name, for the claim. -/
theorem turnsKept_holds : Rows.TurnsKeptSaid := turnsKept.proved
end Go.Proofs.Ytcgohbhligdicaa
