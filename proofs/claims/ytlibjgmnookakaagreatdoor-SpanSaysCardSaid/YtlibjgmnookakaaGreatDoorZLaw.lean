/- The law SpanSays: it returns true for every input and changes no argument; no condition. -/
import Derived.Test.YtlibjgmnookakaaGreatDoorZP6
import Derived.Test.YtlibjgmnookakaaGreatDoorCards
import Derived.Test.YtlibjgmnookakaaGreatDoorTie
import Derived.Deep.DeepHandedRow
import Derived.Lay
import Derived.Stop.LaidErr
import Derived.WalkKit
import Derived.ProofKit
import Derived.OpenShut
import Derived.ShutString
import Derived.ChangeOld
import Derived.Below
import Derived.SizedLaws
import Derived.Carry
namespace Go.Proofs.YtlibjgmnookakaaGreatDoor.spanSays
open Go.Proofs.YtlibjgmnookakaaGreatDoor
open Go.ChangeShapes Go.WideShapes Go.ChangeAt Go.RowKit Go.Proofs.YtlibjgmnookakaaGreatDoor.Fit Go.Proofs.YtlibjgmnookakaaGreatDoor.Wd.PrintWords Go.Proofs.YtlibjgmnookakaaGreatDoor.SSpanSays Go.Proofs.YtlibjgmnookakaaGreatDoor.Plain
set_option linter.unusedVariables false
theorem own : ownKnob Tryz.prog.godebug = none := by kernel_rfl
theorem laidOut : laidOutB Tryz.prog = true := by kernel_rfl
noncomputable def laidWorld (os : Os) : World := World.laidAll Tryz.prog os Rows.spanSaysRow.laid
theorem laid_met (os : Os) : laidMet Tryz.prog Rows.spanSaysRow.laid ((laidWorld os).forCall (fun _ _ => 0) ⟨#[], #[.agg #[.int .i64 0, .int .i64 0, .int .i64 0, .int .i64 0, .int .i64 0, .bool false, .bool false], .agg #[.int .i64 0, .int .i64 0, .int .i64 0, .int .i64 0, .int .i64 0, .bool false, .bool false], .agg #[.int .i64 0, .int .i64 0]], []⟩).memory :=
  laidMet_laidAll _ (by kernel_rfl) (by kernel_rfl)
theorem reads (os : Os) {H : Type} (enc : TypeId × Value → H) : ∃ places, DataW.whole enc Tryz.prog ((laidWorld os).forCall (fun _ _ => 0) ⟨#[], #[.agg #[.int .i64 0, .int .i64 0, .int .i64 0, .int .i64 0, .int .i64 0, .bool false, .bool false], .agg #[.int .i64 0, .int .i64 0, .int .i64 0, .int .i64 0, .int .i64 0, .bool false, .bool false], .agg #[.int .i64 0, .int .i64 0]], []⟩).memory Tryz.f3.params.toList Rows.spanSaysSpec.vars false (#[.agg #[.int .i64 0, .int .i64 0, .int .i64 0, .int .i64 0, .int .i64 0, .bool false, .bool false], .agg #[.int .i64 0, .int .i64 0, .int .i64 0, .int .i64 0, .int .i64 0, .bool false, .bool false], .agg #[.int .i64 0, .int .i64 0]] : Array Value).toList 8 = some ([.agg [.agg [.lit (.int .i64 0), .lit (.int .i64 0)], .agg [.lit (.int .i64 0), .lit (.int .i64 0)], .lit (.int .i64 0), .lit (.bool false), .lit (.bool false)], .agg [.agg [.lit (.int .i64 0), .lit (.int .i64 0)], .agg [.lit (.int .i64 0), .lit (.int .i64 0)], .lit (.int .i64 0), .lit (.bool false), .lit (.bool false)], .agg [.lit (.int .i64 0), .lit (.int .i64 0)]], [], places) :=
  ⟨[], by kernel_rfl⟩
set_option maxHeartbeats 8000000 in
set_option maxRecDepth 100000 in
theorem lifted (os : Os) (started : os.Started) (H : Type) (enc : TypeId × Value → H) (F : Stop.Interp) :
    ReturnsInHanded {} Tryz.checked os 3 .any ((OpenSpec.ofChange Rows.spanSaysSpec).preRow enc Tryz.prog Tryz.f3 Rows.spanSaysRow.domain false Rows.spanSaysRow.laid) (((OpenSpec.ofChange Rows.spanSaysSpec).at F).post enc Tryz.prog Tryz.f3 false true false false) := by
  obtain ⟨places, hx⟩ := reads os enc
  refine returnsInHanded_of_row (C := Tryz.checked) (s := OpenSpec.ofChange Rows.spanSaysSpec) own started (by kernel_rfl) Tryz.func3
    (witness_row_at (enc := enc) (C := Tryz.checked) false (laidWorld os) #[.agg #[.int .i64 0, .int .i64 0, .int .i64 0, .int .i64 0, .int .i64 0, .bool false, .bool false], .agg #[.int .i64 0, .int .i64 0, .int .i64 0, .int .i64 0, .int .i64 0, .bool false, .bool false], .agg #[.int .i64 0, .int .i64 0]] rfl (by kernel_rfl) (by kernel_rfl) (by kernel_rfl)
      (OpenSpec.preRow_of_cond 8 hx (by kernel_rfl) (fun k hk => by cases hk) (by kernel_rfl) (laid_met os))) ?_
  intro W base args ds gs before hval0 hW _ _ hsz0 hL _ _
  have hsz : (DataW.weightsEach Tryz.prog (Tryz.f3.params.toList ++ Rows.spanSaysSpec.plain.varTypes Tryz.prog) (ds ++ gs)).all (· ≤ reachBytes) = true := hsz0
  have hval : ∀ (j : Nat) t v, Tryz.f3.params[j]? = some t → args[j]? = some v → Value.okWide Tryz.prog W .any base t v := hval0
  have hW' := hW
  obtain ⟨p, q, hA0, hV, rfl, hfz, hnd⟩ := hW
  have hA : DataW.TrodAll enc Tryz.prog W 0 (fun _ => true) true Tryz.f3.params.toList args.toList ds p := hA0
  rw [Tryz.params3] at hA hval hsz
  obtain ⟨v0, vs0, d0, ds0, p0, q0, hargs, rfl, rfl, h0, r0⟩ := trodAll_cons hA
  obtain ⟨v1, vs1, d1, ds1, p1, q1, rfl, rfl, rfl, h1, r1⟩ := trodAll_cons r0
  obtain ⟨v2, vs2, d2, ds2, p2, q2, rfl, rfl, rfl, h2, r2⟩ := trodAll_cons r1
  obtain ⟨rfl, rfl, rfl⟩ := trodAll_nil r2
  obtain rfl : args = #[v0, v1, v2] := by cases args; simp_all
  obtain ⟨rfl, rfl⟩ := trodVars_none hV
  have k0_ := h0
  have lt0 : ∀ x ∈ p0, x.block < W.heap.size := by obtain ⟨m, hm⟩ := k0_; exact DataW.trod_lt m _ _ _ hm
  obtain ⟨a0, K0, g0⟩ := Fit.param (P := Tryz.prog) (t := 25) (Fit.struct Tryz.underlying25 (by kernel_rfl) (FitF.cons (show Fit _ _ k23 _ from Fit.iso (Fit.struct Tryz.underlying23 (by kernel_rfl) (FitF.cons (Fit.int Tryz.underlying2 (by kernel_rfl)) rfl (FitF.last (Fit.int Tryz.underlying2 (by kernel_rfl)) rfl))) _ (fun p => ⟨p.1, p.2⟩) (fun _ => rfl)) rfl (FitF.cons (show Fit _ _ k23 _ from Fit.iso (Fit.struct Tryz.underlying23 (by kernel_rfl) (FitF.cons (Fit.int Tryz.underlying2 (by kernel_rfl)) rfl (FitF.last (Fit.int Tryz.underlying2 (by kernel_rfl)) rfl))) _ (fun p => ⟨p.1, p.2⟩) (fun _ => rfl)) rfl (FitF.cons (Fit.int Tryz.underlying2 (by kernel_rfl)) rfl (FitF.cons (Fit.bool Tryz.underlying4 (by kernel_rfl)) rfl (FitF.last (Fit.bool Tryz.underlying4 (by kernel_rfl)) rfl)))))) hsz (j := 0) rfl rfl h0
  obtain ⟨cs0, rfl, _⟩ := okWide_struct Tryz.underlying25 (hval 0 25 v0 rfl rfl)
  obtain ⟨L0, hL0⟩ : ∃ L, L = (Value.agg cs0).cells.toList := ⟨_, rfl⟩
  rw [← hL0] at K0
  obtain ⟨⟨n0_0_0, n0_0_1⟩, ⟨⟨n0_1_0, n0_1_1⟩, ⟨n0_2, ⟨n0_3, n0_4⟩⟩⟩⟩ := a0
  obtain ⟨_, _, rfl, ⟨_, _, rfl, rfl, rfl⟩, ⟨_, _, rfl, ⟨_, _, rfl, rfl, rfl⟩, ⟨_, _, rfl, rfl, ⟨_, _, rfl, rfl, rfl⟩⟩⟩⟩ := K0
  obtain rfl : cs0 = #[.int .i64 n0_0_0, .int .i64 n0_0_1, .int .i64 n0_1_0, .int .i64 n0_1_1, .int .i64 n0_2, .bool n0_3, .bool n0_4] := Array.ext' hL0.symm
  have k1_ := h1
  have lt1 : ∀ x ∈ p1, x.block < W.heap.size := by obtain ⟨m, hm⟩ := k1_; exact DataW.trod_lt m _ _ _ hm
  obtain ⟨a1, K1, g1⟩ := Fit.param (P := Tryz.prog) (t := 25) (Fit.struct Tryz.underlying25 (by kernel_rfl) (FitF.cons (show Fit _ _ k23 _ from Fit.iso (Fit.struct Tryz.underlying23 (by kernel_rfl) (FitF.cons (Fit.int Tryz.underlying2 (by kernel_rfl)) rfl (FitF.last (Fit.int Tryz.underlying2 (by kernel_rfl)) rfl))) _ (fun p => ⟨p.1, p.2⟩) (fun _ => rfl)) rfl (FitF.cons (show Fit _ _ k23 _ from Fit.iso (Fit.struct Tryz.underlying23 (by kernel_rfl) (FitF.cons (Fit.int Tryz.underlying2 (by kernel_rfl)) rfl (FitF.last (Fit.int Tryz.underlying2 (by kernel_rfl)) rfl))) _ (fun p => ⟨p.1, p.2⟩) (fun _ => rfl)) rfl (FitF.cons (Fit.int Tryz.underlying2 (by kernel_rfl)) rfl (FitF.cons (Fit.bool Tryz.underlying4 (by kernel_rfl)) rfl (FitF.last (Fit.bool Tryz.underlying4 (by kernel_rfl)) rfl)))))) hsz (j := 1) rfl rfl h1
  obtain ⟨cs1, rfl, _⟩ := okWide_struct Tryz.underlying25 (hval 1 25 v1 rfl rfl)
  obtain ⟨L1, hL1⟩ : ∃ L, L = (Value.agg cs1).cells.toList := ⟨_, rfl⟩
  rw [← hL1] at K1
  obtain ⟨⟨n1_0_0, n1_0_1⟩, ⟨⟨n1_1_0, n1_1_1⟩, ⟨n1_2, ⟨n1_3, n1_4⟩⟩⟩⟩ := a1
  obtain ⟨_, _, rfl, ⟨_, _, rfl, rfl, rfl⟩, ⟨_, _, rfl, ⟨_, _, rfl, rfl, rfl⟩, ⟨_, _, rfl, rfl, ⟨_, _, rfl, rfl, rfl⟩⟩⟩⟩ := K1
  obtain rfl : cs1 = #[.int .i64 n1_0_0, .int .i64 n1_0_1, .int .i64 n1_1_0, .int .i64 n1_1_1, .int .i64 n1_2, .bool n1_3, .bool n1_4] := Array.ext' hL1.symm
  have k2_ := h2
  have lt2 : ∀ x ∈ p2, x.block < W.heap.size := by obtain ⟨m, hm⟩ := k2_; exact DataW.trod_lt m _ _ _ hm
  obtain ⟨a2, K2, g2⟩ := Fit.param (P := Tryz.prog) (t := 23) (Fit.struct Tryz.underlying23 (by kernel_rfl) (FitF.cons (Fit.int Tryz.underlying2 (by kernel_rfl)) rfl (FitF.last (Fit.int Tryz.underlying2 (by kernel_rfl)) rfl))) hsz (j := 2) rfl rfl h2
  obtain ⟨cs2, rfl, _⟩ := okWide_struct Tryz.underlying23 (hval 2 23 v2 rfl rfl)
  obtain ⟨L2, hL2⟩ : ∃ L, L = (Value.agg cs2).cells.toList := ⟨_, rfl⟩
  rw [← hL2] at K2
  obtain ⟨n2_0, n2_1⟩ := a2
  obtain ⟨_, _, rfl, rfl, rfl⟩ := K2
  obtain rfl : cs2 = #[.int .i64 n2_0, .int .i64 n2_1] := Array.ext' hL2.symm
  clear hA0 hval0 hsz0 hsz
  obtain ⟨k, hk⟩ := (Exists.elim (SSpanSays.pure (a := ⟨(n0_0_0, n0_0_1), (n0_1_0, n0_1_1), n0_2, n0_3, n0_4⟩) (b := ⟨(n1_0_0, n1_0_1), (n1_1_0, n1_1_1), n1_2, n1_3, n1_4⟩) (q := (n2_0, n2_1)) ⟨⟨i64_of g0.1.1, i64_of g0.1.2⟩, ⟨i64_of g0.2.1.1, i64_of g0.2.1.2⟩, i64_of g0.2.2.1⟩ ⟨⟨i64_of g1.1.1, i64_of g1.1.2⟩, ⟨i64_of g1.2.1.1, i64_of g1.2.1.2⟩, i64_of g1.2.2.1⟩ ⟨i64_of g2.1, i64_of g2.2⟩) (fun K h => ⟨K, h K (Nat.le_refl K)⟩) : ∃ k, serinettelaw03_SpanSays.f k n0_0_0 n0_0_1 n0_1_0 n0_1_1 n0_2 n0_3 n0_4 n1_0_0 n1_0_1 n1_1_0 n1_1_1 n1_2 n1_3 n1_4 n2_0 n2_1 = some true)
  have htab : FI.Tb W := Lib.tabIs_of_head (g := 0) (t := 80) (e := 51) (n := 20) (by kernel_rfl) (by kernel_rfl) Tryz.underlying80 Tryz.underlying51 (by kernel_rfl) (by kernel_rfl) (laidMet.tail (laidMet.tail hL))
  refine (serinettelaw03_SpanSays.calls k n0_0_0 n0_0_1 n0_1_0 n0_1_1 n0_2 n0_3 n0_4 n1_0_0 n1_0_1 n1_1_0 n1_1_1 n1_2 n1_3 n1_4 n2_0 n2_1 true ⟨rfl⟩ W htab hk).mono fun e W' ⟨he, bel⟩ => ?_
  subst he
  exact ⟨_, rfl, _, _, _, [], _, [], hW', trodAll_mk1 (shut_bool Tryz.underlying4 _), (trodAll_cons_mk (Below.trod laidOut (by kernel_rfl) (of_decide_eq_true (by kernel_rfl)) k0_ bel lt0) (trodAll_cons_mk (Below.trod laidOut (by kernel_rfl) (of_decide_eq_true (by kernel_rfl)) k1_ bel lt1) (trodAll_cons_mk (Below.trod laidOut (by kernel_rfl) (of_decide_eq_true (by kernel_rfl)) k2_ bel lt2) trodAll_mk0))), rfl, bel.frame _, fun h => by cases h⟩
theorem said : Rows.SpanSaysSaid :=
  OpenClaim.holds_of_cond 3 Tryz.f3 rfl rfl rfl rfl rfl rfl rfl ⟨rfl, rfl, rfl, rfl, rfl⟩ rfl rfl rfl rfl rfl (by kernel_rfl) Tryz.func3 (by kernel_rfl)
    (of_decide_eq_true (by kernel_rfl)) (by unfold Func.isWrapper; first | (rw [if_pos (by decide +kernel)]; kernel_rfl) | (rw [if_neg (by decide +kernel)]; exact ⟨rfl, rfl⟩))
    (fun os started H enc _ F => by rw [OpenClaim.pre_eq_preRow]; exact lifted os started H enc F)
theorem plain (f : FuncId) (fn : Func) (hf : Tryz.pinned.checked.prog.funcNamed "serinette/serinettelaw03.SpanSays" = some f) (hfn : Tryz.pinned.checked.prog.funcs[f]? = some fn) :
    false = Tryz.pinned.checked.prog.looks [] ∧ ∀ (j : Nat) t, fn.params[j]? = some t → Tryz.pinned.checked.prog.wantsStandIn t = false := by
  obtain rfl : f = 3 := Option.some.inj ((show Tryz.prog.funcNamed "serinette/serinettelaw03.SpanSays" = some 3 by kernel_rfl).symm.trans hf) |>.symm
  obtain rfl : fn = Tryz.f3 := (Option.some.inj (Tryz.func3.symm.trans hfn)).symm
  refine ⟨by kernel_rfl, fun j t ht => ?_⟩
  rw [Tryz.params3] at ht
  have hm : t ∈ [25, 25, 23] := by simpa using Array.mem_of_getElem? ht
  have hall : ([25, 25, 23].all fun u => !Tryz.prog.wantsStandIn u) = true := by kernel_rfl
  exact (show Tryz.prog.wantsStandIn t = false by simpa using List.all_eq_true.1 hall t hm)
theorem card : Rows.SpanSaysCardSaid :=
  Claim7.holds_tied_plain_at .later [] _ _ _ _ said (fun _ h => by cases h) (by kernel_rfl) (fun _ h => by cases h) spanSays_row_tie rfl ⟨rfl, rfl⟩ (by kernel_rfl) rfl plain (by kernel_rfl)
#print axioms card
end Go.Proofs.YtlibjgmnookakaaGreatDoor.spanSays
namespace Go.Proofs.YtlibjgmnookakaaGreatDoor
/-- The tied card, under a short name, for the claim. -/
theorem spanSays_holds : Rows.SpanSaysCardSaid := spanSays.card
end Go.Proofs.YtlibjgmnookakaaGreatDoor
