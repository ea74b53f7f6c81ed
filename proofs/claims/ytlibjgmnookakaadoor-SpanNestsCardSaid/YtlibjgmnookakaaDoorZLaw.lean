/- The law SpanNests: it returns true for every input and changes no argument; no condition. -/
import Derived.Test.YtlibjgmnookakaaDoorZP7
import Derived.Test.YtlibjgmnookakaaDoorCards
import Derived.Test.YtlibjgmnookakaaDoorTie
import Derived.Deep.DeepHandedRow
import Derived.Lay
import Derived.WalkKit
import Derived.ProofKit
import Derived.OpenShut
import Derived.ShutString
import Derived.ChangeOld
import Derived.Below
import Derived.SizedLaws
import Derived.Carry
namespace Go.Proofs.YtlibjgmnookakaaDoor.spanNests
open Go.ChangeShapes Go.WideShapes Go.ChangeAt Go.RowKit Go.Proofs.YtlibjgmnookakaaDoor.Fit Go.Proofs.YtlibjgmnookakaaDoor.Wd.PrintWords Go.Proofs.YtlibjgmnookakaaDoor.SSpanNests Go.Proofs.YtlibjgmnookakaaDoor.Plain
set_option linter.unusedVariables false
theorem own : ownKnob Tryd.prog.godebug = none := by kernel_rfl
theorem laidOut : laidOutB Tryd.prog = true := by kernel_rfl
noncomputable def laidWorld (os : Os) : World := World.laidAll Tryd.prog os Rows.spanNestsRow.laid
theorem laid_met (os : Os) : laidMet Tryd.prog Rows.spanNestsRow.laid ((laidWorld os).forCall (fun _ _ => 0) ⟨#[], #[.agg #[.string ByteArray.empty, .slice none 0 0, .slice none 0 0, .int .i64 0, .int .i64 0]], []⟩).memory :=
  laidMet_laidAll _ (by kernel_rfl) (by kernel_rfl)
theorem reads (os : Os) {H : Type} (enc : TypeId × Value → H) : ∃ places, DataW.whole enc Tryd.prog ((laidWorld os).forCall (fun _ _ => 0) ⟨#[], #[.agg #[.string ByteArray.empty, .slice none 0 0, .slice none 0 0, .int .i64 0, .int .i64 0]], []⟩).memory Tryd.f4.params.toList Rows.spanNestsSpec.vars false (#[.agg #[.string ByteArray.empty, .slice none 0 0, .slice none 0 0, .int .i64 0, .int .i64 0]] : Array Value).toList 8 = some ([.agg [.lit (.string []), .nil, .nil, .agg [.lit (.int .i64 0), .lit (.int .i64 0)]]], [], places) :=
  ⟨[], by kernel_rfl⟩
set_option maxHeartbeats 8000000 in
set_option maxRecDepth 100000 in
theorem lifted (os : Os) (started : os.Started) (H : Type) (enc : TypeId × Value → H) (F : Stop.Interp) :
    ReturnsInHanded {} Tryd.checked os 4 .any ((OpenSpec.ofChange Rows.spanNestsSpec).preRow enc Tryd.prog Tryd.f4 Rows.spanNestsRow.domain false Rows.spanNestsRow.laid) (((OpenSpec.ofChange Rows.spanNestsSpec).at F).post enc Tryd.prog Tryd.f4 false true false false) := by
  obtain ⟨places, hx⟩ := reads os enc
  refine returnsInHanded_of_row (C := Tryd.checked) (s := OpenSpec.ofChange Rows.spanNestsSpec) own started (by kernel_rfl) Tryd.func4
    (witness_row_at (enc := enc) (C := Tryd.checked) false (laidWorld os) #[.agg #[.string ByteArray.empty, .slice none 0 0, .slice none 0 0, .int .i64 0, .int .i64 0]] rfl (by kernel_rfl) (by kernel_rfl) (by kernel_rfl)
      (OpenSpec.preRow_of_cond 8 hx (by kernel_rfl) (fun k hk => by cases hk) (by kernel_rfl) (laid_met os))) ?_
  intro W base args ds gs before hval0 hW _ _ hsz0 hL _ _
  have hsz : (DataW.weightsEach Tryd.prog (Tryd.f4.params.toList ++ Rows.spanNestsSpec.plain.varTypes Tryd.prog) (ds ++ gs)).all (· ≤ reachBytes) = true := hsz0
  have hval : ∀ (j : Nat) t v, Tryd.f4.params[j]? = some t → args[j]? = some v → Value.okWide Tryd.prog W .any base t v := hval0
  have hW' := hW
  obtain ⟨p, q, hA0, hV, rfl, hfz, hnd⟩ := hW
  have hA : DataW.TrodAll enc Tryd.prog W 0 (fun _ => true) true Tryd.f4.params.toList args.toList ds p := hA0
  rw [Tryd.params4] at hA hval hsz
  obtain ⟨v0, vs0, d0, ds0, p0, q0, hargs, rfl, rfl, h0, r0⟩ := trodAll_cons hA
  obtain ⟨rfl, rfl, rfl⟩ := trodAll_nil r0
  obtain rfl : args = #[v0] := by cases args; simp_all
  obtain ⟨rfl, rfl⟩ := trodVars_none hV
  have k0_ := h0
  have lt0 : ∀ x ∈ p0, x.block < W.heap.size := by obtain ⟨m, hm⟩ := k0_; exact DataW.trod_lt m _ _ _ hm
  obtain ⟨a0, K0, g0⟩ := Fit.param (P := Tryd.prog) (t := 31) (Fit.struct Tryd.underlying31 (by kernel_rfl) (FitF.cons (Fit.string Tryd.underlying9 (by kernel_rfl)) rfl (FitF.cons (Fit.slice (B := 48) Tryd.underlying29 (by kernel_rfl) (show Fit _ _ k25 _ from Fit.iso (Fit.struct Tryd.underlying25 (by kernel_rfl) (FitF.cons (show Fit _ _ k23 _ from Fit.iso (Fit.struct Tryd.underlying23 (by kernel_rfl) (FitF.cons (Fit.int Tryd.underlying2 (by kernel_rfl)) rfl (FitF.last (Fit.int Tryd.underlying2 (by kernel_rfl)) rfl))) _ (fun p => ⟨p.1, p.2⟩) (fun _ => rfl)) rfl (FitF.cons (show Fit _ _ k23 _ from Fit.iso (Fit.struct Tryd.underlying23 (by kernel_rfl) (FitF.cons (Fit.int Tryd.underlying2 (by kernel_rfl)) rfl (FitF.last (Fit.int Tryd.underlying2 (by kernel_rfl)) rfl))) _ (fun p => ⟨p.1, p.2⟩) (fun _ => rfl)) rfl (FitF.cons (Fit.int Tryd.underlying2 (by kernel_rfl)) rfl (FitF.cons (Fit.bool Tryd.underlying4 (by kernel_rfl)) rfl (FitF.last (Fit.bool Tryd.underlying4 (by kernel_rfl)) rfl)))))) _ (fun p => ⟨p.1, p.2.1, p.2.2.1, p.2.2.2.1, p.2.2.2.2⟩) (fun _ => rfl)) (by kernel_rfl)) rfl (FitF.cons (Fit.slice (B := 48) Tryd.underlying29 (by kernel_rfl) (show Fit _ _ k25 _ from Fit.iso (Fit.struct Tryd.underlying25 (by kernel_rfl) (FitF.cons (show Fit _ _ k23 _ from Fit.iso (Fit.struct Tryd.underlying23 (by kernel_rfl) (FitF.cons (Fit.int Tryd.underlying2 (by kernel_rfl)) rfl (FitF.last (Fit.int Tryd.underlying2 (by kernel_rfl)) rfl))) _ (fun p => ⟨p.1, p.2⟩) (fun _ => rfl)) rfl (FitF.cons (show Fit _ _ k23 _ from Fit.iso (Fit.struct Tryd.underlying23 (by kernel_rfl) (FitF.cons (Fit.int Tryd.underlying2 (by kernel_rfl)) rfl (FitF.last (Fit.int Tryd.underlying2 (by kernel_rfl)) rfl))) _ (fun p => ⟨p.1, p.2⟩) (fun _ => rfl)) rfl (FitF.cons (Fit.int Tryd.underlying2 (by kernel_rfl)) rfl (FitF.cons (Fit.bool Tryd.underlying4 (by kernel_rfl)) rfl (FitF.last (Fit.bool Tryd.underlying4 (by kernel_rfl)) rfl)))))) _ (fun p => ⟨p.1, p.2.1, p.2.2.1, p.2.2.2.1, p.2.2.2.2⟩) (fun _ => rfl)) (by kernel_rfl)) rfl (FitF.last (show Fit _ _ k23 _ from Fit.iso (Fit.struct Tryd.underlying23 (by kernel_rfl) (FitF.cons (Fit.int Tryd.underlying2 (by kernel_rfl)) rfl (FitF.last (Fit.int Tryd.underlying2 (by kernel_rfl)) rfl))) _ (fun p => ⟨p.1, p.2⟩) (fun _ => rfl)) rfl))))) hsz (j := 0) rfl rfl h0
  obtain ⟨cs0, rfl, _⟩ := okWide_struct Tryd.underlying31 (hval 0 31 v0 rfl rfl)
  obtain ⟨L0, hL0⟩ : ∃ L, L = (Value.agg cs0).cells.toList := ⟨_, rfl⟩
  rw [← hL0] at K0
  obtain ⟨n0_0, ⟨ln0_1, ⟨ln0_2, ⟨n0_3_0, n0_3_1⟩⟩⟩⟩ := a0
  obtain ⟨_, _, rfl, rfl, ⟨_, _, rfl, ⟨An0_1, cn0_1, rfl, hcn0_1, hCn0_1⟩, ⟨_, _, rfl, ⟨An0_2, cn0_2, rfl, hcn0_2, hCn0_2⟩, ⟨_, _, rfl, rfl, rfl⟩⟩⟩⟩ := K0
  obtain rfl : cs0 = #[.string n0_0, .slice An0_1 ln0_1.length cn0_1, .slice An0_2 ln0_2.length cn0_2, .int .i64 n0_3_0, .int .i64 n0_3_1] := Array.ext' hL0.symm
  clear hA0 hval0 hsz0 hsz
  obtain ⟨k, hk⟩ := (Exists.elim (SSpanNests.pure n0_0 ln0_1 ln0_2 (by have h_ : ln0_1.length * 48 ≤ 140737488351232 := g0.2.1.1; omega) (fun x hx => ⟨⟨i64_of (g0.2.1.2 x hx).1.1, i64_of (g0.2.1.2 x hx).1.2⟩, ⟨i64_of (g0.2.1.2 x hx).2.1.1, i64_of (g0.2.1.2 x hx).2.1.2⟩, i64_of (g0.2.1.2 x hx).2.2.1⟩) (fun x hx => ⟨⟨i64_of (g0.2.2.1.2 x hx).1.1, i64_of (g0.2.2.1.2 x hx).1.2⟩, ⟨i64_of (g0.2.2.1.2 x hx).2.1.1, i64_of (g0.2.2.1.2 x hx).2.1.2⟩, i64_of (g0.2.2.1.2 x hx).2.2.1⟩) (q := (n0_3_0, n0_3_1)) ⟨i64_of g0.2.2.2.1, i64_of g0.2.2.2.2⟩) (fun K h => ⟨K, h K (Nat.le_refl K)⟩) : ∃ k, serinettelaw03_SpanNests.f k n0_0 ln0_1 ln0_2 n0_3_0 n0_3_1 = some true)
  refine (serinettelaw03_SpanNests.calls k n0_0 _ _ ln0_1 _ _ ln0_2 n0_3_0 n0_3_1 true ⟨rfl⟩ W hCn0_1 hcn0_1 hCn0_2 hcn0_2 hk).mono fun e W' ⟨he, bel⟩ => ?_
  subst he
  exact ⟨_, rfl, _, _, _, [], _, [], hW', trodAll_mk1 (shut_bool Tryd.underlying4 _), (trodAll_cons_mk (Below.trod laidOut (by kernel_rfl) (of_decide_eq_true (by kernel_rfl)) k0_ bel lt0) trodAll_mk0), rfl, bel.frame _, fun h => by cases h⟩
theorem said : Rows.SpanNestsSaid :=
  OpenClaim.holds_of_cond 4 Tryd.f4 rfl rfl rfl rfl rfl rfl rfl ⟨rfl, rfl, rfl, rfl, rfl⟩ rfl rfl rfl rfl rfl (by kernel_rfl) Tryd.func4 (by kernel_rfl)
    (of_decide_eq_true (by kernel_rfl)) (by unfold Func.isWrapper; first | (rw [if_pos (by decide +kernel)]; kernel_rfl) | (rw [if_neg (by decide +kernel)]; exact ⟨rfl, rfl⟩))
    (fun os started H enc _ F => by rw [OpenClaim.pre_eq_preRow]; exact lifted os started H enc F)
theorem plain (f : FuncId) (fn : Func) (hf : Tryd.pinned.checked.prog.funcNamed "serinette/serinettelaw03.SpanNests" = some f) (hfn : Tryd.pinned.checked.prog.funcs[f]? = some fn) :
    false = Tryd.pinned.checked.prog.looks [] ∧ ∀ (j : Nat) t, fn.params[j]? = some t → Tryd.pinned.checked.prog.wantsStandIn t = false := by
  obtain rfl : f = 4 := Option.some.inj ((show Tryd.prog.funcNamed "serinette/serinettelaw03.SpanNests" = some 4 by kernel_rfl).symm.trans hf) |>.symm
  obtain rfl : fn = Tryd.f4 := (Option.some.inj (Tryd.func4.symm.trans hfn)).symm
  refine ⟨by kernel_rfl, fun j t ht => ?_⟩
  rw [Tryd.params4] at ht
  have hm : t ∈ [31] := by simpa using Array.mem_of_getElem? ht
  have hall : ([31].all fun u => !Tryd.prog.wantsStandIn u) = true := by kernel_rfl
  exact (show Tryd.prog.wantsStandIn t = false by simpa using List.all_eq_true.1 hall t hm)
theorem card : Rows.SpanNestsCardSaid :=
  Claim7.holds_tied_plain_at .later [] _ _ _ _ said (fun _ h => by cases h) (by kernel_rfl) (fun _ h => by cases h) spanNests_row_tie rfl ⟨rfl, rfl⟩ (by kernel_rfl) rfl plain (by kernel_rfl)
#print axioms card
end Go.Proofs.YtlibjgmnookakaaDoor.spanNests
namespace Go.Proofs.YtlibjgmnookakaaDoor
/-- The tied card, under a short name, for the claim. -/
theorem spanNests_holds : Rows.SpanNestsCardSaid := spanNests.card
end Go.Proofs.YtlibjgmnookakaaDoor
