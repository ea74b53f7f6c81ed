/- Turned by a program of this session out of what the print prints for the functions that NumberField reaches: the same proofs in shorter words. -/
import Derived.Test.YtgecbfemlpmpeaaSNumberField0
import Derived.Test.YtgecbfemlpmpeaaSNumberField1
import Derived.Test.YtgecbfemlpmpeaaSNumberField2
import Derived.Test.YtgecbfemlpmpeaaSNumberField3
import Derived.Test.YtgecbfemlpmpeaaSNumberField4
namespace Go.Proofs.Ytgecbfemlpmpeaa.SNumberField
open Go.RowKit Go.Proofs.Ytgecbfemlpmpeaa.Wd.PrintWords Go.Proofs.Ytgecbfemlpmpeaa.Wd.PrintLast Go.Proofs.Ytgecbfemlpmpeaa.Wd.PrintMore
set_option linter.unusedVariables false
set_option linter.unusedSimpArgs false
attribute [local go_sem] max2_int min2_int max_two min_two max_three min_three max_four min_four   -- for this text's walks alone
attribute [local go_sem high] eqA24
/-! ### serinettelaw01_NumberField: function 4 -/
mutual
def serinettelaw01_NumberField.j0 : Nat → Bool → Int → Int → Int → Int → Int → Int → Int → Int → Int → Int → Option (Bool)
 | 0, _, _, _, _, _, _, _, _, _, _, _ => none
 | k + 1, x28, x171000, x171001, x172000, x172001, x173000, x173001, x176000, x176001, x179000, x179001 => if x28 = true then (some false) else ((serinettelaw01_numbers.f k (([(⟨x171000, x171001⟩ : S24), (⟨x172000, x172001⟩ : S24)] : List (S24)))).bind fun t186 => (if t186 = true then (serinettelaw01_NumberField.j1 k false x171000 x171001 x172000 x172001 x173000 x173001 x176000 x176001) else ((serinettelaw01_numbers.f k (([(⟨x176000, x176001⟩ : S24)] : List (S24)))).bind fun t190 => (if t190 = true then (serinettelaw01_NumberField.j1 k true x171000 x171001 x172000 x172001 x173000 x173001 x176000 x176001) else ((serinettelaw01_numbers.f k (([(⟨x179000, x179001⟩ : S24)] : List (S24)))).bind fun t194 => (if t194 = true then (serinettelaw01_NumberField.j1 k true x171000 x171001 x172000 x172001 x173000 x173001 x176000 x176001) else ((ratio_Min.f k x171000 x171001 x172000 x172001).bind fun bt195 => ((serinettelaw01_numbers.f k (([(⟨bt195.1, bt195.2⟩ : S24)] : List (S24)))).bind fun t200 => (if t200 = true then (serinettelaw01_NumberField.j1 k true x171000 x171001 x172000 x172001 x173000 x173001 x176000 x176001) else ((ratio_Mod.f k x171000 x171001 x172000 x172001).bind fun bt201 => ((serinettelaw01_numbers.f k (([(⟨bt201.1, bt201.2⟩ : S24)] : List (S24)))).bind fun t206 => (serinettelaw01_NumberField.j1 k t206 x171000 x171001 x172000 x172001 x173000 x173001 x176000 x176001))))))))))))
def serinettelaw01_NumberField.j1 : Nat → Bool → Int → Int → Int → Int → Int → Int → Int → Int → Option (Bool)
 | 0, _, _, _, _, _, _, _, _, _ => none
 | k + 1, x57, x171000, x171001, x172000, x172001, x173000, x173001, x176000, x176001 => if x57 = true then (some false) else ((ratio_Add.f k x176000 x176001 x173000 x173001).bind fun bt207 => ((ratio_Add.f k x172000 x172001 x173000 x173001).bind fun bt210 => ((ratio_Add.f k x171000 x171001 bt210.1 bt210.2).bind fun bt212 => ((serinettelaw01_numbers.f k (([(⟨bt207.1, bt207.2⟩ : S24), (⟨bt212.1, bt212.2⟩ : S24)] : List (S24)))).bind fun t218 => (if t218 = true then (serinettelaw01_NumberField.j2 k (!(bt207.1 == bt212.1) || (!(bt207.2 == bt212.2))) x171000 x171001 x172000 x172001 x173000 x173001) else (serinettelaw01_NumberField.j2 k false x171000 x171001 x172000 x172001 x173000 x173001))))))
def serinettelaw01_NumberField.j2 : Nat → Bool → Int → Int → Int → Int → Int → Int → Option (Bool)
 | 0, _, _, _, _, _, _, _ => none
 | k + 1, x74, x171000, x171001, x172000, x172001, x173000, x173001 => if x74 = true then (some false) else ((ratio_Add.f k x171000 x171001 x172000 x172001).bind fun bt219 => ((ratio_Mul.f k bt219.1 bt219.2 x173000 x173001).bind fun bt221 => ((ratio_Mul.f k x171000 x171001 x173000 x173001).bind fun bt223 => ((ratio_Mul.f k x172000 x172001 x173000 x173001).bind fun bt225 => ((ratio_Add.f k bt223.1 bt223.2 bt225.1 bt225.2).bind fun bt227 => ((serinettelaw01_numbers.f k (([(⟨bt221.1, bt221.2⟩ : S24), (⟨bt227.1, bt227.2⟩ : S24)] : List (S24)))).bind fun t232 => (if t232 = true then (serinettelaw01_NumberField.j3 k (!(bt221.1 == bt227.1) || (!(bt221.2 == bt227.2))) x171000 x171001 x172000 x172001 x173000 x173001) else (serinettelaw01_NumberField.j3 k false x171000 x171001 x172000 x172001 x173000 x173001))))))))
def serinettelaw01_NumberField.j3 : Nat → Bool → Int → Int → Int → Int → Int → Int → Option (Bool)
 | 0, _, _, _, _, _, _, _ => none
 | k + 1, x95, x171000, x171001, x172000, x172001, x173000, x173001 => if x95 = true then (some false) else ((ratio_Div.f k x171000 x171001 x172000 x172001).bind fun bt233 => ((serinettelaw01_numbers.f k (([(⟨bt233.1, bt233.2⟩ : S24)] : List (S24)))).bind fun t238 => (if t238 = true then ((ratio_Div.f k x171000 x171001 x172000 x172001).bind fun bt239 => ((ratio_Mul.f k bt239.1 bt239.2 x172000 x172001).bind fun bt241 => ((serinetteref01_Clean.f k x171000 x171001).bind fun bt243 => (serinettelaw01_NumberField.j4 k (!(bt241.1 == bt243.1) || (!(bt241.2 == bt243.2))) x171000 x171001 x172000 x172001 x173000 x173001)))) else (serinettelaw01_NumberField.j4 k false x171000 x171001 x172000 x172001 x173000 x173001))))
def serinettelaw01_NumberField.j4 : Nat → Bool → Int → Int → Int → Int → Int → Int → Option (Bool)
 | 0, _, _, _, _, _, _, _ => none
 | k + 1, x110, x171000, x171001, x172000, x172001, x173000, x173001 => if x110 = true then (some false) else ((ratio_Add.f k x171000 x171001 x173000 x173001).bind fun bt245 => ((ratio_Add.f k x172000 x172001 x173000 x173001).bind fun bt247 => ((serinettelaw01_numbers.f k (([(⟨x171000, x171001⟩ : S24), (⟨x172000, x172001⟩ : S24), (⟨bt245.1, bt245.2⟩ : S24), (⟨bt247.1, bt247.2⟩ : S24)] : List (S24)))).bind fun t252 => (if t252 = true then ((ratio_Cmp.f k x171000 x171001 x172000 x172001).bind fun t253 => ((ratio_Add.f k x171000 x171001 x173000 x173001).bind fun bt254 => ((ratio_Add.f k x172000 x172001 x173000 x173001).bind fun bt256 => ((ratio_Cmp.f k bt254.1 bt254.2 bt256.1 bt256.2).bind fun t258 => (if t253 = t258 then ((serinettelaw01_awake.f k).bind fun t259 => (some t259)) else (some false)))))) else ((serinettelaw01_awake.f k).bind fun t260 => (some t260))))))
end
def serinettelaw01_NumberField.f (k : Nat) (a0_0 : Int) (a0_1 : Int) (a1_0 : Int) (a1_1 : Int) (a2_0 : Int) (a2_1 : Int) : Option (Bool) := (ratio_Add.f k a0_0 a0_1 a1_0 a1_1).bind fun bt173 => ((ratio_Mul.f k a0_0 a0_1 a1_0 a1_1).bind fun bt176 => ((ratio_Add.f k a1_0 a1_1 a0_0 a0_1).bind fun bt179 => (if (!(bt173.1 == bt179.1) || (!(bt173.2 == bt179.2))) = true then (serinettelaw01_NumberField.j0 k true a0_0 a0_1 a1_0 a1_1 a2_0 a2_1 bt173.1 bt173.2 bt176.1 bt176.2) else ((ratio_Mul.f k a1_0 a1_1 a0_0 a0_1).bind fun bt181 => (serinettelaw01_NumberField.j0 k (!(bt176.1 == bt181.1) || (!(bt176.2 == bt181.2))) a0_0 a0_1 a1_0 a1_1 a2_0 a2_1 bt173.1 bt173.2 bt176.1 bt176.2)))))
theorem serinettelaw01_NumberField.mono_l : ∀ k, (∀ y0 y1 y2 y3 y4 y5 y6 y7 y8 y9 y10, LeO (serinettelaw01_NumberField.j0 k y0 y1 y2 y3 y4 y5 y6 y7 y8 y9 y10) (serinettelaw01_NumberField.j0 (k + 1) y0 y1 y2 y3 y4 y5 y6 y7 y8 y9 y10)) ∧ (∀ y0 y1 y2 y3 y4 y5 y6 y7 y8, LeO (serinettelaw01_NumberField.j1 k y0 y1 y2 y3 y4 y5 y6 y7 y8) (serinettelaw01_NumberField.j1 (k + 1) y0 y1 y2 y3 y4 y5 y6 y7 y8)) ∧ (∀ y0 y1 y2 y3 y4 y5 y6, LeO (serinettelaw01_NumberField.j2 k y0 y1 y2 y3 y4 y5 y6) (serinettelaw01_NumberField.j2 (k + 1) y0 y1 y2 y3 y4 y5 y6)) ∧ (∀ y0 y1 y2 y3 y4 y5 y6, LeO (serinettelaw01_NumberField.j3 k y0 y1 y2 y3 y4 y5 y6) (serinettelaw01_NumberField.j3 (k + 1) y0 y1 y2 y3 y4 y5 y6)) ∧ (∀ y0 y1 y2 y3 y4 y5 y6, LeO (serinettelaw01_NumberField.j4 k y0 y1 y2 y3 y4 y5 y6) (serinettelaw01_NumberField.j4 (k + 1) y0 y1 y2 y3 y4 y5 y6))
 | 0 => ⟨fun _ _ _ _ _ _ _ _ _ _ _ r h => by simp [serinettelaw01_NumberField.j0] at h, fun _ _ _ _ _ _ _ _ _ r h => by simp [serinettelaw01_NumberField.j1] at h, fun _ _ _ _ _ _ _ r h => by simp [serinettelaw01_NumberField.j2] at h, fun _ _ _ _ _ _ _ r h => by simp [serinettelaw01_NumberField.j3] at h, fun _ _ _ _ _ _ _ r h => by simp [serinettelaw01_NumberField.j4] at h⟩
 | k + 1 => by
  obtain ⟨ih0, ih1, ih2, ih3, ih4⟩ := serinettelaw01_NumberField.mono_l k
  refine ⟨?_, ?_, ?_, ?_, ?_⟩
  ·
   intro y0 y1 y2 y3 y4 y5 y6 y7 y8 y9 y10
   unfold serinettelaw01_NumberField.j0
   repeat' first
   | (with_reducible exact ih0 _ _ _ _ _ _ _ _ _ _ _)
   | (with_reducible exact ih1 _ _ _ _ _ _ _ _ _)
   | (with_reducible exact ih2 _ _ _ _ _ _ _)
   | (with_reducible exact ih3 _ _ _ _ _ _ _)
   | (with_reducible exact ih4 _ _ _ _ _ _ _)
   | (with_reducible exact ratio_Add.mono _ _ _ _ _)
   | (with_reducible exact ratio_Cmp.mono _ _ _ _ _)
   | (with_reducible exact ratio_Div.mono _ _ _ _ _)
   | (with_reducible exact ratio_Min.mono _ _ _ _ _)
   | (with_reducible exact ratio_Mod.mono _ _ _ _ _)
   | (with_reducible exact ratio_Mul.mono _ _ _ _ _)
   | (with_reducible exact serinettelaw01_awake.mono _)
   | (with_reducible exact serinettelaw01_numbers.mono _ _)
   | (with_reducible exact serinetteref01_Clean.mono _ _ _)
   | (with_reducible exact LeO.refl _)
   | (with_reducible exact LeO.none _)
   | (with_reducible refine LeO.ite ?_ ?_)
   | (with_reducible refine LeO.bind ?_ (fun _ => ?_))
   | exact ih0 _ _ _ _ _ _ _ _ _ _ _
   | exact ih1 _ _ _ _ _ _ _ _ _
   | exact ih2 _ _ _ _ _ _ _
   | exact ih3 _ _ _ _ _ _ _
   | exact ih4 _ _ _ _ _ _ _
   | exact ratio_Add.mono _ _ _ _ _
   | exact ratio_Cmp.mono _ _ _ _ _
   | exact ratio_Div.mono _ _ _ _ _
   | exact ratio_Min.mono _ _ _ _ _
   | exact ratio_Mod.mono _ _ _ _ _
   | exact ratio_Mul.mono _ _ _ _ _
   | exact serinettelaw01_awake.mono _
   | exact serinettelaw01_numbers.mono _ _
   | exact serinetteref01_Clean.mono _ _ _
   | exact LeO.none _
   | refine LeO.ite ?_ ?_
   | refine LeO.bind ?_ (fun _ => ?_)
  ·
   intro y0 y1 y2 y3 y4 y5 y6 y7 y8
   unfold serinettelaw01_NumberField.j1
   repeat' first
   | (with_reducible exact ih0 _ _ _ _ _ _ _ _ _ _ _)
   | (with_reducible exact ih1 _ _ _ _ _ _ _ _ _)
   | (with_reducible exact ih2 _ _ _ _ _ _ _)
   | (with_reducible exact ih3 _ _ _ _ _ _ _)
   | (with_reducible exact ih4 _ _ _ _ _ _ _)
   | (with_reducible exact ratio_Add.mono _ _ _ _ _)
   | (with_reducible exact ratio_Cmp.mono _ _ _ _ _)
   | (with_reducible exact ratio_Div.mono _ _ _ _ _)
   | (with_reducible exact ratio_Min.mono _ _ _ _ _)
   | (with_reducible exact ratio_Mod.mono _ _ _ _ _)
   | (with_reducible exact ratio_Mul.mono _ _ _ _ _)
   | (with_reducible exact serinettelaw01_awake.mono _)
   | (with_reducible exact serinettelaw01_numbers.mono _ _)
   | (with_reducible exact serinetteref01_Clean.mono _ _ _)
   | (with_reducible exact LeO.refl _)
   | (with_reducible exact LeO.none _)
   | (with_reducible refine LeO.ite ?_ ?_)
   | (with_reducible refine LeO.bind ?_ (fun _ => ?_))
   | exact ih0 _ _ _ _ _ _ _ _ _ _ _
   | exact ih1 _ _ _ _ _ _ _ _ _
   | exact ih2 _ _ _ _ _ _ _
   | exact ih3 _ _ _ _ _ _ _
   | exact ih4 _ _ _ _ _ _ _
   | exact ratio_Add.mono _ _ _ _ _
   | exact ratio_Cmp.mono _ _ _ _ _
   | exact ratio_Div.mono _ _ _ _ _
   | exact ratio_Min.mono _ _ _ _ _
   | exact ratio_Mod.mono _ _ _ _ _
   | exact ratio_Mul.mono _ _ _ _ _
   | exact serinettelaw01_awake.mono _
   | exact serinettelaw01_numbers.mono _ _
   | exact serinetteref01_Clean.mono _ _ _
   | exact LeO.none _
   | refine LeO.ite ?_ ?_
   | refine LeO.bind ?_ (fun _ => ?_)
  ·
   intro y0 y1 y2 y3 y4 y5 y6
   unfold serinettelaw01_NumberField.j2
   repeat' first
   | (with_reducible exact ih0 _ _ _ _ _ _ _ _ _ _ _)
   | (with_reducible exact ih1 _ _ _ _ _ _ _ _ _)
   | (with_reducible exact ih2 _ _ _ _ _ _ _)
   | (with_reducible exact ih3 _ _ _ _ _ _ _)
   | (with_reducible exact ih4 _ _ _ _ _ _ _)
   | (with_reducible exact ratio_Add.mono _ _ _ _ _)
   | (with_reducible exact ratio_Cmp.mono _ _ _ _ _)
   | (with_reducible exact ratio_Div.mono _ _ _ _ _)
   | (with_reducible exact ratio_Min.mono _ _ _ _ _)
   | (with_reducible exact ratio_Mod.mono _ _ _ _ _)
   | (with_reducible exact ratio_Mul.mono _ _ _ _ _)
   | (with_reducible exact serinettelaw01_awake.mono _)
   | (with_reducible exact serinettelaw01_numbers.mono _ _)
   | (with_reducible exact serinetteref01_Clean.mono _ _ _)
   | (with_reducible exact LeO.refl _)
   | (with_reducible exact LeO.none _)
   | (with_reducible refine LeO.ite ?_ ?_)
   | (with_reducible refine LeO.bind ?_ (fun _ => ?_))
   | exact ih0 _ _ _ _ _ _ _ _ _ _ _
   | exact ih1 _ _ _ _ _ _ _ _ _
   | exact ih2 _ _ _ _ _ _ _
   | exact ih3 _ _ _ _ _ _ _
   | exact ih4 _ _ _ _ _ _ _
   | exact ratio_Add.mono _ _ _ _ _
   | exact ratio_Cmp.mono _ _ _ _ _
   | exact ratio_Div.mono _ _ _ _ _
   | exact ratio_Min.mono _ _ _ _ _
   | exact ratio_Mod.mono _ _ _ _ _
   | exact ratio_Mul.mono _ _ _ _ _
   | exact serinettelaw01_awake.mono _
   | exact serinettelaw01_numbers.mono _ _
   | exact serinetteref01_Clean.mono _ _ _
   | exact LeO.none _
   | refine LeO.ite ?_ ?_
   | refine LeO.bind ?_ (fun _ => ?_)
  ·
   intro y0 y1 y2 y3 y4 y5 y6
   unfold serinettelaw01_NumberField.j3
   repeat' first
   | (with_reducible exact ih0 _ _ _ _ _ _ _ _ _ _ _)
   | (with_reducible exact ih1 _ _ _ _ _ _ _ _ _)
   | (with_reducible exact ih2 _ _ _ _ _ _ _)
   | (with_reducible exact ih3 _ _ _ _ _ _ _)
   | (with_reducible exact ih4 _ _ _ _ _ _ _)
   | (with_reducible exact ratio_Add.mono _ _ _ _ _)
   | (with_reducible exact ratio_Cmp.mono _ _ _ _ _)
   | (with_reducible exact ratio_Div.mono _ _ _ _ _)
   | (with_reducible exact ratio_Min.mono _ _ _ _ _)
   | (with_reducible exact ratio_Mod.mono _ _ _ _ _)
   | (with_reducible exact ratio_Mul.mono _ _ _ _ _)
   | (with_reducible exact serinettelaw01_awake.mono _)
   | (with_reducible exact serinettelaw01_numbers.mono _ _)
   | (with_reducible exact serinetteref01_Clean.mono _ _ _)
   | (with_reducible exact LeO.refl _)
   | (with_reducible exact LeO.none _)
   | (with_reducible refine LeO.ite ?_ ?_)
   | (with_reducible refine LeO.bind ?_ (fun _ => ?_))
   | exact ih0 _ _ _ _ _ _ _ _ _ _ _
   | exact ih1 _ _ _ _ _ _ _ _ _
   | exact ih2 _ _ _ _ _ _ _
   | exact ih3 _ _ _ _ _ _ _
   | exact ih4 _ _ _ _ _ _ _
   | exact ratio_Add.mono _ _ _ _ _
   | exact ratio_Cmp.mono _ _ _ _ _
   | exact ratio_Div.mono _ _ _ _ _
   | exact ratio_Min.mono _ _ _ _ _
   | exact ratio_Mod.mono _ _ _ _ _
   | exact ratio_Mul.mono _ _ _ _ _
   | exact serinettelaw01_awake.mono _
   | exact serinettelaw01_numbers.mono _ _
   | exact serinetteref01_Clean.mono _ _ _
   | exact LeO.none _
   | refine LeO.ite ?_ ?_
   | refine LeO.bind ?_ (fun _ => ?_)
  ·
   intro y0 y1 y2 y3 y4 y5 y6
   unfold serinettelaw01_NumberField.j4
   repeat' first
   | (with_reducible exact ih0 _ _ _ _ _ _ _ _ _ _ _)
   | (with_reducible exact ih1 _ _ _ _ _ _ _ _ _)
   | (with_reducible exact ih2 _ _ _ _ _ _ _)
   | (with_reducible exact ih3 _ _ _ _ _ _ _)
   | (with_reducible exact ih4 _ _ _ _ _ _ _)
   | (with_reducible exact ratio_Add.mono _ _ _ _ _)
   | (with_reducible exact ratio_Cmp.mono _ _ _ _ _)
   | (with_reducible exact ratio_Div.mono _ _ _ _ _)
   | (with_reducible exact ratio_Min.mono _ _ _ _ _)
   | (with_reducible exact ratio_Mod.mono _ _ _ _ _)
   | (with_reducible exact ratio_Mul.mono _ _ _ _ _)
   | (with_reducible exact serinettelaw01_awake.mono _)
   | (with_reducible exact serinettelaw01_numbers.mono _ _)
   | (with_reducible exact serinetteref01_Clean.mono _ _ _)
   | (with_reducible exact LeO.refl _)
   | (with_reducible exact LeO.none _)
   | (with_reducible refine LeO.ite ?_ ?_)
   | (with_reducible refine LeO.bind ?_ (fun _ => ?_))
   | exact ih0 _ _ _ _ _ _ _ _ _ _ _
   | exact ih1 _ _ _ _ _ _ _ _ _
   | exact ih2 _ _ _ _ _ _ _
   | exact ih3 _ _ _ _ _ _ _
   | exact ih4 _ _ _ _ _ _ _
   | exact ratio_Add.mono _ _ _ _ _
   | exact ratio_Cmp.mono _ _ _ _ _
   | exact ratio_Div.mono _ _ _ _ _
   | exact ratio_Min.mono _ _ _ _ _
   | exact ratio_Mod.mono _ _ _ _ _
   | exact ratio_Mul.mono _ _ _ _ _
   | exact serinettelaw01_awake.mono _
   | exact serinettelaw01_numbers.mono _ _
   | exact serinetteref01_Clean.mono _ _ _
   | exact LeO.none _
   | refine LeO.ite ?_ ?_
   | refine LeO.bind ?_ (fun _ => ?_)
theorem serinettelaw01_NumberField.mono : ∀ a0 a1 a2 a3 a4 a5 k, LeO (serinettelaw01_NumberField.f k a0 a1 a2 a3 a4 a5) (serinettelaw01_NumberField.f (k + 1) a0 a1 a2 a3 a4 a5) := by
 intro a0 a1 a2 a3 a4 a5 k
 obtain ⟨ih0, ih1, ih2, ih3, ih4⟩ := serinettelaw01_NumberField.mono_l k
 unfold serinettelaw01_NumberField.f
 repeat' first
   | (with_reducible exact ih0 _ _ _ _ _ _ _ _ _ _ _)
   | (with_reducible exact ih1 _ _ _ _ _ _ _ _ _)
   | (with_reducible exact ih2 _ _ _ _ _ _ _)
   | (with_reducible exact ih3 _ _ _ _ _ _ _)
   | (with_reducible exact ih4 _ _ _ _ _ _ _)
   | (with_reducible exact ratio_Add.mono _ _ _ _ _)
   | (with_reducible exact ratio_Cmp.mono _ _ _ _ _)
   | (with_reducible exact ratio_Div.mono _ _ _ _ _)
   | (with_reducible exact ratio_Min.mono _ _ _ _ _)
   | (with_reducible exact ratio_Mod.mono _ _ _ _ _)
   | (with_reducible exact ratio_Mul.mono _ _ _ _ _)
   | (with_reducible exact serinettelaw01_awake.mono _)
   | (with_reducible exact serinettelaw01_numbers.mono _ _)
   | (with_reducible exact serinetteref01_Clean.mono _ _ _)
   | (with_reducible exact LeO.refl _)
   | (with_reducible exact LeO.none _)
   | (with_reducible refine LeO.ite ?_ ?_)
   | (with_reducible refine LeO.bind ?_ (fun _ => ?_))
   | exact ih0 _ _ _ _ _ _ _ _ _ _ _
   | exact ih1 _ _ _ _ _ _ _ _ _
   | exact ih2 _ _ _ _ _ _ _
   | exact ih3 _ _ _ _ _ _ _
   | exact ih4 _ _ _ _ _ _ _
   | exact ratio_Add.mono _ _ _ _ _
   | exact ratio_Cmp.mono _ _ _ _ _
   | exact ratio_Div.mono _ _ _ _ _
   | exact ratio_Min.mono _ _ _ _ _
   | exact ratio_Mod.mono _ _ _ _ _
   | exact ratio_Mul.mono _ _ _ _ _
   | exact serinettelaw01_awake.mono _
   | exact serinettelaw01_numbers.mono _ _
   | exact serinetteref01_Clean.mono _ _ _
   | exact LeO.none _
   | refine LeO.ite ?_ ?_
   | refine LeO.bind ?_ (fun _ => ?_)
def serinettelaw01_NumberField.T3 : Bool × List (List Nat × List Nat) := (true, [([], []), ([], []), ([], []), ([1, 2], [1, 2]), ([0, 3], [0, 3]), ([4, 3], [4]), ([5], [5]), ([5], [5]), ([5], [5]), ([7, 8, 5, 5], [5, 7, 8]), ([6, 9, 5], [5, 6, 9]), ([5, 10], [5, 10])])
def serinettelaw01_NumberField.B3 : List Nat := [0, 0, 0, 6, 15, 31, 63, 63, 63, 447, 1023, 2047]
theorem serinettelaw01_NumberField.tab3 : rtab .any (opsOf Try.f4 3) = serinettelaw01_NumberField.T3 := by kernel_rfl
theorem serinettelaw01_NumberField.bits3 : waitsOk serinettelaw01_NumberField.T3.2 serinettelaw01_NumberField.B3 = true := by kernel_rfl
def serinettelaw01_NumberField.T12 : Bool × List (List Nat × List Nat) := (true, [([], []), ([], []), ([0, 1], [0, 1]), ([], []), ([], []), ([3, 4, 2], [3, 4]), ([2, 5, 5], [2, 5]), ([6, 6, 0, 1, 2, 3, 4, 5, 6], [6])])
def serinettelaw01_NumberField.B12 : List Nat := [0, 0, 3, 0, 0, 31, 63, 127]
theorem serinettelaw01_NumberField.tab12 : rtab .any (opsOf Try.f4 12) = serinettelaw01_NumberField.T12 := by kernel_rfl
theorem serinettelaw01_NumberField.bits12 : waitsOk serinettelaw01_NumberField.T12.2 serinettelaw01_NumberField.B12 = true := by kernel_rfl
def serinettelaw01_NumberField.T15 : Bool × List (List Nat × List Nat) := (true, [([], []), ([], []), ([0, 1], [0, 1]), ([2], [2]), ([3, 2], [3]), ([4, 4], [4]), ([5], [5]), ([5], [5]), ([6, 7, 5, 5], [5, 6, 7]), ([5], [5]), ([8, 9, 8, 5], [5, 8, 9]), ([5], [5]), ([11, 10, 5], [5, 11]), ([10, 12, 5], [5, 10, 12]), ([5, 13], [5, 13])])
def serinettelaw01_NumberField.B15 : List Nat := [0, 0, 3, 7, 15, 31, 63, 63, 255, 63, 1023, 63, 4095, 8191, 16383]
theorem serinettelaw01_NumberField.tab15 : rtab .any (opsOf Try.f4 15) = serinettelaw01_NumberField.T15 := by kernel_rfl
theorem serinettelaw01_NumberField.bits15 : waitsOk serinettelaw01_NumberField.T15.2 serinettelaw01_NumberField.B15 = true := by kernel_rfl
def serinettelaw01_NumberField.T17 : Bool × List (List Nat × List Nat) := (true, [([], []), ([], []), ([], []), ([], []), ([2, 3], [2, 3]), ([], []), ([], []), ([5, 6, 4], [5, 6]), ([0, 1, 4, 7], [0, 1, 4, 7]), ([8, 7], [8]), ([9, 9], [9]), ([10], [10]), ([10], [10]), ([11, 12, 10, 10], [10, 11, 12]), ([10], [10]), ([10], [10]), ([14, 15, 13, 10], [10, 14, 15]), ([10], [10]), ([10], [10]), ([17, 18, 16, 10], [10, 17, 18]), ([16, 19, 19, 10], [10, 16, 19]), ([13, 20, 10], [10, 13, 20]), ([10, 21], [10, 21])])
def serinettelaw01_NumberField.B17 : List Nat := [0, 0, 0, 0, 12, 0, 0, 124, 255, 511, 1023, 2047, 2047, 8191, 2047, 2047, 65535, 2047, 2047, 524287, 1048575, 2097151, 4194303]
theorem serinettelaw01_NumberField.tab17 : rtab .any (opsOf Try.f4 17) = serinettelaw01_NumberField.T17 := by kernel_rfl
theorem serinettelaw01_NumberField.bits17 : waitsOk serinettelaw01_NumberField.T17.2 serinettelaw01_NumberField.B17 = true := by kernel_rfl
theorem serinettelaw01_NumberField.j0_true : ∀ k y1 y2 y3 y4 y5 y6 y7 y8 y9 y10, serinettelaw01_NumberField.j0 k true y1 y2 y3 y4 y5 y6 y7 y8 y9 y10 ≠ some true := by
 intro k y1 y2 y3 y4 y5 y6 y7 y8 y9 y10
 cases k <;> simp [serinettelaw01_NumberField.j0]
theorem serinettelaw01_NumberField.j1_true : ∀ k y1 y2 y3 y4 y5 y6 y7 y8, serinettelaw01_NumberField.j1 k true y1 y2 y3 y4 y5 y6 y7 y8 ≠ some true := by
 intro k y1 y2 y3 y4 y5 y6 y7 y8
 cases k <;> simp [serinettelaw01_NumberField.j1]
theorem serinettelaw01_NumberField.j2_true : ∀ k y1 y2 y3 y4 y5 y6, serinettelaw01_NumberField.j2 k true y1 y2 y3 y4 y5 y6 ≠ some true := by
 intro k y1 y2 y3 y4 y5 y6
 cases k <;> simp [serinettelaw01_NumberField.j2]
theorem serinettelaw01_NumberField.j3_true : ∀ k y1 y2 y3 y4 y5 y6, serinettelaw01_NumberField.j3 k true y1 y2 y3 y4 y5 y6 ≠ some true := by
 intro k y1 y2 y3 y4 y5 y6
 cases k <;> simp [serinettelaw01_NumberField.j3]
theorem serinettelaw01_NumberField.j4_true : ∀ k y1 y2 y3 y4 y5 y6, serinettelaw01_NumberField.j4 k true y1 y2 y3 y4 y5 y6 ≠ some true := by
 intro k y1 y2 y3 y4 y5 y6
 cases k <;> simp [serinettelaw01_NumberField.j4]
end Go.Proofs.Ytgecbfemlpmpeaa.SNumberField
