/- Turned by a program of this session out of what the print prints for the functions that NumberSays reaches: the same proofs in shorter words. -/
import Derived.Test.YtgecbfemlpmpeaaSNumberSays0
import Derived.Test.YtgecbfemlpmpeaaSNumberSays1
import Derived.Test.YtgecbfemlpmpeaaSNumberSays2
import Derived.Test.YtgecbfemlpmpeaaSNumberSays3
import Derived.Test.YtgecbfemlpmpeaaSNumberSays4
import Derived.Test.YtgecbfemlpmpeaaSNumberSays5
import Derived.Test.YtgecbfemlpmpeaaSNumberSays6
import Derived.Test.YtgecbfemlpmpeaaSNumberSays7
import Derived.Test.YtgecbfemlpmpeaaSNumberSays8
namespace Go.Proofs.Ytgecbfemlpmpeaa.SNumberSays
open Go.RowKit Go.Proofs.Ytgecbfemlpmpeaa.Wd.PrintWords Go.Proofs.Ytgecbfemlpmpeaa.Wd.PrintLast Go.Proofs.Ytgecbfemlpmpeaa.Wd.PrintMore
set_option linter.unusedVariables false
set_option linter.unusedSimpArgs false
attribute [local go_sem] max2_int min2_int max_two min_two max_three min_three max_four min_four   -- for this text's walks alone
attribute [local go_sem high] eqA24
/-! ### serinettelaw01_NumberSays: function 8 -/
mutual
def serinettelaw01_NumberSays.j0 : Nat → Bool → Int → Int → Int → Int → Option (Bool)
 | 0, _, _, _, _, _ => none
 | k + 1, x25, x344000, x344001, x345000, x345001 => if x25 = true then (some false) else ((ratio_Add.f k x344000 x344001 x345000 x345001).bind fun bt351 => ((serinetteref01_Add.f k x344000 x344001 x345000 x345001).bind fun bt353 => (if (!(bt351.1 == bt353.1) || (!(bt351.2 == bt353.2))) = true then (serinettelaw01_NumberSays.j1 k true x344000 x344001 x345000 x345001) else ((ratio_Sub.f k x344000 x344001 x345000 x345001).bind fun bt355 => ((serinetteref01_Sub.f k x344000 x344001 x345000 x345001).bind fun bt357 => (if (!(bt355.1 == bt357.1) || (!(bt355.2 == bt357.2))) = true then (serinettelaw01_NumberSays.j1 k true x344000 x344001 x345000 x345001) else ((ratio_Mul.f k x344000 x344001 x345000 x345001).bind fun bt359 => ((serinetteref01_Mul.f k x344000 x344001 x345000 x345001).bind fun bt361 => (if (!(bt359.1 == bt361.1) || (!(bt359.2 == bt361.2))) = true then (serinettelaw01_NumberSays.j1 k true x344000 x344001 x345000 x345001) else ((ratio_Div.f k x344000 x344001 x345000 x345001).bind fun bt363 => ((serinetteref01_Div.f k x344000 x344001 x345000 x345001).bind fun bt365 => (if (!(bt363.1 == bt365.1) || (!(bt363.2 == bt365.2))) = true then (serinettelaw01_NumberSays.j1 k true x344000 x344001 x345000 x345001) else ((ratio_Mod.f k x344000 x344001 x345000 x345001).bind fun bt367 => ((serinetteref01_Mod.f k x344000 x344001 x345000 x345001).bind fun bt369 => (serinettelaw01_NumberSays.j1 k (!(bt367.1 == bt369.1) || (!(bt367.2 == bt369.2))) x344000 x344001 x345000 x345001)))))))))))))))
def serinettelaw01_NumberSays.j1 : Nat → Bool → Int → Int → Int → Int → Option (Bool)
 | 0, _, _, _, _, _ => none
 | k + 1, x68, x344000, x344001, x345000, x345001 => if x68 = true then (some false) else ((ratio_Neg.f k x344000 x344001).bind fun bt371 => ((serinetteref01_Neg.f k x344000 x344001).bind fun bt373 => (if (!(bt371.1 == bt373.1) || (!(bt371.2 == bt373.2))) = true then (serinettelaw01_NumberSays.j2 k true x344000 x344001 x345000 x345001) else ((ratio_Abs.f k x344000 x344001).bind fun bt375 => ((serinetteref01_Abs.f k x344000 x344001).bind fun bt377 => (if (!(bt375.1 == bt377.1) || (!(bt375.2 == bt377.2))) = true then (serinettelaw01_NumberSays.j2 k true x344000 x344001 x345000 x345001) else ((ratio_Floor.f k x344000 x344001).bind fun bt379 => ((serinetteref01_Floor.f k x344000 x344001).bind fun bt381 => (if (!(bt379.1 == bt381.1) || (!(bt379.2 == bt381.2))) = true then (serinettelaw01_NumberSays.j2 k true x344000 x344001 x345000 x345001) else ((ratio_Round.f k x344000 x344001).bind fun bt383 => ((serinetteref01_Round.f k x344000 x344001).bind fun bt385 => (if (!(bt383.1 == bt385.1) || (!(bt383.2 == bt385.2))) = true then (serinettelaw01_NumberSays.j2 k true x344000 x344001 x345000 x345001) else ((ratio_Frac.f k x344000 x344001).bind fun bt387 => ((serinetteref01_Frac.f k x344000 x344001).bind fun bt389 => (serinettelaw01_NumberSays.j2 k (!(bt387.1 == bt389.1) || (!(bt387.2 == bt389.2))) x344000 x344001 x345000 x345001)))))))))))))))
def serinettelaw01_NumberSays.j2 : Nat → Bool → Int → Int → Int → Int → Option (Bool)
 | 0, _, _, _, _, _ => none
 | k + 1, x101, x344000, x344001, x345000, x345001 => if x101 = true then (some false) else ((ratio_Min.f k x344000 x344001 x345000 x345001).bind fun bt391 => ((serinetteref01_Min.f k x344000 x344001 x345000 x345001).bind fun bt393 => (if (bt391.1 == bt393.1 && (bt391.2 == bt393.2)) = true then ((ratio_Max.f k x344000 x344001 x345000 x345001).bind fun bt395 => ((serinetteref01_Max.f k x344000 x344001 x345000 x345001).bind fun bt397 => (if (bt395.1 == bt397.1 && (bt395.2 == bt397.2)) = true then ((serinettelaw01_awake.f k).bind fun t399 => (some t399)) else (some false)))) else (some false))))
end
def serinettelaw01_NumberSays.f (k : Nat) (a0_0 : Int) (a0_1 : Int) (a1_0 : Int) (a1_1 : Int) : Option (Bool) := (ratio_Is.f k a0_0 a0_1).bind fun t345 => ((serinetteref01_Is.f k a0_0 a0_1).bind fun t346 => (if (t345 != t346) = true then (serinettelaw01_NumberSays.j0 k true a0_0 a0_1 a1_0 a1_1) else ((ratio_Valid.f k a0_0 a0_1).bind fun t347 => ((serinetteref01_Valid.f k a0_0 a0_1).bind fun t348 => (if (t347 != t348) = true then (serinettelaw01_NumberSays.j0 k true a0_0 a0_1 a1_0 a1_1) else ((ratio_Cmp.f k a0_0 a0_1 a1_0 a1_1).bind fun t349 => ((serinetteref01_Cmp.f k a0_0 a0_1 a1_0 a1_1).bind fun t350 => (serinettelaw01_NumberSays.j0 k (t349 != t350) a0_0 a0_1 a1_0 a1_1))))))))
theorem serinettelaw01_NumberSays.mono_l : ∀ k, (∀ y0 y1 y2 y3 y4, LeO (serinettelaw01_NumberSays.j0 k y0 y1 y2 y3 y4) (serinettelaw01_NumberSays.j0 (k + 1) y0 y1 y2 y3 y4)) ∧ (∀ y0 y1 y2 y3 y4, LeO (serinettelaw01_NumberSays.j1 k y0 y1 y2 y3 y4) (serinettelaw01_NumberSays.j1 (k + 1) y0 y1 y2 y3 y4)) ∧ (∀ y0 y1 y2 y3 y4, LeO (serinettelaw01_NumberSays.j2 k y0 y1 y2 y3 y4) (serinettelaw01_NumberSays.j2 (k + 1) y0 y1 y2 y3 y4))
 | 0 => ⟨fun _ _ _ _ _ r h => by simp [serinettelaw01_NumberSays.j0] at h, fun _ _ _ _ _ r h => by simp [serinettelaw01_NumberSays.j1] at h, fun _ _ _ _ _ r h => by simp [serinettelaw01_NumberSays.j2] at h⟩
 | k + 1 => by
  obtain ⟨ih0, ih1, ih2⟩ := serinettelaw01_NumberSays.mono_l k
  refine ⟨?_, ?_, ?_⟩
  ·
   intro y0 y1 y2 y3 y4
   unfold serinettelaw01_NumberSays.j0
   repeat' first
   | (with_reducible exact ih0 _ _ _ _ _)
   | (with_reducible exact ih1 _ _ _ _ _)
   | (with_reducible exact ih2 _ _ _ _ _)
   | (with_reducible exact ratio_Abs.mono _ _ _)
   | (with_reducible exact ratio_Add.mono _ _ _ _ _)
   | (with_reducible exact ratio_Cmp.mono _ _ _ _ _)
   | (with_reducible exact ratio_Div.mono _ _ _ _ _)
   | (with_reducible exact ratio_Floor.mono _ _ _)
   | (with_reducible exact ratio_Frac.mono _ _ _)
   | (with_reducible exact ratio_Is.mono _ _ _)
   | (with_reducible exact ratio_Max.mono _ _ _ _ _)
   | (with_reducible exact ratio_Min.mono _ _ _ _ _)
   | (with_reducible exact ratio_Mod.mono _ _ _ _ _)
   | (with_reducible exact ratio_Mul.mono _ _ _ _ _)
   | (with_reducible exact ratio_Neg.mono _ _ _)
   | (with_reducible exact ratio_Round.mono _ _ _)
   | (with_reducible exact ratio_Sub.mono _ _ _ _ _)
   | (with_reducible exact ratio_Valid.mono _ _ _)
   | (with_reducible exact serinettelaw01_awake.mono _)
   | (with_reducible exact serinetteref01_Abs.mono _ _ _)
   | (with_reducible exact serinetteref01_Add.mono _ _ _ _ _)
   | (with_reducible exact serinetteref01_Cmp.mono _ _ _ _ _)
   | (with_reducible exact serinetteref01_Div.mono _ _ _ _ _)
   | (with_reducible exact serinetteref01_Floor.mono _ _ _)
   | (with_reducible exact serinetteref01_Frac.mono _ _ _)
   | (with_reducible exact serinetteref01_Is.mono _ _ _)
   | (with_reducible exact serinetteref01_Max.mono _ _ _ _ _)
   | (with_reducible exact serinetteref01_Min.mono _ _ _ _ _)
   | (with_reducible exact serinetteref01_Mod.mono _ _ _ _ _)
   | (with_reducible exact serinetteref01_Mul.mono _ _ _ _ _)
   | (with_reducible exact serinetteref01_Neg.mono _ _ _)
   | (with_reducible exact serinetteref01_Round.mono _ _ _)
   | (with_reducible exact serinetteref01_Sub.mono _ _ _ _ _)
   | (with_reducible exact serinetteref01_Valid.mono _ _ _)
   | (with_reducible exact LeO.refl _)
   | (with_reducible exact LeO.none _)
   | (with_reducible refine LeO.ite ?_ ?_)
   | (with_reducible refine LeO.bind ?_ (fun _ => ?_))
   | exact ih0 _ _ _ _ _
   | exact ih1 _ _ _ _ _
   | exact ih2 _ _ _ _ _
   | exact ratio_Abs.mono _ _ _
   | exact ratio_Add.mono _ _ _ _ _
   | exact ratio_Cmp.mono _ _ _ _ _
   | exact ratio_Div.mono _ _ _ _ _
   | exact ratio_Floor.mono _ _ _
   | exact ratio_Frac.mono _ _ _
   | exact ratio_Is.mono _ _ _
   | exact ratio_Max.mono _ _ _ _ _
   | exact ratio_Min.mono _ _ _ _ _
   | exact ratio_Mod.mono _ _ _ _ _
   | exact ratio_Mul.mono _ _ _ _ _
   | exact ratio_Neg.mono _ _ _
   | exact ratio_Round.mono _ _ _
   | exact ratio_Sub.mono _ _ _ _ _
   | exact ratio_Valid.mono _ _ _
   | exact serinettelaw01_awake.mono _
   | exact serinetteref01_Abs.mono _ _ _
   | exact serinetteref01_Add.mono _ _ _ _ _
   | exact serinetteref01_Cmp.mono _ _ _ _ _
   | exact serinetteref01_Div.mono _ _ _ _ _
   | exact serinetteref01_Floor.mono _ _ _
   | exact serinetteref01_Frac.mono _ _ _
   | exact serinetteref01_Is.mono _ _ _
   | exact serinetteref01_Max.mono _ _ _ _ _
   | exact serinetteref01_Min.mono _ _ _ _ _
   | exact serinetteref01_Mod.mono _ _ _ _ _
   | exact serinetteref01_Mul.mono _ _ _ _ _
   | exact serinetteref01_Neg.mono _ _ _
   | exact serinetteref01_Round.mono _ _ _
   | exact serinetteref01_Sub.mono _ _ _ _ _
   | exact serinetteref01_Valid.mono _ _ _
   | exact LeO.none _
   | refine LeO.ite ?_ ?_
   | refine LeO.bind ?_ (fun _ => ?_)
  ·
   intro y0 y1 y2 y3 y4
   unfold serinettelaw01_NumberSays.j1
   repeat' first
   | (with_reducible exact ih0 _ _ _ _ _)
   | (with_reducible exact ih1 _ _ _ _ _)
   | (with_reducible exact ih2 _ _ _ _ _)
   | (with_reducible exact ratio_Abs.mono _ _ _)
   | (with_reducible exact ratio_Add.mono _ _ _ _ _)
   | (with_reducible exact ratio_Cmp.mono _ _ _ _ _)
   | (with_reducible exact ratio_Div.mono _ _ _ _ _)
   | (with_reducible exact ratio_Floor.mono _ _ _)
   | (with_reducible exact ratio_Frac.mono _ _ _)
   | (with_reducible exact ratio_Is.mono _ _ _)
   | (with_reducible exact ratio_Max.mono _ _ _ _ _)
   | (with_reducible exact ratio_Min.mono _ _ _ _ _)
   | (with_reducible exact ratio_Mod.mono _ _ _ _ _)
   | (with_reducible exact ratio_Mul.mono _ _ _ _ _)
   | (with_reducible exact ratio_Neg.mono _ _ _)
   | (with_reducible exact ratio_Round.mono _ _ _)
   | (with_reducible exact ratio_Sub.mono _ _ _ _ _)
   | (with_reducible exact ratio_Valid.mono _ _ _)
   | (with_reducible exact serinettelaw01_awake.mono _)
   | (with_reducible exact serinetteref01_Abs.mono _ _ _)
   | (with_reducible exact serinetteref01_Add.mono _ _ _ _ _)
   | (with_reducible exact serinetteref01_Cmp.mono _ _ _ _ _)
   | (with_reducible exact serinetteref01_Div.mono _ _ _ _ _)
   | (with_reducible exact serinetteref01_Floor.mono _ _ _)
   | (with_reducible exact serinetteref01_Frac.mono _ _ _)
   | (with_reducible exact serinetteref01_Is.mono _ _ _)
   | (with_reducible exact serinetteref01_Max.mono _ _ _ _ _)
   | (with_reducible exact serinetteref01_Min.mono _ _ _ _ _)
   | (with_reducible exact serinetteref01_Mod.mono _ _ _ _ _)
   | (with_reducible exact serinetteref01_Mul.mono _ _ _ _ _)
   | (with_reducible exact serinetteref01_Neg.mono _ _ _)
   | (with_reducible exact serinetteref01_Round.mono _ _ _)
   | (with_reducible exact serinetteref01_Sub.mono _ _ _ _ _)
   | (with_reducible exact serinetteref01_Valid.mono _ _ _)
   | (with_reducible exact LeO.refl _)
   | (with_reducible exact LeO.none _)
   | (with_reducible refine LeO.ite ?_ ?_)
   | (with_reducible refine LeO.bind ?_ (fun _ => ?_))
   | exact ih0 _ _ _ _ _
   | exact ih1 _ _ _ _ _
   | exact ih2 _ _ _ _ _
   | exact ratio_Abs.mono _ _ _
   | exact ratio_Add.mono _ _ _ _ _
   | exact ratio_Cmp.mono _ _ _ _ _
   | exact ratio_Div.mono _ _ _ _ _
   | exact ratio_Floor.mono _ _ _
   | exact ratio_Frac.mono _ _ _
   | exact ratio_Is.mono _ _ _
   | exact ratio_Max.mono _ _ _ _ _
   | exact ratio_Min.mono _ _ _ _ _
   | exact ratio_Mod.mono _ _ _ _ _
   | exact ratio_Mul.mono _ _ _ _ _
   | exact ratio_Neg.mono _ _ _
   | exact ratio_Round.mono _ _ _
   | exact ratio_Sub.mono _ _ _ _ _
   | exact ratio_Valid.mono _ _ _
   | exact serinettelaw01_awake.mono _
   | exact serinetteref01_Abs.mono _ _ _
   | exact serinetteref01_Add.mono _ _ _ _ _
   | exact serinetteref01_Cmp.mono _ _ _ _ _
   | exact serinetteref01_Div.mono _ _ _ _ _
   | exact serinetteref01_Floor.mono _ _ _
   | exact serinetteref01_Frac.mono _ _ _
   | exact serinetteref01_Is.mono _ _ _
   | exact serinetteref01_Max.mono _ _ _ _ _
   | exact serinetteref01_Min.mono _ _ _ _ _
   | exact serinetteref01_Mod.mono _ _ _ _ _
   | exact serinetteref01_Mul.mono _ _ _ _ _
   | exact serinetteref01_Neg.mono _ _ _
   | exact serinetteref01_Round.mono _ _ _
   | exact serinetteref01_Sub.mono _ _ _ _ _
   | exact serinetteref01_Valid.mono _ _ _
   | exact LeO.none _
   | refine LeO.ite ?_ ?_
   | refine LeO.bind ?_ (fun _ => ?_)
  ·
   intro y0 y1 y2 y3 y4
   unfold serinettelaw01_NumberSays.j2
   repeat' first
   | (with_reducible exact ih0 _ _ _ _ _)
   | (with_reducible exact ih1 _ _ _ _ _)
   | (with_reducible exact ih2 _ _ _ _ _)
   | (with_reducible exact ratio_Abs.mono _ _ _)
   | (with_reducible exact ratio_Add.mono _ _ _ _ _)
   | (with_reducible exact ratio_Cmp.mono _ _ _ _ _)
   | (with_reducible exact ratio_Div.mono _ _ _ _ _)
   | (with_reducible exact ratio_Floor.mono _ _ _)
   | (with_reducible exact ratio_Frac.mono _ _ _)
   | (with_reducible exact ratio_Is.mono _ _ _)
   | (with_reducible exact ratio_Max.mono _ _ _ _ _)
   | (with_reducible exact ratio_Min.mono _ _ _ _ _)
   | (with_reducible exact ratio_Mod.mono _ _ _ _ _)
   | (with_reducible exact ratio_Mul.mono _ _ _ _ _)
   | (with_reducible exact ratio_Neg.mono _ _ _)
   | (with_reducible exact ratio_Round.mono _ _ _)
   | (with_reducible exact ratio_Sub.mono _ _ _ _ _)
   | (with_reducible exact ratio_Valid.mono _ _ _)
   | (with_reducible exact serinettelaw01_awake.mono _)
   | (with_reducible exact serinetteref01_Abs.mono _ _ _)
   | (with_reducible exact serinetteref01_Add.mono _ _ _ _ _)
   | (with_reducible exact serinetteref01_Cmp.mono _ _ _ _ _)
   | (with_reducible exact serinetteref01_Div.mono _ _ _ _ _)
   | (with_reducible exact serinetteref01_Floor.mono _ _ _)
   | (with_reducible exact serinetteref01_Frac.mono _ _ _)
   | (with_reducible exact serinetteref01_Is.mono _ _ _)
   | (with_reducible exact serinetteref01_Max.mono _ _ _ _ _)
   | (with_reducible exact serinetteref01_Min.mono _ _ _ _ _)
   | (with_reducible exact serinetteref01_Mod.mono _ _ _ _ _)
   | (with_reducible exact serinetteref01_Mul.mono _ _ _ _ _)
   | (with_reducible exact serinetteref01_Neg.mono _ _ _)
   | (with_reducible exact serinetteref01_Round.mono _ _ _)
   | (with_reducible exact serinetteref01_Sub.mono _ _ _ _ _)
   | (with_reducible exact serinetteref01_Valid.mono _ _ _)
   | (with_reducible exact LeO.refl _)
   | (with_reducible exact LeO.none _)
   | (with_reducible refine LeO.ite ?_ ?_)
   | (with_reducible refine LeO.bind ?_ (fun _ => ?_))
   | exact ih0 _ _ _ _ _
   | exact ih1 _ _ _ _ _
   | exact ih2 _ _ _ _ _
   | exact ratio_Abs.mono _ _ _
   | exact ratio_Add.mono _ _ _ _ _
   | exact ratio_Cmp.mono _ _ _ _ _
   | exact ratio_Div.mono _ _ _ _ _
   | exact ratio_Floor.mono _ _ _
   | exact ratio_Frac.mono _ _ _
   | exact ratio_Is.mono _ _ _
   | exact ratio_Max.mono _ _ _ _ _
   | exact ratio_Min.mono _ _ _ _ _
   | exact ratio_Mod.mono _ _ _ _ _
   | exact ratio_Mul.mono _ _ _ _ _
   | exact ratio_Neg.mono _ _ _
   | exact ratio_Round.mono _ _ _
   | exact ratio_Sub.mono _ _ _ _ _
   | exact ratio_Valid.mono _ _ _
   | exact serinettelaw01_awake.mono _
   | exact serinetteref01_Abs.mono _ _ _
   | exact serinetteref01_Add.mono _ _ _ _ _
   | exact serinetteref01_Cmp.mono _ _ _ _ _
   | exact serinetteref01_Div.mono _ _ _ _ _
   | exact serinetteref01_Floor.mono _ _ _
   | exact serinetteref01_Frac.mono _ _ _
   | exact serinetteref01_Is.mono _ _ _
   | exact serinetteref01_Max.mono _ _ _ _ _
   | exact serinetteref01_Min.mono _ _ _ _ _
   | exact serinetteref01_Mod.mono _ _ _ _ _
   | exact serinetteref01_Mul.mono _ _ _ _ _
   | exact serinetteref01_Neg.mono _ _ _
   | exact serinetteref01_Round.mono _ _ _
   | exact serinetteref01_Sub.mono _ _ _ _ _
   | exact serinetteref01_Valid.mono _ _ _
   | exact LeO.none _
   | refine LeO.ite ?_ ?_
   | refine LeO.bind ?_ (fun _ => ?_)
theorem serinettelaw01_NumberSays.mono : ∀ a0 a1 a2 a3 k, LeO (serinettelaw01_NumberSays.f k a0 a1 a2 a3) (serinettelaw01_NumberSays.f (k + 1) a0 a1 a2 a3) := by
 intro a0 a1 a2 a3 k
 obtain ⟨ih0, ih1, ih2⟩ := serinettelaw01_NumberSays.mono_l k
 unfold serinettelaw01_NumberSays.f
 repeat' first
   | (with_reducible exact ih0 _ _ _ _ _)
   | (with_reducible exact ih1 _ _ _ _ _)
   | (with_reducible exact ih2 _ _ _ _ _)
   | (with_reducible exact ratio_Abs.mono _ _ _)
   | (with_reducible exact ratio_Add.mono _ _ _ _ _)
   | (with_reducible exact ratio_Cmp.mono _ _ _ _ _)
   | (with_reducible exact ratio_Div.mono _ _ _ _ _)
   | (with_reducible exact ratio_Floor.mono _ _ _)
   | (with_reducible exact ratio_Frac.mono _ _ _)
   | (with_reducible exact ratio_Is.mono _ _ _)
   | (with_reducible exact ratio_Max.mono _ _ _ _ _)
   | (with_reducible exact ratio_Min.mono _ _ _ _ _)
   | (with_reducible exact ratio_Mod.mono _ _ _ _ _)
   | (with_reducible exact ratio_Mul.mono _ _ _ _ _)
   | (with_reducible exact ratio_Neg.mono _ _ _)
   | (with_reducible exact ratio_Round.mono _ _ _)
   | (with_reducible exact ratio_Sub.mono _ _ _ _ _)
   | (with_reducible exact ratio_Valid.mono _ _ _)
   | (with_reducible exact serinettelaw01_awake.mono _)
   | (with_reducible exact serinetteref01_Abs.mono _ _ _)
   | (with_reducible exact serinetteref01_Add.mono _ _ _ _ _)
   | (with_reducible exact serinetteref01_Cmp.mono _ _ _ _ _)
   | (with_reducible exact serinetteref01_Div.mono _ _ _ _ _)
   | (with_reducible exact serinetteref01_Floor.mono _ _ _)
   | (with_reducible exact serinetteref01_Frac.mono _ _ _)
   | (with_reducible exact serinetteref01_Is.mono _ _ _)
   | (with_reducible exact serinetteref01_Max.mono _ _ _ _ _)
   | (with_reducible exact serinetteref01_Min.mono _ _ _ _ _)
   | (with_reducible exact serinetteref01_Mod.mono _ _ _ _ _)
   | (with_reducible exact serinetteref01_Mul.mono _ _ _ _ _)
   | (with_reducible exact serinetteref01_Neg.mono _ _ _)
   | (with_reducible exact serinetteref01_Round.mono _ _ _)
   | (with_reducible exact serinetteref01_Sub.mono _ _ _ _ _)
   | (with_reducible exact serinetteref01_Valid.mono _ _ _)
   | (with_reducible exact LeO.refl _)
   | (with_reducible exact LeO.none _)
   | (with_reducible refine LeO.ite ?_ ?_)
   | (with_reducible refine LeO.bind ?_ (fun _ => ?_))
   | exact ih0 _ _ _ _ _
   | exact ih1 _ _ _ _ _
   | exact ih2 _ _ _ _ _
   | exact ratio_Abs.mono _ _ _
   | exact ratio_Add.mono _ _ _ _ _
   | exact ratio_Cmp.mono _ _ _ _ _
   | exact ratio_Div.mono _ _ _ _ _
   | exact ratio_Floor.mono _ _ _
   | exact ratio_Frac.mono _ _ _
   | exact ratio_Is.mono _ _ _
   | exact ratio_Max.mono _ _ _ _ _
   | exact ratio_Min.mono _ _ _ _ _
   | exact ratio_Mod.mono _ _ _ _ _
   | exact ratio_Mul.mono _ _ _ _ _
   | exact ratio_Neg.mono _ _ _
   | exact ratio_Round.mono _ _ _
   | exact ratio_Sub.mono _ _ _ _ _
   | exact ratio_Valid.mono _ _ _
   | exact serinettelaw01_awake.mono _
   | exact serinetteref01_Abs.mono _ _ _
   | exact serinetteref01_Add.mono _ _ _ _ _
   | exact serinetteref01_Cmp.mono _ _ _ _ _
   | exact serinetteref01_Div.mono _ _ _ _ _
   | exact serinetteref01_Floor.mono _ _ _
   | exact serinetteref01_Frac.mono _ _ _
   | exact serinetteref01_Is.mono _ _ _
   | exact serinetteref01_Max.mono _ _ _ _ _
   | exact serinetteref01_Min.mono _ _ _ _ _
   | exact serinetteref01_Mod.mono _ _ _ _ _
   | exact serinetteref01_Mul.mono _ _ _ _ _
   | exact serinetteref01_Neg.mono _ _ _
   | exact serinetteref01_Round.mono _ _ _
   | exact serinetteref01_Sub.mono _ _ _ _ _
   | exact serinetteref01_Valid.mono _ _ _
   | exact LeO.none _
   | refine LeO.ite ?_ ?_
   | refine LeO.bind ?_ (fun _ => ?_)
def serinettelaw01_NumberSays.T1 : Bool × List (List Nat × List Nat) := (true, [([], []), ([0], [0]), ([], []), ([2, 1], [2]), ([1, 3], [1, 3]), ([4, 3], [4]), ([5], [5]), ([6, 5, 5], [5, 6]), ([5], [5]), ([8, 7, 5], [5, 8]), ([7, 9, 5], [5, 7, 9]), ([5, 10], [5, 10]), ([11, 9], [11]), ([12], [12]), ([12], [12]), ([13, 14, 12, 12], [12, 13, 14]), ([12], [12]), ([12], [12]), ([16, 17, 15, 12], [12, 16, 17]), ([15, 18, 12], [12, 15, 18]), ([12, 19], [12, 19])])
def serinettelaw01_NumberSays.B1 : List Nat := [0, 1, 0, 7, 15, 31, 63, 127, 63, 511, 1023, 2047, 4095, 8191, 8191, 32767, 8191, 8191, 262143, 524287, 1048575]
theorem serinettelaw01_NumberSays.tab1 : rtab .any (opsOf Try.f8 1) = serinettelaw01_NumberSays.T1 := by kernel_rfl
theorem serinettelaw01_NumberSays.bits1 : waitsOk serinettelaw01_NumberSays.T1.2 serinettelaw01_NumberSays.B1 = true := by kernel_rfl
def serinettelaw01_NumberSays.T3 : Bool × List (List Nat × List Nat) := (true, [([], []), ([], []), ([0, 1], [0, 1]), ([], []), ([], []), ([3, 4, 2], [3, 4]), ([2, 5], [2, 5]), ([6, 5], [6]), ([7], [7]), ([7], [7]), ([8, 9, 7, 7], [7, 8, 9]), ([7], [7]), ([7], [7]), ([11, 12, 10, 7], [7, 11, 12]), ([10, 13, 7], [7, 10, 13]), ([7, 14], [7, 14]), ([15, 13], [15]), ([16], [16]), ([16], [16]), ([17, 18, 16, 16], [16, 17, 18]), ([16], [16]), ([16], [16]), ([20, 21, 19, 16], [16, 20, 21]), ([19, 22, 16], [16, 19, 22]), ([16, 23], [16, 23]), ([24, 22], [24]), ([25], [25]), ([25], [25]), ([26, 27, 25, 25], [25, 26, 27]), ([25], [25]), ([25], [25]), ([29, 30, 28, 25], [25, 29, 30]), ([28, 31, 25], [25, 28, 31]), ([25, 32], [25, 32]), ([33, 31], [33]), ([34], [34]), ([34], [34]), ([35, 36, 34, 34], [34, 35, 36]), ([34], [34]), ([34], [34]), ([38, 39, 37, 34], [34, 38, 39]), ([37, 40, 34], [34, 37, 40]), ([34, 41], [34, 41])])
def serinettelaw01_NumberSays.B3 : List Nat := [0, 0, 3, 0, 0, 31, 63, 127, 255, 255, 1023, 255, 255, 8191, 16383, 32767, 65535, 131071, 131071, 524287, 131071, 131071, 4194303, 8388607, 16777215, 33554431, 67108863, 67108863, 268435455, 67108863, 67108863, 2147483647, 4294967295, 8589934591, 17179869183, 34359738367, 34359738367, 137438953471, 34359738367, 34359738367, 1099511627775, 2199023255551, 4398046511103]
theorem serinettelaw01_NumberSays.tab3 : rtab .any (opsOf Try.f8 3) = serinettelaw01_NumberSays.T3 := by kernel_rfl
theorem serinettelaw01_NumberSays.bits3 : waitsOk serinettelaw01_NumberSays.T3.2 serinettelaw01_NumberSays.B3 = true := by kernel_rfl
def serinettelaw01_NumberSays.T5 : Bool × List (List Nat × List Nat) := (true, [([], []), ([0], [0]), ([], []), ([2, 1], [2]), ([1, 3], [1, 3]), ([4, 3], [4]), ([5], [5]), ([6, 5, 5], [5, 6]), ([5], [5]), ([8, 7, 5], [5, 8]), ([7, 9, 5], [5, 7, 9]), ([5, 10], [5, 10]), ([11, 9], [11]), ([12], [12]), ([13, 12, 12], [12, 13]), ([12], [12]), ([15, 14, 12], [12, 15]), ([14, 16, 12], [12, 14, 16]), ([12, 17], [12, 17]), ([18, 16], [18]), ([19], [19]), ([20, 19, 19], [19, 20]), ([19], [19]), ([22, 21, 19], [19, 22]), ([21, 23, 19], [19, 21, 23]), ([19, 24], [19, 24]), ([25, 23], [25]), ([26], [26]), ([27, 26, 26], [26, 27]), ([26], [26]), ([29, 28, 26], [26, 29]), ([28, 30, 26], [26, 28, 30]), ([26, 31], [26, 31])])
def serinettelaw01_NumberSays.B5 : List Nat := [0, 1, 0, 7, 15, 31, 63, 127, 63, 511, 1023, 2047, 4095, 8191, 16383, 8191, 65535, 131071, 262143, 524287, 1048575, 2097151, 1048575, 8388607, 16777215, 33554431, 67108863, 134217727, 268435455, 134217727, 1073741823, 2147483647, 4294967295]
theorem serinettelaw01_NumberSays.tab5 : rtab .any (opsOf Try.f8 5) = serinettelaw01_NumberSays.T5 := by kernel_rfl
theorem serinettelaw01_NumberSays.bits5 : waitsOk serinettelaw01_NumberSays.T5.2 serinettelaw01_NumberSays.B5 = true := by kernel_rfl
def serinettelaw01_NumberSays.T7 : Bool × List (List Nat × List Nat) := (true, [([], []), ([], []), ([0, 1], [0, 1]), ([], []), ([], []), ([3, 4, 2], [3, 4]), ([2, 5], [2, 5]), ([6, 5], [6]), ([7], [7]), ([7], [7]), ([8, 9, 7, 7], [7, 8, 9]), ([7], [7]), ([7], [7]), ([11, 12, 10, 7], [7, 11, 12]), ([10, 13, 7], [7, 10, 13]), ([7, 14], [7, 14]), ([15, 13], [15]), ([16, 16], [16]), ([16, 17], [16, 17]), ([18, 17, 0, 1, 2, 3, 4, 5, 6, 7, 8, 9, 10, 11, 12, 13, 14, 15, 16, 17, 18], [18])])
def serinettelaw01_NumberSays.B7 : List Nat := [0, 0, 3, 0, 0, 31, 63, 127, 255, 255, 1023, 255, 255, 8191, 16383, 32767, 65535, 131071, 262143, 524287]
theorem serinettelaw01_NumberSays.tab7 : rtab .any (opsOf Try.f8 7) = serinettelaw01_NumberSays.T7 := by kernel_rfl
theorem serinettelaw01_NumberSays.bits7 : waitsOk serinettelaw01_NumberSays.T7.2 serinettelaw01_NumberSays.B7 = true := by kernel_rfl
theorem serinettelaw01_NumberSays.j0_true : ∀ k y1 y2 y3 y4, serinettelaw01_NumberSays.j0 k true y1 y2 y3 y4 ≠ some true := by
 intro k y1 y2 y3 y4
 cases k <;> simp [serinettelaw01_NumberSays.j0]
theorem serinettelaw01_NumberSays.j1_true : ∀ k y1 y2 y3 y4, serinettelaw01_NumberSays.j1 k true y1 y2 y3 y4 ≠ some true := by
 intro k y1 y2 y3 y4
 cases k <;> simp [serinettelaw01_NumberSays.j1]
theorem serinettelaw01_NumberSays.j2_true : ∀ k y1 y2 y3 y4, serinettelaw01_NumberSays.j2 k true y1 y2 y3 y4 ≠ some true := by
 intro k y1 y2 y3 y4
 cases k <;> simp [serinettelaw01_NumberSays.j2]
end Go.Proofs.Ytgecbfemlpmpeaa.SNumberSays
