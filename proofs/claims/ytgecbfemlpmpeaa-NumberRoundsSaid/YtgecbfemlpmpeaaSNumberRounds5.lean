/- Turned by a program of this session out of what the print prints for the functions that NumberRounds reaches: the same proofs in shorter words. -/
import Derived.Test.YtgecbfemlpmpeaaSNumberRounds0
import Derived.Test.YtgecbfemlpmpeaaSNumberRounds1
import Derived.Test.YtgecbfemlpmpeaaSNumberRounds2
import Derived.Test.YtgecbfemlpmpeaaSNumberRounds3
import Derived.Test.YtgecbfemlpmpeaaSNumberRounds4
namespace Go.Proofs.Ytgecbfemlpmpeaa.SNumberRounds
open Go.RowKit Go.Proofs.Ytgecbfemlpmpeaa.Wd.PrintWords Go.Proofs.Ytgecbfemlpmpeaa.Wd.PrintLast Go.Proofs.Ytgecbfemlpmpeaa.Wd.PrintMore
set_option linter.unusedVariables false
set_option linter.unusedSimpArgs false
attribute [local go_sem] max2_int min2_int max_two min_two max_three min_three max_four min_four   -- for this text's walks alone
attribute [local go_sem high] eqA24
/-! ### serinettelaw01_NumberRounds: function 7 -/
mutual
def serinettelaw01_NumberRounds.j0 : Nat → Bool → Int → Int → Int → Int → Option (Bool)
 | 0, _, _, _, _, _ => none
 | k + 1, x60, x192000, x192001, x193000, x193001 => if x60 = true then (some false) else ((ratio_Mod.f k x192000 x192001 x193000 x193001).bind fun bt230 => ((serinettelaw01_numbers.f k (([(⟨bt230.1, bt230.2⟩ : S24), (⟨x193000, x193001⟩ : S24)] : List (S24)))).bind fun t236 => (if t236 = true then (if bt230.1 < 0 then (if x193000 > 0 then (serinettelaw01_NumberRounds.j1 k true x192000 x192001) else (if bt230.1 > 0 then (if x193000 < 0 then (serinettelaw01_NumberRounds.j1 k true x192000 x192001) else ((ratio_Abs.f k bt230.1 bt230.2).bind fun bt237 => ((ratio_Abs.f k x193000 x193001).bind fun bt239 => ((ratio_Cmp.f k bt237.1 bt237.2 bt239.1 bt239.2).bind fun t241 => (serinettelaw01_NumberRounds.j1 k (decide (t241 ≥ 0)) x192000 x192001))))) else ((ratio_Abs.f k bt230.1 bt230.2).bind fun bt242 => ((ratio_Abs.f k x193000 x193001).bind fun bt244 => ((ratio_Cmp.f k bt242.1 bt242.2 bt244.1 bt244.2).bind fun t246 => (serinettelaw01_NumberRounds.j1 k (decide (t246 ≥ 0)) x192000 x192001)))))) else (if bt230.1 > 0 then (if x193000 < 0 then (serinettelaw01_NumberRounds.j1 k true x192000 x192001) else ((ratio_Abs.f k bt230.1 bt230.2).bind fun bt247 => ((ratio_Abs.f k x193000 x193001).bind fun bt249 => ((ratio_Cmp.f k bt247.1 bt247.2 bt249.1 bt249.2).bind fun t251 => (serinettelaw01_NumberRounds.j1 k (decide (t251 ≥ 0)) x192000 x192001))))) else ((ratio_Abs.f k bt230.1 bt230.2).bind fun bt252 => ((ratio_Abs.f k x193000 x193001).bind fun bt254 => ((ratio_Cmp.f k bt252.1 bt252.2 bt254.1 bt254.2).bind fun t256 => (serinettelaw01_NumberRounds.j1 k (decide (t256 ≥ 0)) x192000 x192001)))))) else (serinettelaw01_NumberRounds.j1 k false x192000 x192001))))
def serinettelaw01_NumberRounds.j1 : Nat → Bool → Int → Int → Option (Bool)
 | 0, _, _, _ => none
 | k + 1, x95, x192000, x192001 => if x95 = true then (some false) else ((ratio_Round.f k x192000 x192001).bind fun bt257 => ((ratio_Sub.f k bt257.1 bt257.2 x192000 x192001).bind fun bt260 => ((ratio_Abs.f k bt260.1 bt260.2).bind fun bt262 => ((ratio_Cmp.f k bt262.1 bt262.2 1 2).bind fun t264 => (if t264 ≤ 0 then ((serinettelaw01_awake.f k).bind fun t265 => (some t265)) else (some false))))))
end
def serinettelaw01_NumberRounds.f (k : Nat) (a0_0 : Int) (a0_1 : Int) (a1_0 : Int) (a1_1 : Int) : Option (Bool) := (serinettelaw01_numbers.f k (([(⟨a0_0, a0_1⟩ : S24)] : List (S24)))).bind fun t196 => (if t196 = true then ((ratio_Floor.f k a0_0 a0_1).bind fun bt216 => ((ratio_Frac.f k a0_0 a0_1).bind fun bt219 => ((serinettelaw01_numbers.f k (([(⟨bt219.1, bt219.2⟩ : S24)] : List (S24)))).bind fun t225 => (if t225 = true then ((ratio_Add.f k bt216.1 bt216.2 bt219.1 bt219.2).bind fun bt226 => (if (!(bt226.1 == a0_0) || (!(bt226.2 == a0_1))) = true then (serinettelaw01_NumberRounds.j0 k true a0_0 a0_1 a1_0 a1_1) else ((ratio_Cmp.f k bt219.1 bt219.2 0 1).bind fun t228 => (if t228 < 0 then (serinettelaw01_NumberRounds.j0 k true a0_0 a0_1 a1_0 a1_1) else ((ratio_Cmp.f k bt219.1 bt219.2 1 1).bind fun t229 => (serinettelaw01_NumberRounds.j0 k (decide (t229 ≥ 0)) a0_0 a0_1 a1_0 a1_1)))))) else (serinettelaw01_NumberRounds.j0 k false a0_0 a0_1 a1_0 a1_1))))) else ((ratio_Floor.f k a0_0 a0_1).bind fun bt197 => ((serinettelaw01_numbers.f k (([(⟨bt197.1, bt197.2⟩ : S24)] : List (S24)))).bind fun t202 => (if t202 = true then (some false) else ((ratio_Round.f k a0_0 a0_1).bind fun bt203 => ((serinettelaw01_numbers.f k (([(⟨bt203.1, bt203.2⟩ : S24)] : List (S24)))).bind fun t208 => (if t208 = true then (some false) else ((ratio_Frac.f k a0_0 a0_1).bind fun bt209 => ((serinettelaw01_numbers.f k (([(⟨bt209.1, bt209.2⟩ : S24)] : List (S24)))).bind fun t214 => (if t214 = true then (some false) else ((serinettelaw01_awake.f k).bind fun t215 => (some t215))))))))))))
theorem serinettelaw01_NumberRounds.mono_l : ∀ k, (∀ y0 y1 y2 y3 y4, LeO (serinettelaw01_NumberRounds.j0 k y0 y1 y2 y3 y4) (serinettelaw01_NumberRounds.j0 (k + 1) y0 y1 y2 y3 y4)) ∧ (∀ y0 y1 y2, LeO (serinettelaw01_NumberRounds.j1 k y0 y1 y2) (serinettelaw01_NumberRounds.j1 (k + 1) y0 y1 y2))
 | 0 => ⟨fun _ _ _ _ _ r h => by simp [serinettelaw01_NumberRounds.j0] at h, fun _ _ _ r h => by simp [serinettelaw01_NumberRounds.j1] at h⟩
 | k + 1 => by
  obtain ⟨ih0, ih1⟩ := serinettelaw01_NumberRounds.mono_l k
  refine ⟨?_, ?_⟩
  ·
   intro y0 y1 y2 y3 y4
   unfold serinettelaw01_NumberRounds.j0
   repeat' first
   | (with_reducible exact ih0 _ _ _ _ _)
   | (with_reducible exact ih1 _ _ _)
   | (with_reducible exact ratio_Abs.mono _ _ _)
   | (with_reducible exact ratio_Add.mono _ _ _ _ _)
   | (with_reducible exact ratio_Cmp.mono _ _ _ _ _)
   | (with_reducible exact ratio_Floor.mono _ _ _)
   | (with_reducible exact ratio_Frac.mono _ _ _)
   | (with_reducible exact ratio_Mod.mono _ _ _ _ _)
   | (with_reducible exact ratio_Round.mono _ _ _)
   | (with_reducible exact ratio_Sub.mono _ _ _ _ _)
   | (with_reducible exact serinettelaw01_awake.mono _)
   | (with_reducible exact serinettelaw01_numbers.mono _ _)
   | (with_reducible exact LeO.refl _)
   | (with_reducible exact LeO.none _)
   | (with_reducible refine LeO.ite ?_ ?_)
   | (with_reducible refine LeO.bind ?_ (fun _ => ?_))
   | exact ih0 _ _ _ _ _
   | exact ih1 _ _ _
   | exact ratio_Abs.mono _ _ _
   | exact ratio_Add.mono _ _ _ _ _
   | exact ratio_Cmp.mono _ _ _ _ _
   | exact ratio_Floor.mono _ _ _
   | exact ratio_Frac.mono _ _ _
   | exact ratio_Mod.mono _ _ _ _ _
   | exact ratio_Round.mono _ _ _
   | exact ratio_Sub.mono _ _ _ _ _
   | exact serinettelaw01_awake.mono _
   | exact serinettelaw01_numbers.mono _ _
   | exact LeO.none _
   | refine LeO.ite ?_ ?_
   | refine LeO.bind ?_ (fun _ => ?_)
  ·
   intro y0 y1 y2
   unfold serinettelaw01_NumberRounds.j1
   repeat' first
   | (with_reducible exact ih0 _ _ _ _ _)
   | (with_reducible exact ih1 _ _ _)
   | (with_reducible exact ratio_Abs.mono _ _ _)
   | (with_reducible exact ratio_Add.mono _ _ _ _ _)
   | (with_reducible exact ratio_Cmp.mono _ _ _ _ _)
   | (with_reducible exact ratio_Floor.mono _ _ _)
   | (with_reducible exact ratio_Frac.mono _ _ _)
   | (with_reducible exact ratio_Mod.mono _ _ _ _ _)
   | (with_reducible exact ratio_Round.mono _ _ _)
   | (with_reducible exact ratio_Sub.mono _ _ _ _ _)
   | (with_reducible exact serinettelaw01_awake.mono _)
   | (with_reducible exact serinettelaw01_numbers.mono _ _)
   | (with_reducible exact LeO.refl _)
   | (with_reducible exact LeO.none _)
   | (with_reducible refine LeO.ite ?_ ?_)
   | (with_reducible refine LeO.bind ?_ (fun _ => ?_))
   | exact ih0 _ _ _ _ _
   | exact ih1 _ _ _
   | exact ratio_Abs.mono _ _ _
   | exact ratio_Add.mono _ _ _ _ _
   | exact ratio_Cmp.mono _ _ _ _ _
   | exact ratio_Floor.mono _ _ _
   | exact ratio_Frac.mono _ _ _
   | exact ratio_Mod.mono _ _ _ _ _
   | exact ratio_Round.mono _ _ _
   | exact ratio_Sub.mono _ _ _ _ _
   | exact serinettelaw01_awake.mono _
   | exact serinettelaw01_numbers.mono _ _
   | exact LeO.none _
   | refine LeO.ite ?_ ?_
   | refine LeO.bind ?_ (fun _ => ?_)
theorem serinettelaw01_NumberRounds.mono : ∀ a0 a1 a2 a3 k, LeO (serinettelaw01_NumberRounds.f k a0 a1 a2 a3) (serinettelaw01_NumberRounds.f (k + 1) a0 a1 a2 a3) := by
 intro a0 a1 a2 a3 k
 obtain ⟨ih0, ih1⟩ := serinettelaw01_NumberRounds.mono_l k
 unfold serinettelaw01_NumberRounds.f
 repeat' first
   | (with_reducible exact ih0 _ _ _ _ _)
   | (with_reducible exact ih1 _ _ _)
   | (with_reducible exact ratio_Abs.mono _ _ _)
   | (with_reducible exact ratio_Add.mono _ _ _ _ _)
   | (with_reducible exact ratio_Cmp.mono _ _ _ _ _)
   | (with_reducible exact ratio_Floor.mono _ _ _)
   | (with_reducible exact ratio_Frac.mono _ _ _)
   | (with_reducible exact ratio_Mod.mono _ _ _ _ _)
   | (with_reducible exact ratio_Round.mono _ _ _)
   | (with_reducible exact ratio_Sub.mono _ _ _ _ _)
   | (with_reducible exact serinettelaw01_awake.mono _)
   | (with_reducible exact serinettelaw01_numbers.mono _ _)
   | (with_reducible exact LeO.refl _)
   | (with_reducible exact LeO.none _)
   | (with_reducible refine LeO.ite ?_ ?_)
   | (with_reducible refine LeO.bind ?_ (fun _ => ?_))
   | exact ih0 _ _ _ _ _
   | exact ih1 _ _ _
   | exact ratio_Abs.mono _ _ _
   | exact ratio_Add.mono _ _ _ _ _
   | exact ratio_Cmp.mono _ _ _ _ _
   | exact ratio_Floor.mono _ _ _
   | exact ratio_Frac.mono _ _ _
   | exact ratio_Mod.mono _ _ _ _ _
   | exact ratio_Round.mono _ _ _
   | exact ratio_Sub.mono _ _ _ _ _
   | exact serinettelaw01_awake.mono _
   | exact serinettelaw01_numbers.mono _ _
   | exact LeO.none _
   | refine LeO.ite ?_ ?_
   | refine LeO.bind ?_ (fun _ => ?_)
def serinettelaw01_NumberRounds.T5 : Bool × List (List Nat × List Nat) := (true, [([], []), ([0], [0]), ([1], [1]), ([2, 2], [2]), ([3], [3]), ([3], [3]), ([4, 5, 3, 3], [3, 4, 5]), ([3], [3]), ([6, 7, 3], [3, 6, 7]), ([8, 6, 3], [3, 8]), ([9], [9]), ([9], [9]), ([10, 11, 9, 9], [9, 10, 11]), ([12, 9], [9, 12]), ([9, 13, 3], [3, 9, 13]), ([14, 12, 3], [3, 14]), ([15], [15]), ([15], [15]), ([16, 17, 15, 15], [15, 16, 17]), ([18, 15], [15, 18]), ([15, 19, 3], [3, 15, 19]), ([3, 20], [3, 20])])
def serinettelaw01_NumberRounds.B5 : List Nat := [0, 1, 3, 7, 15, 15, 63, 15, 255, 511, 1023, 1023, 4095, 8191, 16383, 32767, 65535, 65535, 262143, 524287, 1048575, 2097151]
theorem serinettelaw01_NumberRounds.tab5 : rtab .any (opsOf Try.f7 5) = serinettelaw01_NumberRounds.T5 := by kernel_rfl
theorem serinettelaw01_NumberRounds.bits5 : waitsOk serinettelaw01_NumberRounds.T5.2 serinettelaw01_NumberRounds.B5 = true := by kernel_rfl
def serinettelaw01_NumberRounds.T8 : Bool × List (List Nat × List Nat) := (true, [([], []), ([], []), ([0, 1], [0, 1]), ([2], [2]), ([3, 3], [3]), ([4], [4]), ([5, 4], [4, 5]), ([6, 4], [4, 6]), ([7, 4, 4], [4, 7]), ([8], [8]), ([9, 8], [8, 9]), ([10, 8], [8, 10]), ([8, 11, 4], [4, 8, 11]), ([12, 8, 4], [4, 12]), ([13], [13]), ([14, 13], [13, 14]), ([15, 13], [13, 15]), ([16, 13, 13], [13, 16]), ([17], [17]), ([18, 17], [17, 18]), ([19, 17], [17, 19]), ([17, 20, 13], [13, 17, 20]), ([13, 21, 4], [4, 13, 21]), ([22, 17, 4], [4, 22]), ([23], [23]), ([24, 23, 23], [23, 24]), ([23], [23]), ([26, 25, 23], [23, 26]), ([25, 27, 27, 23], [23, 25, 27]), ([28, 23], [23, 28]), ([23, 29, 4], [4, 23, 29]), ([4, 30], [4, 30])])
def serinettelaw01_NumberRounds.B8 : List Nat := [0, 0, 3, 7, 15, 31, 63, 127, 255, 511, 1023, 2047, 4095, 8191, 16383, 32767, 65535, 131071, 262143, 524287, 1048575, 2097151, 4194303, 8388607, 16777215, 33554431, 16777215, 134217727, 268435455, 536870911, 1073741823, 2147483647]
theorem serinettelaw01_NumberRounds.tab8 : rtab .any (opsOf Try.f7 8) = serinettelaw01_NumberRounds.T8 := by kernel_rfl
theorem serinettelaw01_NumberRounds.bits8 : waitsOk serinettelaw01_NumberRounds.T8.2 serinettelaw01_NumberRounds.B8 = true := by kernel_rfl
theorem serinettelaw01_NumberRounds.j0_true : ∀ k y1 y2 y3 y4, serinettelaw01_NumberRounds.j0 k true y1 y2 y3 y4 ≠ some true := by
 intro k y1 y2 y3 y4
 cases k <;> simp [serinettelaw01_NumberRounds.j0]
theorem serinettelaw01_NumberRounds.j1_true : ∀ k y1 y2, serinettelaw01_NumberRounds.j1 k true y1 y2 ≠ some true := by
 intro k y1 y2
 cases k <;> simp [serinettelaw01_NumberRounds.j1]
end Go.Proofs.Ytgecbfemlpmpeaa.SNumberRounds
