-- PRINTED BY print.sh 35421559b90ae4d0a3588c463048766b98c2df88dd9212a6774a882060cdf62d: not written by this session
import Derived.Test.YtgecbfemlpmpeaaPNumberTestsx0
import Derived.Test.YtgecbfemlpmpeaaPNumberTestsx6
namespace Go.Proofs.Ytgecbfemlpmpeaa.PNumberTests
open Go.RowKit Go.Proofs.YtgecbfemlpmpeaaW.PrintWords Go.Proofs.YtgecbfemlpmpeaaW.PrintLast Go.Proofs.YtgecbfemlpmpeaaW.PrintMore
attribute [local go_sem] max2_int min2_int max_two min_two max_three min_three max_four min_four   -- for this text's walks alone
set_option linter.unusedVariables false
set_option linter.unusedSimpArgs false

/-! ### serinetteref01_logic: function 62 -/
def serinetteref01_logic.l0 : Nat → ByteArray → Int → Int → Int → Int → Option (Int)
  | 0, _, _, _, _, _ => none
  | k + 1, x0, x1, x2, x7, x8 => if x8 ≤ 32 then ((serinetteref01_digit.f x1 x8).bind fun t220 => ((serinetteref01_digit.f x2 x8).bind fun t221 => (if x0.toList = ([97, 110, 100] : List UInt8) then (if x8 = 32 then (serinetteref01_logic.l0 k x0 x1 x2 (wrap64 (x7 - (wrap64 ((wrap64 (t220 * t221)) * 4294967296)))) (wrap64 (x8 + 1))) else (if 0 ≤ x8 then (serinetteref01_logic.l0 k x0 x1 x2 (wrap64 (x7 + (wrap64 ((wrap64 (t220 * t221)) * (shl .i64 1 x8))))) (wrap64 (x8 + 1))) else (none))) else (if x0.toList = ([111, 114] : List UInt8) then (if x8 = 32 then (serinetteref01_logic.l0 k x0 x1 x2 (wrap64 (x7 - (wrap64 ((wrap64 ((wrap64 (t220 + t221)) - (wrap64 (t220 * t221)))) * 4294967296)))) (wrap64 (x8 + 1))) else (if 0 ≤ x8 then (serinetteref01_logic.l0 k x0 x1 x2 (wrap64 (x7 + (wrap64 ((wrap64 ((wrap64 (t220 + t221)) - (wrap64 (t220 * t221)))) * (shl .i64 1 x8))))) (wrap64 (x8 + 1))) else (none))) else (if x8 = 32 then (serinetteref01_logic.l0 k x0 x1 x2 (wrap64 (x7 - (wrap64 ((wrap64 ((wrap64 (t220 + t221)) - (wrap64 ((wrap64 (2 * t220)) * t221)))) * 4294967296)))) (wrap64 (x8 + 1))) else (if 0 ≤ x8 then (serinetteref01_logic.l0 k x0 x1 x2 (wrap64 (x7 + (wrap64 ((wrap64 ((wrap64 (t220 + t221)) - (wrap64 ((wrap64 (2 * t220)) * t221)))) * (shl .i64 1 x8))))) (wrap64 (x8 + 1))) else (none))))))) else (some x7)
def serinetteref01_logic.f (k : Nat) (a0 : ByteArray) (a1 : Int) (a2 : Int) : Option (Int) := serinetteref01_logic.l0 k a0 a1 a2 0 0
theorem serinetteref01_logic.mono_l : ∀ k, (∀ y0 y1 y2 y3 y4, LeO (serinetteref01_logic.l0 k y0 y1 y2 y3 y4) (serinetteref01_logic.l0 (k + 1) y0 y1 y2 y3 y4))
  | 0 => fun _ _ _ _ _ r h => by simp [serinetteref01_logic.l0] at h
  | k + 1 => by
    have ih0 := serinetteref01_logic.mono_l k
    · intro y0 y1 y2 y3 y4
      unfold serinetteref01_logic.l0
      repeat' first
      | (with_reducible exact ih0 _ _ _ _ _)
      | (with_reducible exact LeO.refl _)
      | (with_reducible exact LeO.none _)
      | (with_reducible refine LeO.ite ?_ ?_)
      | (with_reducible refine LeO.bind ?_ (fun _ => ?_))
      | exact ih0 _ _ _ _ _
      | exact LeO.none _
      | refine LeO.ite ?_ ?_
      | refine LeO.bind ?_ (fun _ => ?_)
theorem serinetteref01_logic.mono : ∀ a0 a1 a2 k, LeO (serinetteref01_logic.f k a0 a1 a2) (serinetteref01_logic.f (k + 1) a0 a1 a2) := by
  intro a0 a1 a2 k
  have ih0 := serinetteref01_logic.mono_l k
  unfold serinetteref01_logic.f
  repeat' first
      | (with_reducible exact ih0 _ _ _ _ _)
      | (with_reducible exact LeO.refl _)
      | (with_reducible exact LeO.none _)
      | (with_reducible refine LeO.ite ?_ ?_)
      | (with_reducible refine LeO.bind ?_ (fun _ => ?_))
      | exact ih0 _ _ _ _ _
      | exact LeO.none _
      | refine LeO.ite ?_ ?_
      | refine LeO.bind ?_ (fun _ => ?_)
set_option maxHeartbeats 8000000 in
set_option maxRecDepth 100000 in
theorem serinetteref01_logic.calls (k : Nat) (a0 : ByteArray) (a1 : Int) (a2 : Int) (r : Int) (w : World) (h : serinetteref01_logic.f k a0 a1 a2 = some r) :
    Calls Try.prog 62 #[.string a0, .int .i64 a1, .int .i64 a2] w fun e w' => e = .returned (.int .i64 r) ∧ Drawn0 w w' := by
  have H : (serinetteref01_logic.l0 k a0 a1 a2 0 0) = some r := h
  clear h
  have H' := Aside0.mk H
  clear H
  go_enter Try.func62, Try.ntmps62
  go_wp2
  go_loopg [7, 8] k (fun kq v7 v8 w' => ∃ (x7_1 : Int) (x8_1 : Int), v7 = .int .i64 x7_1 ∧ v8 = .int .i64 x8_1 ∧ Aside0 (serinetteref01_logic.l0 kq a0 a1 a2 x7_1 x8_1 = some r) ∧ Aside0 (kq ≤ k) ∧ Drawn0 w w')
  case atStart => exact ⟨(0), (0), (by first | rfl | (simp; done) | (simp [*]; done)), (by first | rfl | (simp; done) | (simp [*]; done)), H', ⟨Nat.le_refl _⟩, by repeat (first | exact Drawn0.refl _ | apply Drawn0.step)⟩
  case round =>
    clear H'
    try clear p2
    obtain ⟨x7_1, x8_1, rfl, rfl, HA, HK1, ⟨m1, rfl⟩⟩ := hrel
    cases gk with
    | zero => exact absurd HA.out (by simp [serinetteref01_logic.l0])
    | succ k1 =>
      have H := HA.out
      clear HA
      simp only [serinetteref01_logic.l0] at H
      by_cases c4 : x8_1 ≤ 32
      · rw [if_pos c4] at H
        have c4b0 : decide (x8_1 ≤ 32) = true := decide_eq_true c4
        clear c4
        replace H := Option.bind_eq_some_iff.mp H
        obtain ⟨t220, A50, H⟩ := H
        replace H : ((serinetteref01_digit.f a2 x8_1).bind fun t221 => (if a0.toList = ([97, 110, 100] : List UInt8) then (if x8_1 = 32 then (serinetteref01_logic.l0 k1 a0 a1 a2 (wrap64 (x7_1 - (wrap64 ((wrap64 (t220 * t221)) * 4294967296)))) (wrap64 (x8_1 + 1))) else (if 0 ≤ x8_1 then (serinetteref01_logic.l0 k1 a0 a1 a2 (wrap64 (x7_1 + (wrap64 ((wrap64 (t220 * t221)) * (shl .i64 1 x8_1))))) (wrap64 (x8_1 + 1))) else (none))) else (if a0.toList = ([111, 114] : List UInt8) then (if x8_1 = 32 then (serinetteref01_logic.l0 k1 a0 a1 a2 (wrap64 (x7_1 - (wrap64 ((wrap64 ((wrap64 (t220 + t221)) - (wrap64 (t220 * t221)))) * 4294967296)))) (wrap64 (x8_1 + 1))) else (if 0 ≤ x8_1 then (serinetteref01_logic.l0 k1 a0 a1 a2 (wrap64 (x7_1 + (wrap64 ((wrap64 ((wrap64 (t220 + t221)) - (wrap64 (t220 * t221)))) * (shl .i64 1 x8_1))))) (wrap64 (x8_1 + 1))) else (none))) else (if x8_1 = 32 then (serinetteref01_logic.l0 k1 a0 a1 a2 (wrap64 (x7_1 - (wrap64 ((wrap64 ((wrap64 (t220 + t221)) - (wrap64 ((wrap64 (2 * t220)) * t221)))) * 4294967296)))) (wrap64 (x8_1 + 1))) else (if 0 ≤ x8_1 then (serinetteref01_logic.l0 k1 a0 a1 a2 (wrap64 (x7_1 + (wrap64 ((wrap64 ((wrap64 (t220 + t221)) - (wrap64 ((wrap64 (2 * t220)) * t221)))) * (shl .i64 1 x8_1))))) (wrap64 (x8_1 + 1))) else (none)))))) = some r := H
        have A5 := Aside0.mk A50
        clear A50
        replace H := Option.bind_eq_some_iff.mp H
        obtain ⟨t221, A60, H⟩ := H
        replace H : (if a0.toList = ([97, 110, 100] : List UInt8) then (if x8_1 = 32 then (serinetteref01_logic.l0 k1 a0 a1 a2 (wrap64 (x7_1 - (wrap64 ((wrap64 (t220 * t221)) * 4294967296)))) (wrap64 (x8_1 + 1))) else (if 0 ≤ x8_1 then (serinetteref01_logic.l0 k1 a0 a1 a2 (wrap64 (x7_1 + (wrap64 ((wrap64 (t220 * t221)) * (shl .i64 1 x8_1))))) (wrap64 (x8_1 + 1))) else (none))) else (if a0.toList = ([111, 114] : List UInt8) then (if x8_1 = 32 then (serinetteref01_logic.l0 k1 a0 a1 a2 (wrap64 (x7_1 - (wrap64 ((wrap64 ((wrap64 (t220 + t221)) - (wrap64 (t220 * t221)))) * 4294967296)))) (wrap64 (x8_1 + 1))) else (if 0 ≤ x8_1 then (serinetteref01_logic.l0 k1 a0 a1 a2 (wrap64 (x7_1 + (wrap64 ((wrap64 ((wrap64 (t220 + t221)) - (wrap64 (t220 * t221)))) * (shl .i64 1 x8_1))))) (wrap64 (x8_1 + 1))) else (none))) else (if x8_1 = 32 then (serinetteref01_logic.l0 k1 a0 a1 a2 (wrap64 (x7_1 - (wrap64 ((wrap64 ((wrap64 (t220 + t221)) - (wrap64 ((wrap64 (2 * t220)) * t221)))) * 4294967296)))) (wrap64 (x8_1 + 1))) else (if 0 ≤ x8_1 then (serinetteref01_logic.l0 k1 a0 a1 a2 (wrap64 (x7_1 + (wrap64 ((wrap64 ((wrap64 (t220 + t221)) - (wrap64 ((wrap64 (2 * t220)) * t221)))) * (shl .i64 1 x8_1))))) (wrap64 (x8_1 + 1))) else (none))))) = some r := H
        have A6 := Aside0.mk A60
        clear A60
        by_cases c7 : a0.toList = ([97, 110, 100] : List UInt8)
        · rw [if_pos c7] at H
          have c7b0 : (a0.toList == ([97, 110, 100] : List UInt8)) = true := beq_iff_eq.mpr c7
          have c7b1 : (a0.toList != ([97, 110, 100] : List UInt8)) = false := bne_eq_false_iff_eq.mpr c7
          clear c7
          by_cases c8 : x8_1 = 32
          · rw [if_pos c8] at H
            have c8b0 : (x8_1 == 32) = true := beq_iff_eq.mpr c8
            have c8b1 : (x8_1 != 32) = false := bne_eq_false_iff_eq.mpr c8
            clear c8
            have H' := Aside0.mk H
            clear H
            go_wp2_with (first | ((with_reducible refine gate_callee (f := 66) rfl ?_); refine goesL_ (some 18) rfl rfl Try.func66 (by kernel_rfl) rfl #[.int .i64 a1, .int .i64 x8_1] rfl (by (try simp only [List.map_toArray, List.map_cons, List.map_nil]); first | done | rfl | (simp only [List.length_drop, List.length_take]; rfl)) ?_; (with_reducible refine (serinetteref01_digit.calls a1 x8_1 t220 _ A5.out).mono ?_); rintro e w' ⟨rfl, ⟨nd, rfl⟩⟩; refine ⟨_, rfl, ?_⟩) | ((with_reducible refine gate_callee (f := 66) rfl ?_); refine goesL_ (some 21) rfl rfl Try.func66 (by kernel_rfl) rfl #[.int .i64 a2, .int .i64 x8_1] rfl (by (try simp only [List.map_toArray, List.map_cons, List.map_nil]); first | done | rfl | (simp only [List.length_drop, List.length_take]; rfl)) ?_; (with_reducible refine (serinetteref01_digit.calls a2 x8_1 t221 _ A6.out).mono ?_); rintro e w' ⟨rfl, ⟨nd, rfl⟩⟩; refine ⟨_, rfl, ?_⟩))
            go_roundg k1
            case measure => have := HK1.out; omega
            case rel => exact ⟨(wrap64 (x7_1 - (wrap64 ((wrap64 (t220 * t221)) * 4294967296)))), (wrap64 (x8_1 + 1)), (by first | rfl | (simp; done) | (simp [*]; done)), (by first | rfl | (simp; done) | (simp [*]; done)), H', ⟨by have := HK1.out; omega⟩, by repeat (first | exact Drawn0.refl _ | apply Drawn0.step)⟩
          · rw [if_neg c8] at H
            have c8b0 : (x8_1 == 32) = false := beq_eq_false_iff_ne.mpr c8
            have c8b1 : (x8_1 != 32) = true := bne_iff_ne.mpr c8
            by_cases c9 : 0 ≤ x8_1
            · rw [if_pos c9] at H
              have c9b0 := eq_true c9
              have c9b1 : decide (0 ≤ x8_1) = true := decide_eq_true c9
              clear c9
              obtain ⟨ji10, hji10⟩ : ∃ j_ : Int, (shl .i64 1 x8_1) = j_ := ⟨_, rfl⟩
              replace H : (serinetteref01_logic.l0 k1 a0 a1 a2 (wrap64 (x7_1 + (wrap64 ((wrap64 (t220 * t221)) * (ji10))))) (wrap64 (x8_1 + 1))) = some r := by first | (rw [hji10] at H; exact H) | (simp only [hji10] at H ⊢; exact H)
              (try rw [hji10] at A5)
              (try rw [hji10] at A6)
              have hji10_ : (IntKind.i64.wrap (1 * 2 ^ min x8_1.toNat 64)) = ji10 := hji10
              have hji10z : x8_1 ≤ 64 → (IntKind.i64.wrap (1 * 2 ^ x8_1.toNat)) = ji10 := shl_small hji10
              have hji10u : (IntKind.i64.wrap (2 ^ min x8_1.toNat 64)) = ji10 := by have h_ := hji10_; rw [Int.one_mul] at h_; exact h_
              have hji10v : x8_1 ≤ 64 → (IntKind.i64.wrap (2 ^ x8_1.toNat)) = ji10 := fun hle_ => by have h_ := hji10z hle_; rw [Int.one_mul] at h_; exact h_
              have hji10y : (wrap64 (1 * 2 ^ min x8_1.toNat 64)) = ji10 := (i64_w _).symm.trans hji10_
              have hji10x : x8_1 ≤ 64 → (wrap64 (1 * 2 ^ x8_1.toNat)) = ji10 := fun h_ => (i64_w _).symm.trans (hji10z h_)
              have H' := Aside0.mk H
              clear H
              go_wp2_with (first | ((with_reducible refine gate_callee (f := 66) rfl ?_); refine goesL_ (some 18) rfl rfl Try.func66 (by kernel_rfl) rfl #[.int .i64 a1, .int .i64 x8_1] rfl (by (try simp only [List.map_toArray, List.map_cons, List.map_nil]); first | done | rfl | (simp only [List.length_drop, List.length_take]; rfl)) ?_; (with_reducible refine (serinetteref01_digit.calls a1 x8_1 t220 _ A5.out).mono ?_); rintro e w' ⟨rfl, ⟨nd, rfl⟩⟩; refine ⟨_, rfl, ?_⟩) | ((with_reducible refine gate_callee (f := 66) rfl ?_); refine goesL_ (some 21) rfl rfl Try.func66 (by kernel_rfl) rfl #[.int .i64 a2, .int .i64 x8_1] rfl (by (try simp only [List.map_toArray, List.map_cons, List.map_nil]); first | done | rfl | (simp only [List.length_drop, List.length_take]; rfl)) ?_; (with_reducible refine (serinetteref01_digit.calls a2 x8_1 t221 _ A6.out).mono ?_); rintro e w' ⟨rfl, ⟨nd, rfl⟩⟩; refine ⟨_, rfl, ?_⟩))
              go_roundg k1
              case measure => have := HK1.out; omega
              case rel => exact ⟨(wrap64 (x7_1 + (wrap64 ((wrap64 (t220 * t221)) * (ji10))))), (wrap64 (x8_1 + 1)), (by first | rfl | (simp; done) | (simp only [← hji10] <;> (first | rfl | simp)) | (simp [*]; done)), (by first | rfl | (simp; done) | (simp [*]; done)), H', ⟨by have := HK1.out; omega⟩, by repeat (first | exact Drawn0.refl _ | apply Drawn0.step)⟩
            · rw [if_neg c9] at H
              exact absurd H (by simp)
        · rw [if_neg c7] at H
          have c7b0 : (a0.toList == ([97, 110, 100] : List UInt8)) = false := beq_eq_false_iff_ne.mpr c7
          have c7b1 : (a0.toList != ([97, 110, 100] : List UInt8)) = true := bne_iff_ne.mpr c7
          by_cases c11 : a0.toList = ([111, 114] : List UInt8)
          · rw [if_pos c11] at H
            have c11b0 : (a0.toList == ([111, 114] : List UInt8)) = true := beq_iff_eq.mpr c11
            have c11b1 : (a0.toList != ([111, 114] : List UInt8)) = false := bne_eq_false_iff_eq.mpr c11
            clear c11
            by_cases c12 : x8_1 = 32
            · rw [if_pos c12] at H
              have c12b0 : (x8_1 == 32) = true := beq_iff_eq.mpr c12
              have c12b1 : (x8_1 != 32) = false := bne_eq_false_iff_eq.mpr c12
              clear c12
              have H' := Aside0.mk H
              clear H
              go_wp2_with (first | ((with_reducible refine gate_callee (f := 66) rfl ?_); refine goesL_ (some 18) rfl rfl Try.func66 (by kernel_rfl) rfl #[.int .i64 a1, .int .i64 x8_1] rfl (by (try simp only [List.map_toArray, List.map_cons, List.map_nil]); first | done | rfl | (simp only [List.length_drop, List.length_take]; rfl)) ?_; (with_reducible refine (serinetteref01_digit.calls a1 x8_1 t220 _ A5.out).mono ?_); rintro e w' ⟨rfl, ⟨nd, rfl⟩⟩; refine ⟨_, rfl, ?_⟩) | ((with_reducible refine gate_callee (f := 66) rfl ?_); refine goesL_ (some 21) rfl rfl Try.func66 (by kernel_rfl) rfl #[.int .i64 a2, .int .i64 x8_1] rfl (by (try simp only [List.map_toArray, List.map_cons, List.map_nil]); first | done | rfl | (simp only [List.length_drop, List.length_take]; rfl)) ?_; (with_reducible refine (serinetteref01_digit.calls a2 x8_1 t221 _ A6.out).mono ?_); rintro e w' ⟨rfl, ⟨nd, rfl⟩⟩; refine ⟨_, rfl, ?_⟩))
              go_roundg k1
              case measure => have := HK1.out; omega
              case rel => exact ⟨(wrap64 (x7_1 - (wrap64 ((wrap64 ((wrap64 (t220 + t221)) - (wrap64 (t220 * t221)))) * 4294967296)))), (wrap64 (x8_1 + 1)), (by first | rfl | (simp; done) | (simp [*]; done)), (by first | rfl | (simp; done) | (simp [*]; done)), H', ⟨by have := HK1.out; omega⟩, by repeat (first | exact Drawn0.refl _ | apply Drawn0.step)⟩
            · rw [if_neg c12] at H
              have c12b0 : (x8_1 == 32) = false := beq_eq_false_iff_ne.mpr c12
              have c12b1 : (x8_1 != 32) = true := bne_iff_ne.mpr c12
              by_cases c13 : 0 ≤ x8_1
              · rw [if_pos c13] at H
                have c13b0 := eq_true c13
                have c13b1 : decide (0 ≤ x8_1) = true := decide_eq_true c13
                clear c13
                obtain ⟨ji14, hji14⟩ : ∃ j_ : Int, (shl .i64 1 x8_1) = j_ := ⟨_, rfl⟩
                replace H : (serinetteref01_logic.l0 k1 a0 a1 a2 (wrap64 (x7_1 + (wrap64 ((wrap64 ((wrap64 (t220 + t221)) - (wrap64 (t220 * t221)))) * (ji14))))) (wrap64 (x8_1 + 1))) = some r := by first | (rw [hji14] at H; exact H) | (simp only [hji14] at H ⊢; exact H)
                (try rw [hji14] at A5)
                (try rw [hji14] at A6)
                have hji14_ : (IntKind.i64.wrap (1 * 2 ^ min x8_1.toNat 64)) = ji14 := hji14
                have hji14z : x8_1 ≤ 64 → (IntKind.i64.wrap (1 * 2 ^ x8_1.toNat)) = ji14 := shl_small hji14
                have hji14u : (IntKind.i64.wrap (2 ^ min x8_1.toNat 64)) = ji14 := by have h_ := hji14_; rw [Int.one_mul] at h_; exact h_
                have hji14v : x8_1 ≤ 64 → (IntKind.i64.wrap (2 ^ x8_1.toNat)) = ji14 := fun hle_ => by have h_ := hji14z hle_; rw [Int.one_mul] at h_; exact h_
                have hji14y : (wrap64 (1 * 2 ^ min x8_1.toNat 64)) = ji14 := (i64_w _).symm.trans hji14_
                have hji14x : x8_1 ≤ 64 → (wrap64 (1 * 2 ^ x8_1.toNat)) = ji14 := fun h_ => (i64_w _).symm.trans (hji14z h_)
                have H' := Aside0.mk H
                clear H
                go_wp2_with (first | ((with_reducible refine gate_callee (f := 66) rfl ?_); refine goesL_ (some 18) rfl rfl Try.func66 (by kernel_rfl) rfl #[.int .i64 a1, .int .i64 x8_1] rfl (by (try simp only [List.map_toArray, List.map_cons, List.map_nil]); first | done | rfl | (simp only [List.length_drop, List.length_take]; rfl)) ?_; (with_reducible refine (serinetteref01_digit.calls a1 x8_1 t220 _ A5.out).mono ?_); rintro e w' ⟨rfl, ⟨nd, rfl⟩⟩; refine ⟨_, rfl, ?_⟩) | ((with_reducible refine gate_callee (f := 66) rfl ?_); refine goesL_ (some 21) rfl rfl Try.func66 (by kernel_rfl) rfl #[.int .i64 a2, .int .i64 x8_1] rfl (by (try simp only [List.map_toArray, List.map_cons, List.map_nil]); first | done | rfl | (simp only [List.length_drop, List.length_take]; rfl)) ?_; (with_reducible refine (serinetteref01_digit.calls a2 x8_1 t221 _ A6.out).mono ?_); rintro e w' ⟨rfl, ⟨nd, rfl⟩⟩; refine ⟨_, rfl, ?_⟩))
                go_roundg k1
                case measure => have := HK1.out; omega
                case rel => exact ⟨(wrap64 (x7_1 + (wrap64 ((wrap64 ((wrap64 (t220 + t221)) - (wrap64 (t220 * t221)))) * (ji14))))), (wrap64 (x8_1 + 1)), (by first | rfl | (simp; done) | (simp only [← hji14] <;> (first | rfl | simp)) | (simp [*]; done)), (by first | rfl | (simp; done) | (simp [*]; done)), H', ⟨by have := HK1.out; omega⟩, by repeat (first | exact Drawn0.refl _ | apply Drawn0.step)⟩
              · rw [if_neg c13] at H
                exact absurd H (by simp)
          · rw [if_neg c11] at H
            have c11b0 : (a0.toList == ([111, 114] : List UInt8)) = false := beq_eq_false_iff_ne.mpr c11
            have c11b1 : (a0.toList != ([111, 114] : List UInt8)) = true := bne_iff_ne.mpr c11
            by_cases c15 : x8_1 = 32
            · rw [if_pos c15] at H
              have c15b0 : (x8_1 == 32) = true := beq_iff_eq.mpr c15
              have c15b1 : (x8_1 != 32) = false := bne_eq_false_iff_eq.mpr c15
              clear c15
              have H' := Aside0.mk H
              clear H
              go_wp2_with (first | ((with_reducible refine gate_callee (f := 66) rfl ?_); refine goesL_ (some 18) rfl rfl Try.func66 (by kernel_rfl) rfl #[.int .i64 a1, .int .i64 x8_1] rfl (by (try simp only [List.map_toArray, List.map_cons, List.map_nil]); first | done | rfl | (simp only [List.length_drop, List.length_take]; rfl)) ?_; (with_reducible refine (serinetteref01_digit.calls a1 x8_1 t220 _ A5.out).mono ?_); rintro e w' ⟨rfl, ⟨nd, rfl⟩⟩; refine ⟨_, rfl, ?_⟩) | ((with_reducible refine gate_callee (f := 66) rfl ?_); refine goesL_ (some 21) rfl rfl Try.func66 (by kernel_rfl) rfl #[.int .i64 a2, .int .i64 x8_1] rfl (by (try simp only [List.map_toArray, List.map_cons, List.map_nil]); first | done | rfl | (simp only [List.length_drop, List.length_take]; rfl)) ?_; (with_reducible refine (serinetteref01_digit.calls a2 x8_1 t221 _ A6.out).mono ?_); rintro e w' ⟨rfl, ⟨nd, rfl⟩⟩; refine ⟨_, rfl, ?_⟩))
              go_roundg k1
              case measure => have := HK1.out; omega
              case rel => exact ⟨(wrap64 (x7_1 - (wrap64 ((wrap64 ((wrap64 (t220 + t221)) - (wrap64 ((wrap64 (2 * t220)) * t221)))) * 4294967296)))), (wrap64 (x8_1 + 1)), (by first | rfl | (simp; done) | (simp [*]; done)), (by first | rfl | (simp; done) | (simp [*]; done)), H', ⟨by have := HK1.out; omega⟩, by repeat (first | exact Drawn0.refl _ | apply Drawn0.step)⟩
            · rw [if_neg c15] at H
              have c15b0 : (x8_1 == 32) = false := beq_eq_false_iff_ne.mpr c15
              have c15b1 : (x8_1 != 32) = true := bne_iff_ne.mpr c15
              by_cases c16 : 0 ≤ x8_1
              · rw [if_pos c16] at H
                have c16b0 := eq_true c16
                have c16b1 : decide (0 ≤ x8_1) = true := decide_eq_true c16
                clear c16
                obtain ⟨ji17, hji17⟩ : ∃ j_ : Int, (shl .i64 1 x8_1) = j_ := ⟨_, rfl⟩
                replace H : (serinetteref01_logic.l0 k1 a0 a1 a2 (wrap64 (x7_1 + (wrap64 ((wrap64 ((wrap64 (t220 + t221)) - (wrap64 ((wrap64 (2 * t220)) * t221)))) * (ji17))))) (wrap64 (x8_1 + 1))) = some r := by first | (rw [hji17] at H; exact H) | (simp only [hji17] at H ⊢; exact H)
                (try rw [hji17] at A5)
                (try rw [hji17] at A6)
                have hji17_ : (IntKind.i64.wrap (1 * 2 ^ min x8_1.toNat 64)) = ji17 := hji17
                have hji17z : x8_1 ≤ 64 → (IntKind.i64.wrap (1 * 2 ^ x8_1.toNat)) = ji17 := shl_small hji17
                have hji17u : (IntKind.i64.wrap (2 ^ min x8_1.toNat 64)) = ji17 := by have h_ := hji17_; rw [Int.one_mul] at h_; exact h_
                have hji17v : x8_1 ≤ 64 → (IntKind.i64.wrap (2 ^ x8_1.toNat)) = ji17 := fun hle_ => by have h_ := hji17z hle_; rw [Int.one_mul] at h_; exact h_
                have hji17y : (wrap64 (1 * 2 ^ min x8_1.toNat 64)) = ji17 := (i64_w _).symm.trans hji17_
                have hji17x : x8_1 ≤ 64 → (wrap64 (1 * 2 ^ x8_1.toNat)) = ji17 := fun h_ => (i64_w _).symm.trans (hji17z h_)
                have H' := Aside0.mk H
                clear H
                go_wp2_with (first | ((with_reducible refine gate_callee (f := 66) rfl ?_); refine goesL_ (some 18) rfl rfl Try.func66 (by kernel_rfl) rfl #[.int .i64 a1, .int .i64 x8_1] rfl (by (try simp only [List.map_toArray, List.map_cons, List.map_nil]); first | done | rfl | (simp only [List.length_drop, List.length_take]; rfl)) ?_; (with_reducible refine (serinetteref01_digit.calls a1 x8_1 t220 _ A5.out).mono ?_); rintro e w' ⟨rfl, ⟨nd, rfl⟩⟩; refine ⟨_, rfl, ?_⟩) | ((with_reducible refine gate_callee (f := 66) rfl ?_); refine goesL_ (some 21) rfl rfl Try.func66 (by kernel_rfl) rfl #[.int .i64 a2, .int .i64 x8_1] rfl (by (try simp only [List.map_toArray, List.map_cons, List.map_nil]); first | done | rfl | (simp only [List.length_drop, List.length_take]; rfl)) ?_; (with_reducible refine (serinetteref01_digit.calls a2 x8_1 t221 _ A6.out).mono ?_); rintro e w' ⟨rfl, ⟨nd, rfl⟩⟩; refine ⟨_, rfl, ?_⟩))
                go_roundg k1
                case measure => have := HK1.out; omega
                case rel => exact ⟨(wrap64 (x7_1 + (wrap64 ((wrap64 ((wrap64 (t220 + t221)) - (wrap64 ((wrap64 (2 * t220)) * t221)))) * (ji17))))), (wrap64 (x8_1 + 1)), (by first | rfl | (simp; done) | (simp only [← hji17] <;> (first | rfl | simp)) | (simp [*]; done)), (by first | rfl | (simp; done) | (simp [*]; done)), H', ⟨by have := HK1.out; omega⟩, by repeat (first | exact Drawn0.refl _ | apply Drawn0.step)⟩
              · rw [if_neg c16] at H
                exact absurd H (by simp)
      · rw [if_neg c4] at H
        have c4b0 : decide (x8_1 ≤ 32) = false := decide_eq_false c4
        clear c4
        obtain rfl := Option.some.inj H
        go_wp2
        go_ret
        exact ⟨by first | rfl | (simp; done) | (simp [*]; done), by repeat (first | exact Drawn0.refl _ | apply Drawn0.step)⟩

end Go.Proofs.Ytgecbfemlpmpeaa.PNumberTests
