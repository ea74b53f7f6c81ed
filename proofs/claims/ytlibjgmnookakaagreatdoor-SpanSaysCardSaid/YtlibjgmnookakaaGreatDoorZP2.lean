/- Parts of the proof of SpanSays, joined by program out of this session's own texts. -/
import Derived.Test.YtlibjgmnookakaaGreatDoorZP1
set_option linter.unusedVariables false
set_option linter.unusedSimpArgs false
namespace Go.Proofs.YtlibjgmnookakaaGreatDoor.SSpanSays
open Go.RowKit Go.Proofs.YtlibjgmnookakaaGreatDoor.Wd.PrintWords Go.Proofs.YtlibjgmnookakaaGreatDoor.Wd.PrintLast Go.Proofs.YtlibjgmnookakaaGreatDoor.Wd.PrintMore
attribute [local go_sem] max2_int min2_int max_two min_two max_three min_three max_four min_four
attribute [local go_sem] max2_int min2_int max_two min_two max_three min_three max_four min_four
attribute [local go_sem] max2_int min2_int max_two min_two max_three min_three max_four min_four
attribute [local go_sem high] eqA23
attribute [local go_sem high] eqA25
set_option maxHeartbeats 8000000 in
set_option maxRecDepth 100000 in
theorem serinetteref01_Max.calls (k : Nat) (a0_0 : Int) (a0_1 : Int) (a1_0 : Int) (a1_1 : Int) (r1 : Int) (r2 : Int) (w : World) (h : serinetteref01_Max.f k a0_0 a0_1 a1_0 a1_1 = some (r1, r2)) :
  Calls Tryz.prog 56 #[.agg #[.int .i64 a0_0, .int .i64 a0_1], .agg #[.int .i64 a1_0, .int .i64 a1_1]] w fun e w' => e = .returned (.agg #[.int .i64 r1, .int .i64 r2]) ∧ Below w.heap.size w w' := by
 have hu23 := Tryz.underlying23; have HB := Aside0.mk (Below.refl w.heap.size w); have H : ((serinetteref01_both.f k a0_0 a0_1 a1_0 a1_1).bind fun t354 => (if t354 = true then ((serinetteref01_Cmp.f k a0_0 a0_1 a1_0 a1_1).bind fun t355 => (if t355 ≥ 0 then (some (a0_0, a0_1)) else (some (a1_0, a1_1)))) else ((serinetteref01_None.f).bind fun bt356 => (some (bt356.1, bt356.2))))) = some (r1, r2) := h; clear h; replace H := Option.bind_eq_some_iff.mp H; obtain ⟨t354, A30, H⟩ := H; (try dsimp only at H); have A3 := Aside0.mk A30; clear A30; by_cases c4 : t354 = true
 ·
  subst c4; rw [if_pos rfl] at H; replace H := Option.bind_eq_some_iff.mp H; obtain ⟨t355, A50, H⟩ := H; (try dsimp only at H); have A5 := Aside0.mk A50; clear A50; by_cases c6 : t355 ≥ 0
  · rw [if_pos c6] at H; have c6b0 : decide (0 ≤ t355) = true := decide_eq_true c6; clear c6; simp only [Option.some.injEq, Prod.mk.injEq] at H; obtain ⟨rfl, rfl⟩ := H; go_enter Tryz.func56, Tryz.ntmps56; go_wp2_with (first | ((with_reducible refine gate_dst (N := 2) rfl ?_); refine bx_ 2 #[.int .i64 a0_0, .int .i64 a0_1] 23 ?_; intro gb351 hg w7 BK351 hb; have GE351 := hz_ hg HB; replace HB := hs HB hb; clear hb hg) | ((with_reducible refine gate_dst (N := 3) rfl ?_); refine bx_ 3 #[.int .i64 a1_0, .int .i64 a1_1] 23 ?_; intro gb352 hg w8 BK352 hb; have GE352 := ge_ w hg; have NB351_352 := nlk hg BK351; have NB352_351 := ngk hg BK351; replace BK351 := kb BK351 hb; replace HB := hb_ w hb; clear hb hg) | ((with_reducible refine gate_dst (N := 4) rfl ?_); refine bx_ 4 #[.int .i64 0, .int .i64 0] 23 ?_; intro gb353 hg w9 BK353 hb; have GE353 := ge_ w hg; have NB351_353 := nlk hg BK351; have NB353_351 := ngk hg BK351; have NB352_353 := nlk hg BK352; have NB353_352 := ngk hg BK352; replace BK351 := kb BK351 hb; replace BK352 := kb BK352 hb; replace HB := hb_ w hb; clear hb hg; have hnb10 := NB351_352.out; have hnc10 := NB352_351.out; have hnb11 := NB351_353.out; have hnc11 := NB353_351.out; obtain ⟨hcz12_0, hcz12_1⟩ := bc2 BK351.out; obtain ⟨hfz12_0, hfz12_1⟩ := bf2 BK351.out; have hnb13 := NB352_353.out; have hnc13 := NB353_352.out; obtain ⟨hcz14_0, hcz14_1⟩ := bc2 BK352.out; obtain ⟨hfz14_0, hfz14_1⟩ := bf2 BK352.out) | ((with_reducible refine gate_callee (f := 67) rfl ?_); refine goesL_ (some 7) rfl rfl Tryz.func67 (by kernel_rfl) rfl #[.agg #[.int .i64 a0_0, .int .i64 a0_1], .agg #[.int .i64 a1_0, .int .i64 a1_1]] rfl (by (try simp only [mp]); first | done | rfl | (simp only [ld]; rfl)) ?_; (with_reducible refine (serinetteref01_both.calls k a0_0 a0_1 a1_0 a1_1 true _ A3.out).mono ?_); rintro e w15 ⟨rfl, hb⟩; refine ⟨_, rfl, ?_⟩; replace BK351 := kb BK351 hb; replace BK352 := kb BK352 hb; replace BK353 := kb BK353 hb; replace HB := hb_ w hb; obtain ⟨hcz16_0, hcz16_1⟩ := bc2 BK351.out; obtain ⟨hfz16_0, hfz16_1⟩ := bf2 BK351.out; obtain ⟨hcz17_0, hcz17_1⟩ := bc2 BK352.out; obtain ⟨hfz17_0, hfz17_1⟩ := bf2 BK352.out) | ((with_reducible refine gate_callee (f := 29) rfl ?_); refine goesL_ (some 12) rfl rfl Tryz.func29 (by kernel_rfl) rfl #[.agg #[.int .i64 a0_0, .int .i64 a0_1], .agg #[.int .i64 a1_0, .int .i64 a1_1]] rfl (by (try simp only [mp]); first | done | rfl | (simp only [ld]; rfl)) ?_; (with_reducible refine (serinetteref01_Cmp.calls k a0_0 a0_1 a1_0 a1_1 t355 _ A5.out).mono ?_); rintro e w18 ⟨rfl, hb⟩; refine ⟨_, rfl, ?_⟩; replace BK351 := kb BK351 hb; replace BK352 := kb BK352 hb; replace BK353 := kb BK353 hb; replace HB := hb_ w hb; obtain ⟨hcz19_0, hcz19_1⟩ := bc2 BK351.out; obtain ⟨hfz19_0, hfz19_1⟩ := bf2 BK351.out; obtain ⟨hcz20_0, hcz20_1⟩ := bc2 BK353.out; obtain ⟨hfz20_0, hfz20_1⟩ := bf2 BK353.out)); refine bodyPost_ret (results_cell_row rfl _ _ gb353 23 #[.int .i64 a0_0, .int .i64 a0_1] (0, 0) _ rfl (by exact rq BK353.out (by rfl)) Tryz.underlying23 rfl (by kernel_rfl)) rfl ?_; exact en_
  · rw [if_neg c6] at H; have c6b0 : decide (0 ≤ t355) = false := decide_eq_false c6; clear c6; simp only [Option.some.injEq, Prod.mk.injEq] at H; obtain ⟨rfl, rfl⟩ := H; go_enter Tryz.func56, Tryz.ntmps56; go_wp2_with (first | ((with_reducible refine gate_dst (N := 2) rfl ?_); refine bx_ 2 #[.int .i64 a0_0, .int .i64 a0_1] 23 ?_; intro gb351 hg w21 BK351 hb; have GE351 := hz_ hg HB; replace HB := hs HB hb; clear hb hg) | ((with_reducible refine gate_dst (N := 3) rfl ?_); refine bx_ 3 #[.int .i64 a1_0, .int .i64 a1_1] 23 ?_; intro gb352 hg w22 BK352 hb; have GE352 := ge_ w hg; have NB351_352 := nlk hg BK351; have NB352_351 := ngk hg BK351; replace BK351 := kb BK351 hb; replace HB := hb_ w hb; clear hb hg) | ((with_reducible refine gate_dst (N := 4) rfl ?_); refine bx_ 4 #[.int .i64 0, .int .i64 0] 23 ?_; intro gb353 hg w23 BK353 hb; have GE353 := ge_ w hg; have NB351_353 := nlk hg BK351; have NB353_351 := ngk hg BK351; have NB352_353 := nlk hg BK352; have NB353_352 := ngk hg BK352; replace BK351 := kb BK351 hb; replace BK352 := kb BK352 hb; replace HB := hb_ w hb; clear hb hg; have hnb24 := NB351_352.out; have hnc24 := NB352_351.out; have hnb25 := NB351_353.out; have hnc25 := NB353_351.out; obtain ⟨hcz26_0, hcz26_1⟩ := bc2 BK351.out; obtain ⟨hfz26_0, hfz26_1⟩ := bf2 BK351.out; have hnb27 := NB352_353.out; have hnc27 := NB353_352.out; obtain ⟨hcz28_0, hcz28_1⟩ := bc2 BK352.out; obtain ⟨hfz28_0, hfz28_1⟩ := bf2 BK352.out) | ((with_reducible refine gate_callee (f := 67) rfl ?_); refine goesL_ (some 7) rfl rfl Tryz.func67 (by kernel_rfl) rfl #[.agg #[.int .i64 a0_0, .int .i64 a0_1], .agg #[.int .i64 a1_0, .int .i64 a1_1]] rfl (by (try simp only [mp]); first | done | rfl | (simp only [ld]; rfl)) ?_; (with_reducible refine (serinetteref01_both.calls k a0_0 a0_1 a1_0 a1_1 true _ A3.out).mono ?_); rintro e w29 ⟨rfl, hb⟩; refine ⟨_, rfl, ?_⟩; replace BK351 := kb BK351 hb; replace BK352 := kb BK352 hb; replace BK353 := kb BK353 hb; replace HB := hb_ w hb; obtain ⟨hcz30_0, hcz30_1⟩ := bc2 BK351.out; obtain ⟨hfz30_0, hfz30_1⟩ := bf2 BK351.out; obtain ⟨hcz31_0, hcz31_1⟩ := bc2 BK352.out; obtain ⟨hfz31_0, hfz31_1⟩ := bf2 BK352.out) | ((with_reducible refine gate_callee (f := 29) rfl ?_); refine goesL_ (some 12) rfl rfl Tryz.func29 (by kernel_rfl) rfl #[.agg #[.int .i64 a0_0, .int .i64 a0_1], .agg #[.int .i64 a1_0, .int .i64 a1_1]] rfl (by (try simp only [mp]); first | done | rfl | (simp only [ld]; rfl)) ?_; (with_reducible refine (serinetteref01_Cmp.calls k a0_0 a0_1 a1_0 a1_1 t355 _ A5.out).mono ?_); rintro e w32 ⟨rfl, hb⟩; refine ⟨_, rfl, ?_⟩; replace BK351 := kb BK351 hb; replace BK352 := kb BK352 hb; replace BK353 := kb BK353 hb; replace HB := hb_ w hb; obtain ⟨hcz33_0, hcz33_1⟩ := bc2 BK352.out; obtain ⟨hfz33_0, hfz33_1⟩ := bf2 BK352.out; obtain ⟨hcz34_0, hcz34_1⟩ := bc2 BK353.out; obtain ⟨hfz34_0, hfz34_1⟩ := bf2 BK353.out)); refine bodyPost_ret (results_cell_row rfl _ _ gb353 23 #[.int .i64 a1_0, .int .i64 a1_1] (0, 0) _ rfl (by exact rq BK353.out (by rfl)) Tryz.underlying23 rfl (by kernel_rfl)) rfl ?_; exact en_
 · replace c4 := Bool.eq_false_iff.mpr c4; subst c4; rw [if_neg (show ¬ (false = true) by decide)] at H; replace H := Option.bind_eq_some_iff.mp H; obtain ⟨⟨t356, t357⟩, A350, H⟩ := H; (try dsimp only at H); have A35 := Aside0.mk A350; clear A350; simp only [Option.some.injEq, Prod.mk.injEq] at H; obtain ⟨rfl, rfl⟩ := H; go_enter Tryz.func56, Tryz.ntmps56; go_wp2_with (first | ((with_reducible refine gate_dst (N := 2) rfl ?_); refine bx_ 2 #[.int .i64 a0_0, .int .i64 a0_1] 23 ?_; intro gb351 hg w36 BK351 hb; have GE351 := hz_ hg HB; replace HB := hs HB hb; clear hb hg) | ((with_reducible refine gate_dst (N := 3) rfl ?_); refine bx_ 3 #[.int .i64 a1_0, .int .i64 a1_1] 23 ?_; intro gb352 hg w37 BK352 hb; have GE352 := ge_ w hg; have NB351_352 := nlk hg BK351; have NB352_351 := ngk hg BK351; replace BK351 := kb BK351 hb; replace HB := hb_ w hb; clear hb hg) | ((with_reducible refine gate_dst (N := 4) rfl ?_); refine bx_ 4 #[.int .i64 0, .int .i64 0] 23 ?_; intro gb353 hg w38 BK353 hb; have GE353 := ge_ w hg; have NB351_353 := nlk hg BK351; have NB353_351 := ngk hg BK351; have NB352_353 := nlk hg BK352; have NB353_352 := ngk hg BK352; replace BK351 := kb BK351 hb; replace BK352 := kb BK352 hb; replace HB := hb_ w hb; clear hb hg; have hnb39 := NB351_352.out; have hnc39 := NB352_351.out; have hnb40 := NB351_353.out; have hnc40 := NB353_351.out; obtain ⟨hcz41_0, hcz41_1⟩ := bc2 BK351.out; obtain ⟨hfz41_0, hfz41_1⟩ := bf2 BK351.out; have hnb42 := NB352_353.out; have hnc42 := NB353_352.out; obtain ⟨hcz43_0, hcz43_1⟩ := bc2 BK352.out; obtain ⟨hfz43_0, hfz43_1⟩ := bf2 BK352.out) | ((with_reducible refine gate_callee (f := 67) rfl ?_); refine goesL_ (some 7) rfl rfl Tryz.func67 (by kernel_rfl) rfl #[.agg #[.int .i64 a0_0, .int .i64 a0_1], .agg #[.int .i64 a1_0, .int .i64 a1_1]] rfl (by (try simp only [mp]); first | done | rfl | (simp only [ld]; rfl)) ?_; (with_reducible refine (serinetteref01_both.calls k a0_0 a0_1 a1_0 a1_1 false _ A3.out).mono ?_); rintro e w44 ⟨rfl, hb⟩; refine ⟨_, rfl, ?_⟩; replace BK351 := kb BK351 hb; replace BK352 := kb BK352 hb; replace BK353 := kb BK353 hb; replace HB := hb_ w hb; ) | ((with_reducible refine gate_callee (f := 26) rfl ?_); refine goesL_ (some 9) rfl rfl Tryz.func26 (by kernel_rfl) rfl #[] rfl (by (try simp only [mp]); first | done | rfl | (simp only [ld]; rfl)) ?_; (with_reducible refine (serinetteref01_None.calls  t356 t357 _ A35.out).mono ?_); rintro e w45 ⟨rfl, hb⟩; refine ⟨_, rfl, ?_⟩; replace BK351 := kb BK351 hb; replace BK352 := kb BK352 hb; replace BK353 := kb BK353 hb; replace HB := hb_ w hb; obtain ⟨hcz46_0, hcz46_1⟩ := bc2 BK353.out; obtain ⟨hfz46_0, hfz46_1⟩ := bf2 BK353.out)); refine bodyPost_ret (results_cell_row rfl _ _ gb353 23 #[.int .i64 t356, .int .i64 t357] (0, 0) _ rfl (by exact rq BK353.out (by rfl)) Tryz.underlying23 rfl (by kernel_rfl)) rfl ?_; exact en_
def serinetteref03_upper.f (k : Nat) (a0_0 : Int) (a0_1 : Int) (a1_0 : Int) (a1_1 : Int) : Option (Int × Int) := (serinetteref01_Max.f k a0_0 a0_1 a1_0 a1_1).bind fun bt361 => (some (bt361.1, bt361.2))
theorem serinetteref03_upper.mono : ∀ a0 a1 a2 a3 k, LeO (serinetteref03_upper.f k a0 a1 a2 a3) (serinetteref03_upper.f (k + 1) a0 a1 a2 a3) := by
 intro a0 a1 a2 a3 k
 unfold serinetteref03_upper.f
 repeat' first
   | (with_reducible exact serinetteref01_Max.mono _ _ _ _ _)
   | (with_reducible exact LeO.refl _)
   | (with_reducible exact LeO.none _)
   | (with_reducible refine LeO.ite ?_ ?_)
   | (with_reducible refine LeO.bind ?_ (fun _ => ?_))
   | exact serinetteref01_Max.mono _ _ _ _ _
   | exact LeO.none _
   | refine LeO.ite ?_ ?_
   | refine LeO.bind ?_ (fun _ => ?_)
set_option maxHeartbeats 8000000 in
set_option maxRecDepth 100000 in
theorem serinetteref03_upper.calls (k : Nat) (a0_0 : Int) (a0_1 : Int) (a1_0 : Int) (a1_1 : Int) (r1 : Int) (r2 : Int) (w : World) (h : serinetteref03_upper.f k a0_0 a0_1 a1_0 a1_1 = some (r1, r2)) :
  Calls Tryz.prog 39 #[.agg #[.int .i64 a0_0, .int .i64 a0_1], .agg #[.int .i64 a1_0, .int .i64 a1_1]] w fun e w' => e = .returned (.agg #[.int .i64 r1, .int .i64 r2]) ∧ Below w.heap.size w w' := by
 have hu23 := Tryz.underlying23; have HB := Aside0.mk (Below.refl w.heap.size w); have H : ((serinetteref01_Max.f k a0_0 a0_1 a1_0 a1_1).bind fun bt361 => (some (bt361.1, bt361.2))) = some (r1, r2) := h; clear h; replace H := Option.bind_eq_some_iff.mp H; obtain ⟨⟨t361, t362⟩, A30, H⟩ := H; (try dsimp only at H); have A3 := Aside0.mk A30; clear A30; simp only [Option.some.injEq, Prod.mk.injEq] at H; obtain ⟨rfl, rfl⟩ := H; go_enter Tryz.func39, Tryz.ntmps39; go_wp2_with (first | ((with_reducible refine gate_dst (N := 2) rfl ?_); refine bx_ 2 #[.int .i64 a0_0, .int .i64 a0_1] 23 ?_; intro gb358 hg w4 BK358 hb; have GE358 := hz_ hg HB; replace HB := hs HB hb; clear hb hg) | ((with_reducible refine gate_dst (N := 3) rfl ?_); refine bx_ 3 #[.int .i64 a1_0, .int .i64 a1_1] 23 ?_; intro gb359 hg w5 BK359 hb; have GE359 := ge_ w hg; have NB358_359 := nlk hg BK358; have NB359_358 := ngk hg BK358; replace BK358 := kb BK358 hb; replace HB := hb_ w hb; clear hb hg) | ((with_reducible refine gate_dst (N := 4) rfl ?_); refine bx_ 4 #[.int .i64 0, .int .i64 0] 23 ?_; intro gb360 hg w6 BK360 hb; have GE360 := ge_ w hg; have NB358_360 := nlk hg BK358; have NB360_358 := ngk hg BK358; have NB359_360 := nlk hg BK359; have NB360_359 := ngk hg BK359; replace BK358 := kb BK358 hb; replace BK359 := kb BK359 hb; replace HB := hb_ w hb; clear hb hg; have hnb7 := NB358_359.out; have hnc7 := NB359_358.out; have hnb8 := NB358_360.out; have hnc8 := NB360_358.out; obtain ⟨hcz9_0, hcz9_1⟩ := bc2 BK358.out; obtain ⟨hfz9_0, hfz9_1⟩ := bf2 BK358.out; have hnb10 := NB359_360.out; have hnc10 := NB360_359.out; obtain ⟨hcz11_0, hcz11_1⟩ := bc2 BK359.out; obtain ⟨hfz11_0, hfz11_1⟩ := bf2 BK359.out) | ((with_reducible refine gate_callee (f := 56) rfl ?_); refine goesL_ (some 7) rfl rfl Tryz.func56 (by kernel_rfl) rfl #[.agg #[.int .i64 a0_0, .int .i64 a0_1], .agg #[.int .i64 a1_0, .int .i64 a1_1]] rfl (by (try simp only [mp]); first | done | rfl | (simp only [ld]; rfl)) ?_; (with_reducible refine (serinetteref01_Max.calls k a0_0 a0_1 a1_0 a1_1 t361 t362 _ A3.out).mono ?_); rintro e w12 ⟨rfl, hb⟩; refine ⟨_, rfl, ?_⟩; replace BK358 := kb BK358 hb; replace BK359 := kb BK359 hb; replace BK360 := kb BK360 hb; replace HB := hb_ w hb; obtain ⟨hcz13_0, hcz13_1⟩ := bc2 BK360.out; obtain ⟨hfz13_0, hfz13_1⟩ := bf2 BK360.out)); refine bodyPost_ret (results_cell_row rfl _ _ gb360 23 #[.int .i64 t361, .int .i64 t362] (0, 0) _ rfl (by exact rq BK360.out (by rfl)) Tryz.underlying23 rfl (by kernel_rfl)) rfl ?_; exact en_
def serinetteref03_Common.j0 : Nat → Int → Int → Bool → Option (Int)
 | 0, _, _, _ => none
 | k + 1, x0, x1, x11 => if x11 = true then (some 0) else ((serinetteref01_Divisor.f k x0 x1).bind fun t363 => (if t363 = 0 then (none) else (if (wrap64 ((wrap64 (Int.tdiv x0 t363)) * x1)) > 1073741824 then (some 0) else (some (wrap64 ((wrap64 (Int.tdiv x0 t363)) * x1))))))
def serinetteref03_Common.f (k : Nat) (a0 : Int) (a1 : Int) : Option (Int) := if a0 = 0 then (serinetteref03_Common.j0 k a0 a1 true) else (serinetteref03_Common.j0 k a0 a1 (a1 == 0))
theorem serinetteref03_Common.mono_l : ∀ k, (∀ y0 y1 y2, LeO (serinetteref03_Common.j0 k y0 y1 y2) (serinetteref03_Common.j0 (k + 1) y0 y1 y2))
 | 0 => fun _ _ _ r h => by simp [serinetteref03_Common.j0] at h
 | k + 1 => by
  have ih0 := serinetteref03_Common.mono_l k
  ·
   intro y0 y1 y2
   unfold serinetteref03_Common.j0
   repeat' first
   | (with_reducible exact ih0 _ _ _)
   | (with_reducible exact serinetteref01_Divisor.mono _ _ _)
   | (with_reducible exact LeO.refl _)
   | (with_reducible exact LeO.none _)
   | (with_reducible refine LeO.ite ?_ ?_)
   | (with_reducible refine LeO.bind ?_ (fun _ => ?_))
   | exact ih0 _ _ _
   | exact serinetteref01_Divisor.mono _ _ _
   | exact LeO.none _
   | refine LeO.ite ?_ ?_
   | refine LeO.bind ?_ (fun _ => ?_)
theorem serinetteref03_Common.mono : ∀ a0 a1 k, LeO (serinetteref03_Common.f k a0 a1) (serinetteref03_Common.f (k + 1) a0 a1) := by
 intro a0 a1 k
 have ih0 := serinetteref03_Common.mono_l k
 unfold serinetteref03_Common.f
 repeat' first
   | (with_reducible exact ih0 _ _ _)
   | (with_reducible exact serinetteref01_Divisor.mono _ _ _)
   | (with_reducible exact LeO.refl _)
   | (with_reducible exact LeO.none _)
   | (with_reducible refine LeO.ite ?_ ?_)
   | (with_reducible refine LeO.bind ?_ (fun _ => ?_))
   | exact ih0 _ _ _
   | exact serinetteref01_Divisor.mono _ _ _
   | exact LeO.none _
   | refine LeO.ite ?_ ?_
   | refine LeO.bind ?_ (fun _ => ?_)
set_option maxHeartbeats 8000000 in
set_option maxRecDepth 100000 in
theorem serinetteref03_Common.calls (k : Nat) (a0 : Int) (a1 : Int) (r : Int) (w : World) (h : serinetteref03_Common.f k a0 a1 = some r) :
  Calls Tryz.prog 40 #[.int .i64 a0, .int .i64 a1] w fun e w' => e = .returned (.int .i64 r) ∧ Drawn0 w w' := by
 have H : (if a0 = 0 then (serinetteref03_Common.j0 k a0 a1 true) else (serinetteref03_Common.j0 k a0 a1 (a1 == 0))) = some r := h; clear h; have HC3 := Aside0.mk H; clear H; go_enter Tryz.func40, Tryz.ntmps40; go_upto_region 1 with (fail)
 go_cut [11] (fun v11 wc => ∃ (kq : Nat) (x11_2 : Bool), v11 = .bool x11_2 ∧ Aside0 (serinetteref03_Common.j0 kq a0 a1 x11_2 = some r) ∧ Aside0 (kq ≤ k) ∧ Drawn0 w wc)
 case first =>
  have H := HC3.out; clear HC3; by_cases c4 : a0 = 0
  ·
   rw [if_pos c4] at H; have c4b0 : (a0 == 0) = true := beq_iff_eq.mpr c4; have c4b1 : (a0 != 0) = false := bne_eq_false_iff_eq.mpr c4; clear c4; (first | rw [c4b0] | (simp only [i64_w, i32_w]; rw [c4b0]) | skip); have H' := Aside0.mk H; clear H; go_wp2; go_meet
   case rel => exact ⟨_, (true), (by first | rfl | (simp; done) | (simp [*]; done)), H', ⟨by first | omega | exact Nat.le_refl _⟩, by repeat (first | exact Drawn0.refl _ | apply Drawn0.step)⟩
  ·
   rw [if_neg c4] at H; have c4b0 : (a0 == 0) = false := beq_eq_false_iff_ne.mpr c4; have c4b1 : (a0 != 0) = true := bne_iff_ne.mpr c4; (first | rw [c4b0] | (simp only [i64_w, i32_w]; rw [c4b0]) | skip); have H' := Aside0.mk H; clear H; go_wp2; go_meet
   case rel => exact ⟨_, ((a1 == 0)), (by first | rfl | (simp; done) | (simp [*]; done)), H', ⟨by first | omega | exact Nat.le_refl _⟩, by repeat (first | exact Drawn0.refl _ | apply Drawn0.step)⟩
 case rest =>
  clear HC3; obtain ⟨kq, x11_2, rfl, HA, HJ2, ⟨mc2, rfl⟩⟩ := hcut; cases kq with
  | zero => exact absurd HA.out (by simp [serinetteref03_Common.j0])
  | succ kj2 =>
   have H := HA.out; clear HA; simp only [serinetteref03_Common.j0] at H; by_cases c5 : x11_2 = true
   · subst c5; rw [if_pos rfl] at H; obtain rfl := Option.some.inj H; go_wp2; go_ret; exact ⟨by first | rfl | (simp; done) | (simp [*]; done), by repeat (first | exact Drawn0.refl _ | apply Drawn0.step)⟩
   ·
    replace c5 := Bool.eq_false_iff.mpr c5; subst c5; rw [if_neg (show ¬ (false = true) by decide)] at H; replace H := Option.bind_eq_some_iff.mp H; obtain ⟨t363, A60, H⟩ := H; (try dsimp only at H); have A6 := Aside0.mk A60; clear A60; by_cases c7 : t363 = 0
    · rw [if_pos c7] at H; exact absurd H (by simp)
    ·
     rw [if_neg c7] at H; have c7b0 : (t363 == 0) = false := beq_eq_false_iff_ne.mpr c7; have c7b1 : (t363 != 0) = true := bne_iff_ne.mpr c7; by_cases c8 : (wrap64 ((wrap64 (Int.tdiv a0 t363)) * a1)) > 1073741824
     · rw [if_pos c8] at H; have c8b0 : decide (1073741824 < (wrap64 ((wrap64 (Int.tdiv a0 t363)) * a1))) = true := decide_eq_true c8; clear c8; obtain rfl := Option.some.inj H; go_wp2_with (first | ((with_reducible refine gate_callee (f := 44) rfl ?_); refine goesL_ (some 15) rfl rfl Tryz.func44 (by kernel_rfl) rfl #[.int .i64 a0, .int .i64 a1] rfl (by (try simp only [mp]); first | done | rfl | (simp only [ld]; rfl)) ?_; (with_reducible refine (serinetteref01_Divisor.calls kj2 a0 a1 t363 _ A6.out).mono ?_); rintro e w' ⟨rfl, ⟨nd, rfl⟩⟩; refine ⟨_, rfl, ?_⟩)); go_ret; exact ⟨by first | rfl | (simp; done) | (simp [*]; done), by repeat (first | exact Drawn0.refl _ | apply Drawn0.step)⟩
     · rw [if_neg c8] at H; have c8b0 : decide (1073741824 < (wrap64 ((wrap64 (Int.tdiv a0 t363)) * a1))) = false := decide_eq_false c8; clear c8; obtain rfl := Option.some.inj H; go_wp2_with (first | ((with_reducible refine gate_callee (f := 44) rfl ?_); refine goesL_ (some 15) rfl rfl Tryz.func44 (by kernel_rfl) rfl #[.int .i64 a0, .int .i64 a1] rfl (by (try simp only [mp]); first | done | rfl | (simp only [ld]; rfl)) ?_; (with_reducible refine (serinetteref01_Divisor.calls kj2 a0 a1 t363 _ A6.out).mono ?_); rintro e w' ⟨rfl, ⟨nd, rfl⟩⟩; refine ⟨_, rfl, ?_⟩)); go_ret; exact ⟨by first | rfl | (simp; done) | (simp [*]; done), by repeat (first | exact Drawn0.refl _ | apply Drawn0.step)⟩
def serinetteref03_Join.j0 : Nat → Bool → Int → Int → Int → Int → Int → Bool → Bool → Int → Int → Int → Int → Int → Bool → Bool → Option (Int × Int × Int × Int × Int × Bool × Bool)
 | 0, _, _, _, _, _, _, _, _, _, _, _, _, _, _, _ => none
 | k + 1, x5, x365000, x365001, x365002, x365003, x365004, x365005, x365006, x366000, x366001, x366002, x366003, x366004, x366005, x366006 => if x365006 = true then (some (x366000, x366001, x366002, x366003, x366004, x5, x366006)) else (if x366006 = true then (some (x365000, x365001, x365002, x365003, x365004, x5, x365006)) else ((serinetteref03_lower.f k x365000 x365001 x366000 x366001).bind fun bt381 => ((serinetteref03_upper.f k x365002 x365003 x366002 x366003).bind fun bt383 => ((serinetteref03_Common.f k x365004 x366004).bind fun t385 => (some (bt381.1, bt381.2, bt383.1, bt383.2, t385, x5, false))))))
def serinetteref03_Join.f (k : Nat) (a0_0 : Int) (a0_1 : Int) (a0_2 : Int) (a0_3 : Int) (a0_4 : Int) (a0_5 : Bool) (a0_6 : Bool) (a1_0 : Int) (a1_1 : Int) (a1_2 : Int) (a1_3 : Int) (a1_4 : Int) (a1_5 : Bool) (a1_6 : Bool) : Option (Int × Int × Int × Int × Int × Bool × Bool) := (serinetteref03_Clean.f k a0_0 a0_1 a0_2 a0_3 a0_4 a0_5 a0_6).bind fun bt367 => ((serinetteref03_Clean.f k a1_0 a1_1 a1_2 a1_3 a1_4 a1_5 a1_6).bind fun bt374 => (if bt367.2.2.2.2.2.1 = true then (serinetteref03_Join.j0 k true bt367.1 bt367.2.1 bt367.2.2.1 bt367.2.2.2.1 bt367.2.2.2.2.1 bt367.2.2.2.2.2.1 bt367.2.2.2.2.2.2 bt374.1 bt374.2.1 bt374.2.2.1 bt374.2.2.2.1 bt374.2.2.2.2.1 bt374.2.2.2.2.2.1 bt374.2.2.2.2.2.2) else (serinetteref03_Join.j0 k bt374.2.2.2.2.2.1 bt367.1 bt367.2.1 bt367.2.2.1 bt367.2.2.2.1 bt367.2.2.2.2.1 bt367.2.2.2.2.2.1 bt367.2.2.2.2.2.2 bt374.1 bt374.2.1 bt374.2.2.1 bt374.2.2.2.1 bt374.2.2.2.2.1 bt374.2.2.2.2.2.1 bt374.2.2.2.2.2.2)))
theorem serinetteref03_Join.mono_l : ∀ k, (∀ y0 y1 y2 y3 y4 y5 y6 y7 y8 y9 y10 y11 y12 y13 y14, LeO (serinetteref03_Join.j0 k y0 y1 y2 y3 y4 y5 y6 y7 y8 y9 y10 y11 y12 y13 y14) (serinetteref03_Join.j0 (k + 1) y0 y1 y2 y3 y4 y5 y6 y7 y8 y9 y10 y11 y12 y13 y14))
 | 0 => fun _ _ _ _ _ _ _ _ _ _ _ _ _ _ _ r h => by simp [serinetteref03_Join.j0] at h
 | k + 1 => by
  have ih0 := serinetteref03_Join.mono_l k
  ·
   intro y0 y1 y2 y3 y4 y5 y6 y7 y8 y9 y10 y11 y12 y13 y14
   unfold serinetteref03_Join.j0
   repeat' first
   | (with_reducible exact ih0 _ _ _ _ _ _ _ _ _ _ _ _ _ _ _)
   | (with_reducible exact serinetteref03_Clean.mono _ _ _ _ _ _ _ _)
   | (with_reducible exact serinetteref03_Common.mono _ _ _)
   | (with_reducible exact serinetteref03_lower.mono _ _ _ _ _)
   | (with_reducible exact serinetteref03_upper.mono _ _ _ _ _)
   | (with_reducible exact LeO.refl _)
   | (with_reducible exact LeO.none _)
   | (with_reducible refine LeO.ite ?_ ?_)
   | (with_reducible refine LeO.bind ?_ (fun _ => ?_))
   | exact ih0 _ _ _ _ _ _ _ _ _ _ _ _ _ _ _
   | exact serinetteref03_Clean.mono _ _ _ _ _ _ _ _
   | exact serinetteref03_Common.mono _ _ _
   | exact serinetteref03_lower.mono _ _ _ _ _
   | exact serinetteref03_upper.mono _ _ _ _ _
   | exact LeO.none _
   | refine LeO.ite ?_ ?_
   | refine LeO.bind ?_ (fun _ => ?_)
theorem serinetteref03_Join.mono : ∀ a0 a1 a2 a3 a4 a5 a6 a7 a8 a9 a10 a11 a12 a13 k, LeO (serinetteref03_Join.f k a0 a1 a2 a3 a4 a5 a6 a7 a8 a9 a10 a11 a12 a13) (serinetteref03_Join.f (k + 1) a0 a1 a2 a3 a4 a5 a6 a7 a8 a9 a10 a11 a12 a13) := by
 intro a0 a1 a2 a3 a4 a5 a6 a7 a8 a9 a10 a11 a12 a13 k
 have ih0 := serinetteref03_Join.mono_l k
 unfold serinetteref03_Join.f
 repeat' first
   | (with_reducible exact ih0 _ _ _ _ _ _ _ _ _ _ _ _ _ _ _)
   | (with_reducible exact serinetteref03_Clean.mono _ _ _ _ _ _ _ _)
   | (with_reducible exact serinetteref03_Common.mono _ _ _)
   | (with_reducible exact serinetteref03_lower.mono _ _ _ _ _)
   | (with_reducible exact serinetteref03_upper.mono _ _ _ _ _)
   | (with_reducible exact LeO.refl _)
   | (with_reducible exact LeO.none _)
   | (with_reducible refine LeO.ite ?_ ?_)
   | (with_reducible refine LeO.bind ?_ (fun _ => ?_))
   | exact ih0 _ _ _ _ _ _ _ _ _ _ _ _ _ _ _
   | exact serinetteref03_Clean.mono _ _ _ _ _ _ _ _
   | exact serinetteref03_Common.mono _ _ _
   | exact serinetteref03_lower.mono _ _ _ _ _
   | exact serinetteref03_upper.mono _ _ _ _ _
   | exact LeO.none _
   | refine LeO.ite ?_ ?_
   | refine LeO.bind ?_ (fun _ => ?_)
def serinetteref03_Join.T10 : Bool × List (List Nat × List Nat) := (true, [([], []), ([0], [0]), ([], []), ([2], [2]), ([1, 3], [1, 3]), ([], []), ([5], [5]), ([], []), ([7], [7]), ([6, 8, 4], [6, 8]), ([], []), ([10], [10]), ([], []), ([12], [12]), ([11, 13, 9], [11, 13]), ([], []), ([4, 9, 14, 15], [4, 9, 14, 15]), ([16, 14, 0, 1, 2, 3, 4, 5, 6, 7, 8, 9, 10, 11, 12, 13, 14, 15, 16], [16])])
def serinetteref03_Join.B10 : List Nat := [0, 1, 0, 4, 15, 0, 32, 0, 128, 511, 0, 1024, 0, 4096, 16383, 0, 65535, 131071]
theorem serinetteref03_Join.tab10 : rtab .any (opsOf Tryz.f13 10) = serinetteref03_Join.T10 := by kernel_rfl
theorem serinetteref03_Join.bits10 : waitsOk serinetteref03_Join.T10.2 serinetteref03_Join.B10 = true := by kernel_rfl
set_option maxHeartbeats 8000000 in
set_option maxRecDepth 100000 in
theorem serinetteref03_Join.calls (k : Nat) (a0_0 : Int) (a0_1 : Int) (a0_2 : Int) (a0_3 : Int) (a0_4 : Int) (a0_5 : Bool) (a0_6 : Bool) (a1_0 : Int) (a1_1 : Int) (a1_2 : Int) (a1_3 : Int) (a1_4 : Int) (a1_5 : Bool) (a1_6 : Bool) (r1 : Int) (r2 : Int) (r3 : Int) (r4 : Int) (r5 : Int) (r6 : Bool) (r7 : Bool) (w : World) (h : serinetteref03_Join.f k a0_0 a0_1 a0_2 a0_3 a0_4 a0_5 a0_6 a1_0 a1_1 a1_2 a1_3 a1_4 a1_5 a1_6 = some (r1, r2, r3, r4, r5, r6, r7)) :
  Calls Tryz.prog 13 #[.agg #[.int .i64 a0_0, .int .i64 a0_1, .int .i64 a0_2, .int .i64 a0_3, .int .i64 a0_4, .bool a0_5, .bool a0_6], .agg #[.int .i64 a1_0, .int .i64 a1_1, .int .i64 a1_2, .int .i64 a1_3, .int .i64 a1_4, .bool a1_5, .bool a1_6]] w fun e w' => e = .returned (.agg #[.int .i64 r1, .int .i64 r2, .int .i64 r3, .int .i64 r4, .int .i64 r5, .bool r6, .bool r7]) ∧ Below w.heap.size w w' := by
 have hu25 := Tryz.underlying25; have hu23 := Tryz.underlying23; have HB := Aside0.mk (Below.refl w.heap.size w); have H : ((serinetteref03_Clean.f k a0_0 a0_1 a0_2 a0_3 a0_4 a0_5 a0_6).bind fun bt367 => ((serinetteref03_Clean.f k a1_0 a1_1 a1_2 a1_3 a1_4 a1_5 a1_6).bind fun bt374 => (if bt367.2.2.2.2.2.1 = true then (serinetteref03_Join.j0 k true bt367.1 bt367.2.1 bt367.2.2.1 bt367.2.2.2.1 bt367.2.2.2.2.1 bt367.2.2.2.2.2.1 bt367.2.2.2.2.2.2 bt374.1 bt374.2.1 bt374.2.2.1 bt374.2.2.2.1 bt374.2.2.2.2.1 bt374.2.2.2.2.2.1 bt374.2.2.2.2.2.2) else (serinetteref03_Join.j0 k bt374.2.2.2.2.2.1 bt367.1 bt367.2.1 bt367.2.2.1 bt367.2.2.2.1 bt367.2.2.2.2.1 bt367.2.2.2.2.2.1 bt367.2.2.2.2.2.2 bt374.1 bt374.2.1 bt374.2.2.1 bt374.2.2.2.1 bt374.2.2.2.2.1 bt374.2.2.2.2.2.1 bt374.2.2.2.2.2.2)))) = some (r1, r2, r3, r4, r5, r6, r7) := h; clear h; replace H := Option.bind_eq_some_iff.mp H; obtain ⟨⟨t367, t368, t369, t370, t371, t372, t373⟩, A30, H⟩ := H; (try dsimp only at H); have A3 := Aside0.mk A30; clear A30; replace H := Option.bind_eq_some_iff.mp H; obtain ⟨⟨t374, t375, t376, t377, t378, t379, t380⟩, A40, H⟩ := H; (try dsimp only at H); have A4 := Aside0.mk A40; clear A40; have HC5 := Aside0.mk H; clear H; go_enter Tryz.func13, Tryz.ntmps13; go_upto_region 3 with (first | ((with_reducible refine gate_dst (N := 2) rfl ?_); refine bx_ 2 #[.int .i64 a0_0, .int .i64 a0_1, .int .i64 a0_2, .int .i64 a0_3, .int .i64 a0_4, .bool a0_5, .bool a0_6] 25 ?_; intro gb364 hg w6 BK364 hb; have GE364 := hz_ hg HB; replace HB := hs HB hb; clear hb hg) | ((with_reducible refine gate_dst (N := 3) rfl ?_); refine bx_ 3 #[.int .i64 a1_0, .int .i64 a1_1, .int .i64 a1_2, .int .i64 a1_3, .int .i64 a1_4, .bool a1_5, .bool a1_6] 25 ?_; intro gb365 hg w7 BK365 hb; have GE365 := ge_ w hg; have NB364_365 := nlk hg BK364; have NB365_364 := ngk hg BK364; replace BK364 := kb BK364 hb; replace HB := hb_ w hb; clear hb hg) | ((with_reducible refine gate_dst (N := 4) rfl ?_); refine bx_ 4 #[.int .i64 0, .int .i64 0, .int .i64 0, .int .i64 0, .int .i64 0, .bool false, .bool false] 25 ?_; intro gb366 hg w8 BK366 hb; have GE366 := ge_ w hg; have NB364_366 := nlk hg BK364; have NB366_364 := ngk hg BK364; have NB365_366 := nlk hg BK365; have NB366_365 := ngk hg BK365; replace BK364 := kb BK364 hb; replace BK365 := kb BK365 hb; replace HB := hb_ w hb; clear hb hg; have hnb9 := NB364_365.out; have hnc9 := NB365_364.out; have hnb10 := NB364_366.out; have hnc10 := NB366_364.out; obtain ⟨hcz11_0, hcz11_1, hcz11_2, hcz11_3, hcz11_4, hcz11_5, hcz11_6⟩ := bc7 BK364.out; obtain ⟨hfz11_0, hfz11_1, hfz11_2, hfz11_3, hfz11_4, hfz11_5, hfz11_6⟩ := bf7 BK364.out) | ((with_reducible refine gate_callee (f := 31) rfl ?_); refine goesL_ (some 7) rfl rfl Tryz.func31 (by kernel_rfl) rfl #[.agg #[.int .i64 a0_0, .int .i64 a0_1, .int .i64 a0_2, .int .i64 a0_3, .int .i64 a0_4, .bool a0_5, .bool a0_6]] rfl (by (try simp only [mp]); first | done | rfl | (simp only [ld]; rfl)) ?_; (with_reducible refine (serinetteref03_Clean.calls k a0_0 a0_1 a0_2 a0_3 a0_4 a0_5 a0_6 t367 t368 t369 t370 t371 t372 t373 _ A3.out).mono ?_); rintro e w12 ⟨rfl, hb⟩; refine ⟨_, rfl, ?_⟩; replace BK364 := kb BK364 hb; replace BK365 := kb BK365 hb; replace BK366 := kb BK366 hb; replace HB := hb_ w hb; obtain ⟨hcz13_0, hcz13_1, hcz13_2, hcz13_3, hcz13_4, hcz13_5, hcz13_6⟩ := bc7 BK364.out; obtain ⟨hfz13_0, hfz13_1, hfz13_2, hfz13_3, hfz13_4, hfz13_5, hfz13_6⟩ := bf7 BK364.out; have hnb14 := NB365_366.out; have hnc14 := NB366_365.out; obtain ⟨hcz15_0, hcz15_1, hcz15_2, hcz15_3, hcz15_4, hcz15_5, hcz15_6⟩ := bc7 BK365.out; obtain ⟨hfz15_0, hfz15_1, hfz15_2, hfz15_3, hfz15_4, hfz15_5, hfz15_6⟩ := bf7 BK365.out) | ((with_reducible refine gate_callee (f := 31) rfl ?_); refine goesL_ (some 9) rfl rfl Tryz.func31 (by kernel_rfl) rfl #[.agg #[.int .i64 a1_0, .int .i64 a1_1, .int .i64 a1_2, .int .i64 a1_3, .int .i64 a1_4, .bool a1_5, .bool a1_6]] rfl (by (try simp only [mp]); first | done | rfl | (simp only [ld]; rfl)) ?_; (with_reducible refine (serinetteref03_Clean.calls k a1_0 a1_1 a1_2 a1_3 a1_4 a1_5 a1_6 t374 t375 t376 t377 t378 t379 t380 _ A4.out).mono ?_); rintro e w16 ⟨rfl, hb⟩; refine ⟨_, rfl, ?_⟩; replace BK364 := Aside0.mk (blk_below (g := gb364) (o := .cells #[.int .i64 t367, .int .i64 t368, .int .i64 t369, .int .i64 t370, .int .i64 t371, .bool t372, .bool t373] 25 (0, 0)) (by exact rq BK364.out (by rfl)) hb); replace BK365 := Aside0.mk (blk_below (g := gb365) (o := .cells #[.int .i64 a1_0, .int .i64 a1_1, .int .i64 a1_2, .int .i64 a1_3, .int .i64 a1_4, .bool a1_5, .bool a1_6] 25 (0, 0)) (by (iterate 7 refine f1 NB365_364 ?_); refine bk ?_; exact BK365.out) hb); replace BK366 := Aside0.mk (blk_below (g := gb366) (o := .cells #[.int .i64 0, .int .i64 0, .int .i64 0, .int .i64 0, .int .i64 0, .bool false, .bool false] 25 (0, 0)) (by (iterate 7 refine f1 NB366_364 ?_); refine bk ?_; exact BK366.out) hb); replace HB := hb_ w hb; obtain ⟨hcz17_0, hcz17_1, hcz17_2, hcz17_3, hcz17_4, hcz17_5, hcz17_6⟩ := bc7 BK365.out; obtain ⟨hfz17_0, hfz17_1, hfz17_2, hfz17_3, hfz17_4, hfz17_5, hfz17_6⟩ := bf7 BK365.out)); (try simp only [Act.put, List.setIfInBounds_toArray, List.set_cons_zero, List.set_cons_succ])
 go_cut [5] (fun v5 wc => ∃ (kq : Nat) (x5_4 : Bool), v5 = .bool x5_4 ∧ Aside0 (serinetteref03_Join.j0 kq x5_4 t367 t368 t369 t370 t371 t372 t373 t374 t375 t376 t377 t378 t379 t380 = some (r1, r2, r3, r4, r5, r6, r7)) ∧ Aside0 (kq ≤ k) ∧ Aside0 (wc.heap[gb364]? = some (.cells #[.int .i64 t367, .int .i64 t368, .int .i64 t369, .int .i64 t370, .int .i64 t371, .bool t372, .bool t373] 25 (0, 0))) ∧ Aside0 (wc.heap[gb365]? = some (.cells #[.int .i64 t374, .int .i64 t375, .int .i64 t376, .int .i64 t377, .int .i64 t378, .bool t379, .bool t380] 25 (0, 0))) ∧ Aside0 (wc.heap[gb366]? = some (.cells #[.int .i64 0, .int .i64 0, .int .i64 0, .int .i64 0, .int .i64 0, .bool false, .bool false] 25 (0, 0))) ∧ Aside0 (Below w.heap.size w wc))
 case first =>
  have H := HC5.out; clear HC5; by_cases c18 : t372 = true
  ·
   subst c18; rw [if_pos rfl] at H; have H' := Aside0.mk H; clear H; have hnb19 := NB364_365.out; have hnc19 := NB365_364.out; have hnb20 := NB364_366.out; have hnc20 := NB366_364.out; obtain ⟨hcz21_0, hcz21_1, hcz21_2, hcz21_3, hcz21_4, hcz21_5, hcz21_6⟩ := bc7 BK364.out; obtain ⟨hfz21_0, hfz21_1, hfz21_2, hfz21_3, hfz21_4, hfz21_5, hfz21_6⟩ := bf7 BK364.out; go_wp2; go_meet
   case rel => exact ⟨_, (true), (by first | rfl | (simp; done) | (simp [*]; done)), H', ⟨by first | omega | exact Nat.le_refl _⟩, ⟨by (iterate 7 refine f1 NB364_365 ?_); refine bk ?_; exact BK364.out⟩, ⟨by exact rq BK365.out (by rfl)⟩, ⟨by (iterate 7 refine f1 NB366_365 ?_); refine bk ?_; exact BK366.out⟩, ab2_⟩
  ·
   replace c18 := Bool.eq_false_iff.mpr c18; subst c18; rw [if_neg (show ¬ (false = true) by decide)] at H; have H' := Aside0.mk H; clear H; have hnb22 := NB364_365.out; have hnc22 := NB365_364.out; have hnb23 := NB364_366.out; have hnc23 := NB366_364.out; obtain ⟨hcz24_0, hcz24_1, hcz24_2, hcz24_3, hcz24_4, hcz24_5, hcz24_6⟩ := bc7 BK364.out; obtain ⟨hfz24_0, hfz24_1, hfz24_2, hfz24_3, hfz24_4, hfz24_5, hfz24_6⟩ := bf7 BK364.out; have hnb25 := NB365_366.out; have hnc25 := NB366_365.out; obtain ⟨hcz26_0, hcz26_1, hcz26_2, hcz26_3, hcz26_4, hcz26_5, hcz26_6⟩ := bc7 BK365.out; obtain ⟨hfz26_0, hfz26_1, hfz26_2, hfz26_3, hfz26_4, hfz26_5, hfz26_6⟩ := bf7 BK365.out; go_wp2; go_meet
   case rel => exact ⟨_, (t379), (by first | rfl | (simp; done) | (simp [*]; done)), H', ⟨by first | omega | exact Nat.le_refl _⟩, ⟨by (iterate 7 refine f1 NB364_365 ?_); refine bk ?_; exact BK364.out⟩, ⟨by exact rq BK365.out (by rfl)⟩, ⟨by (iterate 7 refine f1 NB366_365 ?_); refine bk ?_; exact BK366.out⟩, ab2_⟩
 case rest =>
  clear HC5; (try clear hcz11_0 hcz11_1 hcz11_2 hcz11_3 hcz11_4 hcz11_5 hcz11_6); (try clear hcz13_0 hcz13_1 hcz13_2 hcz13_3 hcz13_4 hcz13_5 hcz13_6); (try clear hcz15_0 hcz15_1 hcz15_2 hcz15_3 hcz15_4 hcz15_5 hcz15_6); (try clear hcz17_0 hcz17_1 hcz17_2 hcz17_3 hcz17_4 hcz17_5 hcz17_6); (try clear hfz11_0 hfz11_1 hfz11_2 hfz11_3 hfz11_4 hfz11_5 hfz11_6); (try clear hfz13_0 hfz13_1 hfz13_2 hfz13_3 hfz13_4 hfz13_5 hfz13_6); (try clear hfz15_0 hfz15_1 hfz15_2 hfz15_3 hfz15_4 hfz15_5 hfz15_6); (try clear hfz17_0 hfz17_1 hfz17_2 hfz17_3 hfz17_4 hfz17_5 hfz17_6); obtain ⟨kq, x5_4, rfl, HA, HJ4, BK364, BK365, BK366, HB⟩ := hcut; cases kq with
  | zero => exact absurd HA.out (by simp [serinetteref03_Join.j0])
  | succ kj4 =>
   have H := HA.out; clear HA; simp only [serinetteref03_Join.j0] at H; by_cases c27 : t373 = true
   · subst c27; rw [if_pos rfl] at H; simp only [Option.some.injEq, Prod.mk.injEq] at H; obtain ⟨rfl, rfl, rfl, rfl, rfl, rfl, rfl⟩ := H; have hnb28 := NB364_365.out; have hnc28 := NB365_364.out; have hnb29 := NB364_366.out; have hnc29 := NB366_364.out; obtain ⟨hcz30_0, hcz30_1, hcz30_2, hcz30_3, hcz30_4, hcz30_5, hcz30_6⟩ := bc7 BK364.out; obtain ⟨hfz30_0, hfz30_1, hfz30_2, hfz30_3, hfz30_4, hfz30_5, hfz30_6⟩ := bf7 BK364.out; have hnb31 := NB365_366.out; have hnc31 := NB366_365.out; obtain ⟨hcz32_0, hcz32_1, hcz32_2, hcz32_3, hcz32_4, hcz32_5, hcz32_6⟩ := bc7 BK365.out; obtain ⟨hfz32_0, hfz32_1, hfz32_2, hfz32_3, hfz32_4, hfz32_5, hfz32_6⟩ := bf7 BK365.out; obtain ⟨hcz33_0, hcz33_1, hcz33_2, hcz33_3, hcz33_4, hcz33_5, hcz33_6⟩ := bc7 BK366.out; obtain ⟨hfz33_0, hfz33_1, hfz33_2, hfz33_3, hfz33_4, hfz33_5, hfz33_6⟩ := bf7 BK366.out; go_wp2; refine bodyPost_ret (results_cell_row rfl _ _ gb366 25 #[.int .i64 t374, .int .i64 t375, .int .i64 t376, .int .i64 t377, .int .i64 t378, .bool x5_4, .bool t380] (0, 0) _ rfl (by refine bk ?_; refine blk_put (cs := #[.int .i64 t374, .int .i64 t375, .int .i64 t376, .int .i64 t377, .int .i64 t378, .bool x5_4, .bool false]) ?_ 6 _ rfl; refine bk ?_; refine blk_put (cs := #[.int .i64 t374, .int .i64 t375, .int .i64 t376, .int .i64 t377, .int .i64 t378, .bool false, .bool false]) ?_ 5 _ rfl; refine bk ?_; refine blk_put (cs := #[.int .i64 t374, .int .i64 t375, .int .i64 t376, .int .i64 t377, .int .i64 0, .bool false, .bool false]) ?_ 4 _ rfl; refine bk ?_; refine blk_put (cs := #[.int .i64 t374, .int .i64 t375, .int .i64 t376, .int .i64 0, .int .i64 0, .bool false, .bool false]) ?_ 3 _ rfl; refine bk ?_; refine blk_put (cs := #[.int .i64 t374, .int .i64 t375, .int .i64 0, .int .i64 0, .int .i64 0, .bool false, .bool false]) ?_ 2 _ rfl; refine bk ?_; refine blk_put (cs := #[.int .i64 t374, .int .i64 0, .int .i64 0, .int .i64 0, .int .i64 0, .bool false, .bool false]) ?_ 1 _ rfl; refine bk ?_; refine blk_put (cs := #[.int .i64 0, .int .i64 0, .int .i64 0, .int .i64 0, .int .i64 0, .bool false, .bool false]) ?_ 0 _ rfl; refine f1 NB366_365 ?_; refine bk ?_; exact BK366.out) Tryz.underlying25 rfl (by kernel_rfl)) rfl ?_; exact en_
   ·
    replace c27 := Bool.eq_false_iff.mpr c27; subst c27; rw [if_neg (show ¬ (false = true) by decide)] at H; by_cases c34 : t380 = true
    · subst c34; rw [if_pos rfl] at H; simp only [Option.some.injEq, Prod.mk.injEq] at H; obtain ⟨rfl, rfl, rfl, rfl, rfl, rfl, rfl⟩ := H; have hnb35 := NB364_365.out; have hnc35 := NB365_364.out; have hnb36 := NB364_366.out; have hnc36 := NB366_364.out; obtain ⟨hcz37_0, hcz37_1, hcz37_2, hcz37_3, hcz37_4, hcz37_5, hcz37_6⟩ := bc7 BK364.out; obtain ⟨hfz37_0, hfz37_1, hfz37_2, hfz37_3, hfz37_4, hfz37_5, hfz37_6⟩ := bf7 BK364.out; have hnb38 := NB365_366.out; have hnc38 := NB366_365.out; obtain ⟨hcz39_0, hcz39_1, hcz39_2, hcz39_3, hcz39_4, hcz39_5, hcz39_6⟩ := bc7 BK365.out; obtain ⟨hfz39_0, hfz39_1, hfz39_2, hfz39_3, hfz39_4, hfz39_5, hfz39_6⟩ := bf7 BK365.out; obtain ⟨hcz40_0, hcz40_1, hcz40_2, hcz40_3, hcz40_4, hcz40_5, hcz40_6⟩ := bc7 BK366.out; obtain ⟨hfz40_0, hfz40_1, hfz40_2, hfz40_3, hfz40_4, hfz40_5, hfz40_6⟩ := bf7 BK366.out; go_wp2; refine bodyPost_ret (results_cell_row rfl _ _ gb366 25 #[.int .i64 t367, .int .i64 t368, .int .i64 t369, .int .i64 t370, .int .i64 t371, .bool x5_4, .bool false] (0, 0) _ rfl (by refine bk ?_; refine blk_put (cs := #[.int .i64 t367, .int .i64 t368, .int .i64 t369, .int .i64 t370, .int .i64 t371, .bool x5_4, .bool false]) ?_ 6 _ rfl; refine bk ?_; refine blk_put (cs := #[.int .i64 t367, .int .i64 t368, .int .i64 t369, .int .i64 t370, .int .i64 t371, .bool false, .bool false]) ?_ 5 _ rfl; refine bk ?_; refine blk_put (cs := #[.int .i64 t367, .int .i64 t368, .int .i64 t369, .int .i64 t370, .int .i64 0, .bool false, .bool false]) ?_ 4 _ rfl; refine bk ?_; refine blk_put (cs := #[.int .i64 t367, .int .i64 t368, .int .i64 t369, .int .i64 0, .int .i64 0, .bool false, .bool false]) ?_ 3 _ rfl; refine bk ?_; refine blk_put (cs := #[.int .i64 t367, .int .i64 t368, .int .i64 0, .int .i64 0, .int .i64 0, .bool false, .bool false]) ?_ 2 _ rfl; refine bk ?_; refine blk_put (cs := #[.int .i64 t367, .int .i64 0, .int .i64 0, .int .i64 0, .int .i64 0, .bool false, .bool false]) ?_ 1 _ rfl; refine bk ?_; refine blk_put (cs := #[.int .i64 0, .int .i64 0, .int .i64 0, .int .i64 0, .int .i64 0, .bool false, .bool false]) ?_ 0 _ rfl; refine f1 NB366_364 ?_; refine bk ?_; exact BK366.out) Tryz.underlying25 rfl (by kernel_rfl)) rfl ?_; exact en_
    ·
     replace c34 := Bool.eq_false_iff.mpr c34; subst c34; rw [if_neg (show ¬ (false = true) by decide)] at H; replace H := Option.bind_eq_some_iff.mp H; obtain ⟨⟨t381, t382⟩, A410, H⟩ := H; (try dsimp only at H); have A41 := Aside0.mk A410; clear A410; replace H := Option.bind_eq_some_iff.mp H; obtain ⟨⟨t383, t384⟩, A420, H⟩ := H; (try dsimp only at H); have A42 := Aside0.mk A420; clear A420; replace H := Option.bind_eq_some_iff.mp H; obtain ⟨t385, A430, H⟩ := H; (try dsimp only at H); have A43 := Aside0.mk A430; clear A430; simp only [Option.some.injEq, Prod.mk.injEq] at H; obtain ⟨rfl, rfl, rfl, rfl, rfl, rfl, rfl⟩ := H; have hnb44 := NB364_365.out; have hnc44 := NB365_364.out; have hnb45 := NB364_366.out; have hnc45 := NB366_364.out; obtain ⟨hcz46_0, hcz46_1, hcz46_2, hcz46_3, hcz46_4, hcz46_5, hcz46_6⟩ := bc7 BK364.out; obtain ⟨hfz46_0, hfz46_1, hfz46_2, hfz46_3, hfz46_4, hfz46_5, hfz46_6⟩ := bf7 BK364.out; have hnb47 := NB365_366.out; have hnc47 := NB366_365.out; obtain ⟨hcz48_0, hcz48_1, hcz48_2, hcz48_3, hcz48_4, hcz48_5, hcz48_6⟩ := bc7 BK365.out; obtain ⟨hfz48_0, hfz48_1, hfz48_2, hfz48_3, hfz48_4, hfz48_5, hfz48_6⟩ := bf7 BK365.out; (try go_wp2); replace BK364 := kd BK364; replace BK365 := kd BK365; replace BK366 := kd BK366; replace HB := Aside0.mk (below_drew1 HB.out); refine start_ (n := 18) (S := fun w' => w'.cell? ⟨gb364, 0, none⟩ = some (.int .i64 t367) ∧ w'.cell? ⟨gb364, 1, none⟩ = some (.int .i64 t368) ∧ w'.cell? ⟨gb364, 2, none⟩ = some (.int .i64 t369) ∧ w'.cell? ⟨gb364, 3, none⟩ = some (.int .i64 t370) ∧ w'.cell? ⟨gb364, 4, none⟩ = some (.int .i64 t371) ∧ w'.cell? ⟨gb364, 5, none⟩ = some (.bool t372) ∧ w'.cell? ⟨gb364, 6, none⟩ = some (.bool false) ∧ w'.cell? ⟨gb365, 0, none⟩ = some (.int .i64 t374) ∧ w'.cell? ⟨gb365, 1, none⟩ = some (.int .i64 t375) ∧ w'.cell? ⟨gb365, 2, none⟩ = some (.int .i64 t376) ∧ w'.cell? ⟨gb365, 3, none⟩ = some (.int .i64 t377) ∧ w'.cell? ⟨gb365, 4, none⟩ = some (.int .i64 t378) ∧ w'.cell? ⟨gb365, 5, none⟩ = some (.bool t379) ∧ w'.cell? ⟨gb365, 6, none⟩ = some (.bool false)) (ds := []) (bA 18 0) (by kernel_rfl) rfl rfl ⟨(blk_cell BK364.out 0).trans rfl, (blk_cell BK364.out 1).trans rfl, (blk_cell BK364.out 2).trans rfl, (blk_cell BK364.out 3).trans rfl, (blk_cell BK364.out 4).trans rfl, (blk_cell BK364.out 5).trans rfl, (blk_cell BK364.out 6).trans rfl, (blk_cell BK365.out 0).trans rfl, (blk_cell BK365.out 1).trans rfl, (blk_cell BK365.out 2).trans rfl, (blk_cell BK365.out 3).trans rfl, (blk_cell BK365.out 4).trans rfl, (blk_cell BK365.out 5).trans rfl, (blk_cell BK365.out 6).trans rfl⟩ (fun hHeld => ?_); refine with_tabW serinetteref03_Join.tab10 serinetteref03_Join.bits10 (fun HT_ HW_ => ?_); generalize wc.drew = w49 at BK364 BK365 BK366 HB hHeld ⊢; have hH0 := hHeld; have HBW := hbw w49; refine pure_ (i := 0) (N := some 26) (v := ?_) (a' := ?_) (bA 18 1) rfl rfl (any_of HT_.out (by kernel_rfl)) (fun _ _ _ h => h) (Or.inl ⟨by rfl, ?_⟩) ?_ ?_; rotate_left
     · intro w'; go_simp; with_reducible rfl
     rotate_left
     · simp only [ap]; rfl
     refine pure_ (i := 2) (N := some 28) (v := ?_) (a' := ?_) (bA 18 5) rfl rfl (any_of HT_.out (by kernel_rfl)) (fun _ _ _ h => h) (Or.inl ⟨by rfl, ?_⟩) ?_ ?_; rotate_left
     · intro w'; go_simp; with_reducible rfl
     rotate_left
     · simp only [ap]; rfl
     refine pure_ (i := 5) (N := some 31) (v := ?_) (a' := ?_) (bA 18 37) rfl rfl (any_of HT_.out (by kernel_rfl)) (fun _ _ _ h => h) (Or.inl ⟨by rfl, ?_⟩) ?_ ?_; rotate_left
     · intro w'; go_simp; with_reducible rfl
     rotate_left
     · simp only [ap]; rfl
     refine pure_ (i := 7) (N := some 33) (v := ?_) (a' := ?_) (bA 18 165) rfl rfl (any_of HT_.out (by kernel_rfl)) (fun _ _ _ h => h) (Or.inl ⟨by rfl, ?_⟩) ?_ ?_; rotate_left
     · intro w'; go_simp; with_reducible rfl
     rotate_left
     · simp only [ap]; rfl
     refine pure_ (i := 10) (N := some 36) (v := ?_) (a' := ?_) (bA 18 1189) rfl rfl (any_of HT_.out (by kernel_rfl)) (fun _ _ _ h => h) (Or.inl ⟨by rfl, ?_⟩) ?_ ?_; rotate_left
     · intro w'; go_simp; with_reducible rfl
     rotate_left
     · simp only [ap]; rfl
     refine pure_ (i := 12) (N := some 38) (v := ?_) (a' := ?_) (bA 18 5285) rfl rfl (any_of HT_.out (by kernel_rfl)) (fun _ _ _ h => h) (Or.inl ⟨by rfl, ?_⟩) ?_ ?_; rotate_left
     · intro w'; go_simp; with_reducible rfl
     rotate_left
     · simp only [ap]; rfl
     refine pure_ (i := 15) (N := some 41) (v := ?_) (a' := ?_) (bA 18 38053) rfl rfl (any_of HT_.out (by kernel_rfl)) (fun _ _ _ h => h) (Or.inl ⟨by rfl, ?_⟩) ?_ ?_; rotate_left
     · intro w'; go_simp; with_reducible rfl
     rotate_left
     · simp only [ap]; rfl
     refine take_ (i := 1) (N := some 27) (v := ?_) (a' := ?_) (bA 18 38055) rfl rfl (take_ofW HT_.out HW_.out (by kernel_rfl)) (fun _ _ _ h => h) (Or.inl ⟨by rfl, ?_⟩) hHeld ?_ ?_; rotate_left
     · rintro w' ⟨s0, s1, s2, s3, s4, s5, s6, s7, s8, s9, s10, s11, s12, s13⟩; go_simp; with_reducible rfl
     rotate_left
     · simp only [ap]; rfl
     refine take_ (i := 3) (N := some 29) (v := ?_) (a' := ?_) (bA 18 38063) rfl rfl (take_ofW HT_.out HW_.out (by kernel_rfl)) (fun _ _ _ h => h) (Or.inl ⟨by rfl, ?_⟩) hHeld ?_ ?_; rotate_left
     · rintro w' ⟨s0, s1, s2, s3, s4, s5, s6, s7, s8, s9, s10, s11, s12, s13⟩; go_simp; with_reducible rfl
     rotate_left
     · simp only [ap]; rfl
     refine take_ (i := 6) (N := some 32) (v := ?_) (a' := ?_) (bA 18 38127) rfl rfl (take_ofW HT_.out HW_.out (by kernel_rfl)) (fun _ _ _ h => h) (Or.inl ⟨by rfl, ?_⟩) hHeld ?_ ?_; rotate_left
     · rintro w' ⟨s0, s1, s2, s3, s4, s5, s6, s7, s8, s9, s10, s11, s12, s13⟩; go_simp; with_reducible rfl
     rotate_left
     · simp only [ap]; rfl
     refine take_ (i := 8) (N := some 34) (v := ?_) (a' := ?_) (bA 18 38383) rfl rfl (take_ofW HT_.out HW_.out (by kernel_rfl)) (fun _ _ _ h => h) (Or.inl ⟨by rfl, ?_⟩) hHeld ?_ ?_; rotate_left
     · rintro w' ⟨s0, s1, s2, s3, s4, s5, s6, s7, s8, s9, s10, s11, s12, s13⟩; go_simp; with_reducible rfl
     rotate_left
     · simp only [ap]; rfl
     refine take_ (i := 11) (N := some 37) (v := ?_) (a' := ?_) (bA 18 40431) rfl rfl (take_ofW HT_.out HW_.out (by kernel_rfl)) (fun _ _ _ h => h) (Or.inl ⟨by rfl, ?_⟩) hHeld ?_ ?_; rotate_left
     · rintro w' ⟨s0, s1, s2, s3, s4, s5, s6, s7, s8, s9, s10, s11, s12, s13⟩; go_simp; with_reducible rfl
     rotate_left
     · simp only [ap]; rfl
     refine take_ (i := 13) (N := some 39) (v := ?_) (a' := ?_) (bA 18 48623) rfl rfl (take_ofW HT_.out HW_.out (by kernel_rfl)) (fun _ _ _ h => h) (Or.inl ⟨by rfl, ?_⟩) hHeld ?_ ?_; rotate_left
     · rintro w' ⟨s0, s1, s2, s3, s4, s5, s6, s7, s8, s9, s10, s11, s12, s13⟩; go_simp; with_reducible rfl
     rotate_left
     · simp only [ap]; rfl
     refine one_ (i := 4) (N := some 30) (bA 18 48639) rfl rfl (one_of HT_.out (by kernel_rfl)) (by decide) (fun K hK => ?_); refine goes_ Tryz.func38 (by kernel_rfl) rfl #[.agg #[.int .i64 t367, .int .i64 t368], .agg #[.int .i64 t374, .int .i64 t375]] (by rfl) rfl rfl (by (try simp only [mp]); first | done | rfl | (simp only [ld]; rfl)) ?_; (with_reducible refine (serinetteref03_lower.calls kj4 t367 t368 t374 t375 t381 t382 _ A41.out).mono ?_); rintro e w50 ⟨rfl, hb⟩; refine ⟨_, rfl, ?_⟩; replace HBW := hs HBW hb; clear hb; refine hK.out _ _ (hc8 HBW.out (hs6 HBW.out) hH0) (fun hHeld => ?_); clear hK K; refine norm_ (a' := ?_) ?_ ?_; rotate_left
     · (show Act.put _ (some 30) _ = _); simp only [ap]; rfl
     refine one_ (i := 9) (N := some 35) (bA 18 49151) rfl rfl (one_of HT_.out (by kernel_rfl)) (by decide) (fun K hK => ?_); refine goes_ Tryz.func39 (by kernel_rfl) rfl #[.agg #[.int .i64 t369, .int .i64 t370], .agg #[.int .i64 t376, .int .i64 t377]] (by rfl) rfl rfl (by (try simp only [mp]); first | done | rfl | (simp only [ld]; rfl)) ?_; (with_reducible refine (serinetteref03_upper.calls kj4 t369 t370 t376 t377 t383 t384 _ A42.out).mono ?_); rintro e w51 ⟨rfl, hb⟩; refine ⟨_, rfl, ?_⟩; replace HBW := hs HBW hb; clear hb; refine hK.out _ _ (hc8 HBW.out (hs6 HBW.out) hH0) (fun hHeld => ?_); clear hK K; refine norm_ (a' := ?_) ?_ ?_; rotate_left
     · (show Act.put _ (some 35) _ = _); simp only [ap]; rfl
     refine one_ (i := 14) (N := some 40) (bA 18 65535) rfl rfl (one_of HT_.out (by kernel_rfl)) (by decide) (fun K hK => ?_); refine goes_ Tryz.func40 (by kernel_rfl) rfl #[.int .i64 t371, .int .i64 t378] (by rfl) rfl rfl (by (try simp only [mp]); first | done | rfl | (simp only [ld]; rfl)) ?_; (with_reducible refine (serinetteref03_Common.calls kj4 t371 t378 t385 _ A43.out).mono ?_); rintro e w' ⟨rfl, ⟨nd, rfl⟩⟩; refine ⟨_, rfl, ?_⟩; refine hK.out _ _ (hc8 (bl HBW.out) (hs6 (bl HBW.out)) hH0) (fun hHeld => ?_); clear hK K; refine norm_ (a' := ?_) ?_ ?_; rotate_left
     · (show Act.put _ (some 40) _ = _); simp only [ap]; rfl
     refine pure_ (i := 16) (N := some 42) (v := ?_) (a' := ?_) (bA 18 131071) rfl rfl (any_of HT_.out (by kernel_rfl)) (fun _ _ _ h => h) (Or.inl ⟨by rfl, ?_⟩) ?_ ?_; rotate_left
     · intro w'; go_simp; with_reducible rfl
     rotate_left
     · simp only [ap]; rfl
     replace BK364 := kb BK364 HBW.out; replace BK365 := kb BK365 HBW.out; replace BK366 := kb BK366 HBW.out; replace HB := hs HB HBW.out; refine one_ (i := 17) (N := none) (bA 18 262143) rfl rfl (one_of HT_.out (by kernel_rfl)) (by decide) (fun K hK => ?_); have hs52 : w51.cell? ⟨gb366, 0, none⟩ = some (.int .i64 0) := (blk_cell BK366.out 0).trans rfl; have hfs52 := blk_frozen BK366.out 0; have hns52_0 := NB364_366.out; have hns52_1 := NB365_366.out; have hms52_0 := NB366_364.out; have hms52_1 := NB366_365.out; have hs53 : w51.cell? ⟨gb366, 1, none⟩ = some (.int .i64 0) := (blk_cell BK366.out 1).trans rfl; have hfs53 := blk_frozen BK366.out 1; have hns53_0 := NB364_366.out; have hns53_1 := NB365_366.out; have hms53_0 := NB366_364.out; have hms53_1 := NB366_365.out; have hs54 : w51.cell? ⟨gb366, 2, none⟩ = some (.int .i64 0) := (blk_cell BK366.out 2).trans rfl; have hfs54 := blk_frozen BK366.out 2; have hns54_0 := NB364_366.out; have hns54_1 := NB365_366.out; have hms54_0 := NB366_364.out; have hms54_1 := NB366_365.out; have hs55 : w51.cell? ⟨gb366, 3, none⟩ = some (.int .i64 0) := (blk_cell BK366.out 3).trans rfl; have hfs55 := blk_frozen BK366.out 3; have hns55_0 := NB364_366.out; have hns55_1 := NB365_366.out; have hms55_0 := NB366_364.out; have hms55_1 := NB366_365.out; have hs56 : w51.cell? ⟨gb366, 4, none⟩ = some (.int .i64 0) := (blk_cell BK366.out 4).trans rfl; have hfs56 := blk_frozen BK366.out 4; have hns56_0 := NB364_366.out; have hns56_1 := NB365_366.out; have hms56_0 := NB366_364.out; have hms56_1 := NB366_365.out; have hs57 : w51.cell? ⟨gb366, 5, none⟩ = some (.bool false) := (blk_cell BK366.out 5).trans rfl; have hfs57 := blk_frozen BK366.out 5; have hns57_0 := NB364_366.out; have hns57_1 := NB365_366.out; have hms57_0 := NB366_364.out; have hms57_1 := NB366_365.out; have hs58 : w51.cell? ⟨gb366, 6, none⟩ = some (.bool false) := (blk_cell BK366.out 6).trans rfl; have hfs58 := blk_frozen BK366.out 6; have hns58_0 := NB364_366.out; have hns58_1 := NB365_366.out; have hms58_0 := NB366_364.out; have hms58_1 := NB366_365.out; refine skip_ (w1 := ?_) (by rfl) rfl ?_ ?_; rotate_left
     · go_simp; rfl
     refine hK.out _ _ ⟨(cf7 NB364_366.out hHeld.1), (cf7 NB364_366.out hHeld.2.1), (cf7 NB364_366.out hHeld.2.2.1), (cf7 NB364_366.out hHeld.2.2.2.1), (cf7 NB364_366.out hHeld.2.2.2.2.1), (cf7 NB364_366.out hHeld.2.2.2.2.2.1), (cf7 NB364_366.out hHeld.2.2.2.2.2.2.1), (cf7 NB365_366.out hHeld.2.2.2.2.2.2.2.1), (cf7 NB365_366.out hHeld.2.2.2.2.2.2.2.2.1), (cf7 NB365_366.out hHeld.2.2.2.2.2.2.2.2.2.1), (cf7 NB365_366.out hHeld.2.2.2.2.2.2.2.2.2.2.1), (cf7 NB365_366.out hHeld.2.2.2.2.2.2.2.2.2.2.2.1), (cf7 NB365_366.out hHeld.2.2.2.2.2.2.2.2.2.2.2.2.1), (cf7 NB365_366.out hHeld.2.2.2.2.2.2.2.2.2.2.2.2.2)⟩ (fun hHeld => ?_); clear hK K; refine done_ (done_of HT_.out (by kernel_rfl)) ?_; clear HBW hH0; (try go_wp2); refine bodyPost_ret (results_cell_row rfl _ _ gb366 25 #[.int .i64 t381, .int .i64 t382, .int .i64 t383, .int .i64 t384, .int .i64 t385, .bool x5_4, .bool false] (0, 0) _ rfl (by exact rq BK366.out (by rfl)) Tryz.underlying25 rfl (by kernel_rfl)) rfl ?_; exact en_
def span_empty.f (a0 : Bool) : Option (Int × Int × Int × Int × Int × Bool × Bool) := some (0, 0, 0, 0, 0, a0, true)
set_option maxHeartbeats 8000000 in
set_option maxRecDepth 100000 in
theorem span_empty.calls (a0 : Bool) (r1 : Int) (r2 : Int) (r3 : Int) (r4 : Int) (r5 : Int) (r6 : Bool) (r7 : Bool) (w : World) (h : span_empty.f a0 = some (r1, r2, r3, r4, r5, r6, r7)) :
  Calls Tryz.prog 41 #[.bool a0] w fun e w' => e = .returned (.agg #[.int .i64 r1, .int .i64 r2, .int .i64 r3, .int .i64 r4, .int .i64 r5, .bool r6, .bool r7]) ∧ Below w.heap.size w w' := by
 have hu25 := Tryz.underlying25; have HB := Aside0.mk (Below.refl w.heap.size w); have H : (some (0, 0, 0, 0, 0, a0, true)) = some (r1, r2, r3, r4, r5, r6, r7) := h; clear h; simp only [Option.some.injEq, Prod.mk.injEq] at H; obtain ⟨rfl, rfl, rfl, rfl, rfl, rfl, rfl⟩ := H; go_enter Tryz.func41, Tryz.ntmps41; go_wp2_with (first | ((with_reducible refine gate_dst (N := 2) rfl ?_); refine bx_ 2 #[.int .i64 0, .int .i64 0, .int .i64 0, .int .i64 0, .int .i64 0, .bool false, .bool false] 25 ?_; intro gb386 hg w2 BK386 hb; have GE386 := hz_ hg HB; replace HB := hs HB hb; clear hb hg; obtain ⟨hcz3_0, hcz3_1, hcz3_2, hcz3_3, hcz3_4, hcz3_5, hcz3_6⟩ := bc7 BK386.out; obtain ⟨hfz3_0, hfz3_1, hfz3_2, hfz3_3, hfz3_4, hfz3_5, hfz3_6⟩ := bf7 BK386.out)); refine bodyPost_ret (results_cell_row rfl _ _ gb386 25 #[.int .i64 0, .int .i64 0, .int .i64 0, .int .i64 0, .int .i64 0, .bool a0, .bool true] (0, 0) _ rfl (by exact rq BK386.out (by rfl)) Tryz.underlying25 rfl (by kernel_rfl)) rfl ?_; exact en_
mutual
def span_Meet.j0 : Nat → Bool → Int → Int → Int → Int → Int → Bool → Bool → Int → Int → Int → Int → Int → Bool → Bool → Option (Int × Int × Int × Int × Int × Bool × Bool)
 | 0, _, _, _, _, _, _, _, _, _, _, _, _, _, _, _ => none
 | k + 1, x5, x388000, x388001, x388002, x388003, x388004, x388005, x388006, x389000, x389001, x389002, x389003, x389004, x389005, x389006 => if x388006 = true then (span_Meet.j1 k x5 true x388000 x388001 x388002 x388003 x388004 x388005 x388006 x389000 x389001 x389002 x389003 x389004 x389005 x389006) else (span_Meet.j1 k x5 x389006 x388000 x388001 x388002 x388003 x388004 x388005 x388006 x389000 x389001 x389002 x389003 x389004 x389005 x389006)
def span_Meet.j1 : Nat → Bool → Bool → Int → Int → Int → Int → Int → Bool → Bool → Int → Int → Int → Int → Int → Bool → Bool → Option (Int × Int × Int × Int × Int × Bool × Bool)
 | 0, _, _, _, _, _, _, _, _, _, _, _, _, _, _, _, _ => none
 | k + 1, x5, x22, x388000, x388001, x388002, x388003, x388004, x388005, x388006, x389000, x389001, x389002, x389003, x389004, x389005, x389006 => if x22 = true then ((span_empty.f x5).bind fun bt404 => (some (bt404.1, bt404.2.1, bt404.2.2.1, bt404.2.2.2.1, bt404.2.2.2.2.1, bt404.2.2.2.2.2.1, bt404.2.2.2.2.2.2))) else ((span_divisor.f k x388004 x389004).bind fun t411 => ((ratio_Is.f k x389000 x389001).bind fun t413 => (if t413 = true then ((ratio_Is.f k x388000 x388001).bind fun t414 => (if t414 = true then ((ratio_Cmp.f k x389000 x389001 x388000 x388001).bind fun t415 => (span_Meet.j2 k x5 (decide (t415 > 0)) x389000 x389001 x389002 x389003 x389004 x389005 x389006 x388000 x388001 x388002 x388003 t411 x5 false)) else (span_Meet.j2 k x5 true x389000 x389001 x389002 x389003 x389004 x389005 x389006 x388000 x388001 x388002 x388003 t411 x5 false))) else (span_Meet.j2 k x5 false x389000 x389001 x389002 x389003 x389004 x389005 x389006 x388000 x388001 x388002 x388003 t411 x5 false))))
def span_Meet.j2 : Nat → Bool → Bool → Int → Int → Int → Int → Int → Bool → Bool → Int → Int → Int → Int → Int → Bool → Bool → Option (Int × Int × Int × Int × Int × Bool × Bool)
 | 0, _, _, _, _, _, _, _, _, _, _, _, _, _, _, _, _ => none
 | k + 1, x5, x52, x389000, x389001, x389002, x389003, x389004, x389005, x389006, x413000, x413001, x413002, x413003, x413004, x413005, x413006 => if x52 = true then (span_Meet.j3 k x5 x389000 x389001 x389002 x389003 x389004 x389005 x389006 x389000 x389001 x413002 x413003 x413004 x413005 x413006) else (span_Meet.j3 k x5 x389000 x389001 x389002 x389003 x389004 x389005 x389006 x413000 x413001 x413002 x413003 x413004 x413005 x413006)
def span_Meet.j3 : Nat → Bool → Int → Int → Int → Int → Int → Bool → Bool → Int → Int → Int → Int → Int → Bool → Bool → Option (Int × Int × Int × Int × Int × Bool × Bool)
 | 0, _, _, _, _, _, _, _, _, _, _, _, _, _, _, _ => none
 | k + 1, x5, x389000, x389001, x389002, x389003, x389004, x389005, x389006, x413000, x413001, x413002, x413003, x413004, x413005, x413006 => (ratio_Is.f k x389002 x389003).bind fun t416 => (if t416 = true then ((ratio_Is.f k x413002 x413003).bind fun t417 => (if t417 = true then ((ratio_Cmp.f k x389002 x389003 x413002 x413003).bind fun t418 => (span_Meet.j4 k x5 (decide (t418 < 0)) x389000 x389001 x389002 x389003 x389004 x389005 x389006 x413000 x413001 x413002 x413003 x413004 x413005 x413006)) else (span_Meet.j4 k x5 true x389000 x389001 x389002 x389003 x389004 x389005 x389006 x413000 x413001 x413002 x413003 x413004 x413005 x413006))) else (span_Meet.j4 k x5 false x389000 x389001 x389002 x389003 x389004 x389005 x389006 x413000 x413001 x413002 x413003 x413004 x413005 x413006))
def span_Meet.j4 : Nat → Bool → Bool → Int → Int → Int → Int → Int → Bool → Bool → Int → Int → Int → Int → Int → Bool → Bool → Option (Int × Int × Int × Int × Int × Bool × Bool)
 | 0, _, _, _, _, _, _, _, _, _, _, _, _, _, _, _, _ => none
 | k + 1, x5, x72, x389000, x389001, x389002, x389003, x389004, x389005, x389006, x413000, x413001, x413002, x413003, x413004, x413005, x413006 => if x72 = true then (span_Meet.j5 k x5 x413000 x413001 x389002 x389003 x413004 x413005 x413006) else (span_Meet.j5 k x5 x413000 x413001 x413002 x413003 x413004 x413005 x413006)
def span_Meet.j5 : Nat → Bool → Int → Int → Int → Int → Int → Bool → Bool → Option (Int × Int × Int × Int × Int × Bool × Bool)
 | 0, _, _, _, _, _, _, _, _ => none
 | k + 1, x5, x413000, x413001, x413002, x413003, x413004, x413005, x413006 => (ratio_Is.f k x413000 x413001).bind fun t419 => (if t419 = true then ((ratio_Is.f k x413002 x413003).bind fun t420 => (if t420 = true then ((ratio_Cmp.f k x413000 x413001 x413002 x413003).bind fun t421 => (if t421 > 0 then ((span_empty.f x5).bind fun bt422 => (some (bt422.1, bt422.2.1, bt422.2.2.1, bt422.2.2.2.1, bt422.2.2.2.2.1, bt422.2.2.2.2.2.1, bt422.2.2.2.2.2.2))) else (some (x413000, x413001, x413002, x413003, x413004, x413005, x413006)))) else (some (x413000, x413001, x413002, x413003, x413004, x413005, x413006)))) else (some (x413000, x413001, x413002, x413003, x413004, x413005, x413006)))
end
def span_Meet.f (k : Nat) (a0_0 : Int) (a0_1 : Int) (a0_2 : Int) (a0_3 : Int) (a0_4 : Int) (a0_5 : Bool) (a0_6 : Bool) (a1_0 : Int) (a1_1 : Int) (a1_2 : Int) (a1_3 : Int) (a1_4 : Int) (a1_5 : Bool) (a1_6 : Bool) : Option (Int × Int × Int × Int × Int × Bool × Bool) := (span_valid.f k a0_0 a0_1 a0_2 a0_3 a0_4 a0_5 a0_6).bind fun bt390 => ((span_valid.f k a1_0 a1_1 a1_2 a1_3 a1_4 a1_5 a1_6).bind fun bt397 => (if bt390.2.2.2.2.2.1 = true then (span_Meet.j0 k bt397.2.2.2.2.2.1 bt390.1 bt390.2.1 bt390.2.2.1 bt390.2.2.2.1 bt390.2.2.2.2.1 bt390.2.2.2.2.2.1 bt390.2.2.2.2.2.2 bt397.1 bt397.2.1 bt397.2.2.1 bt397.2.2.2.1 bt397.2.2.2.2.1 bt397.2.2.2.2.2.1 bt397.2.2.2.2.2.2) else (span_Meet.j0 k false bt390.1 bt390.2.1 bt390.2.2.1 bt390.2.2.2.1 bt390.2.2.2.2.1 bt390.2.2.2.2.2.1 bt390.2.2.2.2.2.2 bt397.1 bt397.2.1 bt397.2.2.1 bt397.2.2.2.1 bt397.2.2.2.2.1 bt397.2.2.2.2.2.1 bt397.2.2.2.2.2.2)))
theorem span_Meet.mono_l : ∀ k, (∀ y0 y1 y2 y3 y4 y5 y6 y7 y8 y9 y10 y11 y12 y13 y14, LeO (span_Meet.j0 k y0 y1 y2 y3 y4 y5 y6 y7 y8 y9 y10 y11 y12 y13 y14) (span_Meet.j0 (k + 1) y0 y1 y2 y3 y4 y5 y6 y7 y8 y9 y10 y11 y12 y13 y14)) ∧ (∀ y0 y1 y2 y3 y4 y5 y6 y7 y8 y9 y10 y11 y12 y13 y14 y15, LeO (span_Meet.j1 k y0 y1 y2 y3 y4 y5 y6 y7 y8 y9 y10 y11 y12 y13 y14 y15) (span_Meet.j1 (k + 1) y0 y1 y2 y3 y4 y5 y6 y7 y8 y9 y10 y11 y12 y13 y14 y15)) ∧ (∀ y0 y1 y2 y3 y4 y5 y6 y7 y8 y9 y10 y11 y12 y13 y14 y15, LeO (span_Meet.j2 k y0 y1 y2 y3 y4 y5 y6 y7 y8 y9 y10 y11 y12 y13 y14 y15) (span_Meet.j2 (k + 1) y0 y1 y2 y3 y4 y5 y6 y7 y8 y9 y10 y11 y12 y13 y14 y15)) ∧ (∀ y0 y1 y2 y3 y4 y5 y6 y7 y8 y9 y10 y11 y12 y13 y14, LeO (span_Meet.j3 k y0 y1 y2 y3 y4 y5 y6 y7 y8 y9 y10 y11 y12 y13 y14) (span_Meet.j3 (k + 1) y0 y1 y2 y3 y4 y5 y6 y7 y8 y9 y10 y11 y12 y13 y14)) ∧ (∀ y0 y1 y2 y3 y4 y5 y6 y7 y8 y9 y10 y11 y12 y13 y14 y15, LeO (span_Meet.j4 k y0 y1 y2 y3 y4 y5 y6 y7 y8 y9 y10 y11 y12 y13 y14 y15) (span_Meet.j4 (k + 1) y0 y1 y2 y3 y4 y5 y6 y7 y8 y9 y10 y11 y12 y13 y14 y15)) ∧ (∀ y0 y1 y2 y3 y4 y5 y6 y7, LeO (span_Meet.j5 k y0 y1 y2 y3 y4 y5 y6 y7) (span_Meet.j5 (k + 1) y0 y1 y2 y3 y4 y5 y6 y7))
 | 0 => ⟨fun _ _ _ _ _ _ _ _ _ _ _ _ _ _ _ r h => by simp [span_Meet.j0] at h, fun _ _ _ _ _ _ _ _ _ _ _ _ _ _ _ _ r h => by simp [span_Meet.j1] at h, fun _ _ _ _ _ _ _ _ _ _ _ _ _ _ _ _ r h => by simp [span_Meet.j2] at h, fun _ _ _ _ _ _ _ _ _ _ _ _ _ _ _ r h => by simp [span_Meet.j3] at h, fun _ _ _ _ _ _ _ _ _ _ _ _ _ _ _ _ r h => by simp [span_Meet.j4] at h, fun _ _ _ _ _ _ _ _ r h => by simp [span_Meet.j5] at h⟩
 | k + 1 => by
  obtain ⟨ih0, ih1, ih2, ih3, ih4, ih5⟩ := span_Meet.mono_l k
  refine ⟨?_, ?_, ?_, ?_, ?_, ?_⟩
  ·
   intro y0 y1 y2 y3 y4 y5 y6 y7 y8 y9 y10 y11 y12 y13 y14
   unfold span_Meet.j0
   repeat' first
   | (with_reducible exact ih0 _ _ _ _ _ _ _ _ _ _ _ _ _ _ _)
   | (with_reducible exact ih1 _ _ _ _ _ _ _ _ _ _ _ _ _ _ _ _)
   | (with_reducible exact ih2 _ _ _ _ _ _ _ _ _ _ _ _ _ _ _ _)
   | (with_reducible exact ih3 _ _ _ _ _ _ _ _ _ _ _ _ _ _ _)
   | (with_reducible exact ih4 _ _ _ _ _ _ _ _ _ _ _ _ _ _ _ _)
   | (with_reducible exact ih5 _ _ _ _ _ _ _ _)
   | (with_reducible exact ratio_Cmp.mono _ _ _ _ _)
   | (with_reducible exact ratio_Is.mono _ _ _)
   | (with_reducible exact span_divisor.mono _ _ _)
   | (with_reducible exact span_valid.mono _ _ _ _ _ _ _ _)
   | (with_reducible exact LeO.refl _)
   | (with_reducible exact LeO.none _)
   | (with_reducible refine LeO.ite ?_ ?_)
   | (with_reducible refine LeO.bind ?_ (fun _ => ?_))
   | exact ih0 _ _ _ _ _ _ _ _ _ _ _ _ _ _ _
   | exact ih1 _ _ _ _ _ _ _ _ _ _ _ _ _ _ _ _
   | exact ih2 _ _ _ _ _ _ _ _ _ _ _ _ _ _ _ _
   | exact ih3 _ _ _ _ _ _ _ _ _ _ _ _ _ _ _
   | exact ih4 _ _ _ _ _ _ _ _ _ _ _ _ _ _ _ _
   | exact ih5 _ _ _ _ _ _ _ _
   | exact ratio_Cmp.mono _ _ _ _ _
   | exact ratio_Is.mono _ _ _
   | exact span_divisor.mono _ _ _
   | exact span_valid.mono _ _ _ _ _ _ _ _
   | exact LeO.none _
   | refine LeO.ite ?_ ?_
   | refine LeO.bind ?_ (fun _ => ?_)
  ·
   intro y0 y1 y2 y3 y4 y5 y6 y7 y8 y9 y10 y11 y12 y13 y14 y15
   unfold span_Meet.j1
   repeat' first
   | (with_reducible exact ih0 _ _ _ _ _ _ _ _ _ _ _ _ _ _ _)
   | (with_reducible exact ih1 _ _ _ _ _ _ _ _ _ _ _ _ _ _ _ _)
   | (with_reducible exact ih2 _ _ _ _ _ _ _ _ _ _ _ _ _ _ _ _)
   | (with_reducible exact ih3 _ _ _ _ _ _ _ _ _ _ _ _ _ _ _)
   | (with_reducible exact ih4 _ _ _ _ _ _ _ _ _ _ _ _ _ _ _ _)
   | (with_reducible exact ih5 _ _ _ _ _ _ _ _)
   | (with_reducible exact ratio_Cmp.mono _ _ _ _ _)
   | (with_reducible exact ratio_Is.mono _ _ _)
   | (with_reducible exact span_divisor.mono _ _ _)
   | (with_reducible exact span_valid.mono _ _ _ _ _ _ _ _)
   | (with_reducible exact LeO.refl _)
   | (with_reducible exact LeO.none _)
   | (with_reducible refine LeO.ite ?_ ?_)
   | (with_reducible refine LeO.bind ?_ (fun _ => ?_))
   | exact ih0 _ _ _ _ _ _ _ _ _ _ _ _ _ _ _
   | exact ih1 _ _ _ _ _ _ _ _ _ _ _ _ _ _ _ _
   | exact ih2 _ _ _ _ _ _ _ _ _ _ _ _ _ _ _ _
   | exact ih3 _ _ _ _ _ _ _ _ _ _ _ _ _ _ _
   | exact ih4 _ _ _ _ _ _ _ _ _ _ _ _ _ _ _ _
   | exact ih5 _ _ _ _ _ _ _ _
   | exact ratio_Cmp.mono _ _ _ _ _
   | exact ratio_Is.mono _ _ _
   | exact span_divisor.mono _ _ _
   | exact span_valid.mono _ _ _ _ _ _ _ _
   | exact LeO.none _
   | refine LeO.ite ?_ ?_
   | refine LeO.bind ?_ (fun _ => ?_)
  ·
   intro y0 y1 y2 y3 y4 y5 y6 y7 y8 y9 y10 y11 y12 y13 y14 y15
   unfold span_Meet.j2
   repeat' first
   | (with_reducible exact ih0 _ _ _ _ _ _ _ _ _ _ _ _ _ _ _)
   | (with_reducible exact ih1 _ _ _ _ _ _ _ _ _ _ _ _ _ _ _ _)
   | (with_reducible exact ih2 _ _ _ _ _ _ _ _ _ _ _ _ _ _ _ _)
   | (with_reducible exact ih3 _ _ _ _ _ _ _ _ _ _ _ _ _ _ _)
   | (with_reducible exact ih4 _ _ _ _ _ _ _ _ _ _ _ _ _ _ _ _)
   | (with_reducible exact ih5 _ _ _ _ _ _ _ _)
   | (with_reducible exact ratio_Cmp.mono _ _ _ _ _)
   | (with_reducible exact ratio_Is.mono _ _ _)
   | (with_reducible exact span_divisor.mono _ _ _)
   | (with_reducible exact span_valid.mono _ _ _ _ _ _ _ _)
   | (with_reducible exact LeO.refl _)
   | (with_reducible exact LeO.none _)
   | (with_reducible refine LeO.ite ?_ ?_)
   | (with_reducible refine LeO.bind ?_ (fun _ => ?_))
   | exact ih0 _ _ _ _ _ _ _ _ _ _ _ _ _ _ _
   | exact ih1 _ _ _ _ _ _ _ _ _ _ _ _ _ _ _ _
   | exact ih2 _ _ _ _ _ _ _ _ _ _ _ _ _ _ _ _
   | exact ih3 _ _ _ _ _ _ _ _ _ _ _ _ _ _ _
   | exact ih4 _ _ _ _ _ _ _ _ _ _ _ _ _ _ _ _
   | exact ih5 _ _ _ _ _ _ _ _
   | exact ratio_Cmp.mono _ _ _ _ _
   | exact ratio_Is.mono _ _ _
   | exact span_divisor.mono _ _ _
   | exact span_valid.mono _ _ _ _ _ _ _ _
   | exact LeO.none _
   | refine LeO.ite ?_ ?_
   | refine LeO.bind ?_ (fun _ => ?_)
  ·
   intro y0 y1 y2 y3 y4 y5 y6 y7 y8 y9 y10 y11 y12 y13 y14
   unfold span_Meet.j3
   repeat' first
   | (with_reducible exact ih0 _ _ _ _ _ _ _ _ _ _ _ _ _ _ _)
   | (with_reducible exact ih1 _ _ _ _ _ _ _ _ _ _ _ _ _ _ _ _)
   | (with_reducible exact ih2 _ _ _ _ _ _ _ _ _ _ _ _ _ _ _ _)
   | (with_reducible exact ih3 _ _ _ _ _ _ _ _ _ _ _ _ _ _ _)
   | (with_reducible exact ih4 _ _ _ _ _ _ _ _ _ _ _ _ _ _ _ _)
   | (with_reducible exact ih5 _ _ _ _ _ _ _ _)
   | (with_reducible exact ratio_Cmp.mono _ _ _ _ _)
   | (with_reducible exact ratio_Is.mono _ _ _)
   | (with_reducible exact span_divisor.mono _ _ _)
   | (with_reducible exact span_valid.mono _ _ _ _ _ _ _ _)
   | (with_reducible exact LeO.refl _)
   | (with_reducible exact LeO.none _)
   | (with_reducible refine LeO.ite ?_ ?_)
   | (with_reducible refine LeO.bind ?_ (fun _ => ?_))
   | exact ih0 _ _ _ _ _ _ _ _ _ _ _ _ _ _ _
   | exact ih1 _ _ _ _ _ _ _ _ _ _ _ _ _ _ _ _
   | exact ih2 _ _ _ _ _ _ _ _ _ _ _ _ _ _ _ _
   | exact ih3 _ _ _ _ _ _ _ _ _ _ _ _ _ _ _
   | exact ih4 _ _ _ _ _ _ _ _ _ _ _ _ _ _ _ _
   | exact ih5 _ _ _ _ _ _ _ _
   | exact ratio_Cmp.mono _ _ _ _ _
   | exact ratio_Is.mono _ _ _
   | exact span_divisor.mono _ _ _
   | exact span_valid.mono _ _ _ _ _ _ _ _
   | exact LeO.none _
   | refine LeO.ite ?_ ?_
   | refine LeO.bind ?_ (fun _ => ?_)
  ·
   intro y0 y1 y2 y3 y4 y5 y6 y7 y8 y9 y10 y11 y12 y13 y14 y15
   unfold span_Meet.j4
   repeat' first
   | (with_reducible exact ih0 _ _ _ _ _ _ _ _ _ _ _ _ _ _ _)
   | (with_reducible exact ih1 _ _ _ _ _ _ _ _ _ _ _ _ _ _ _ _)
   | (with_reducible exact ih2 _ _ _ _ _ _ _ _ _ _ _ _ _ _ _ _)
   | (with_reducible exact ih3 _ _ _ _ _ _ _ _ _ _ _ _ _ _ _)
   | (with_reducible exact ih4 _ _ _ _ _ _ _ _ _ _ _ _ _ _ _ _)
   | (with_reducible exact ih5 _ _ _ _ _ _ _ _)
   | (with_reducible exact ratio_Cmp.mono _ _ _ _ _)
   | (with_reducible exact ratio_Is.mono _ _ _)
   | (with_reducible exact span_divisor.mono _ _ _)
   | (with_reducible exact span_valid.mono _ _ _ _ _ _ _ _)
   | (with_reducible exact LeO.refl _)
   | (with_reducible exact LeO.none _)
   | (with_reducible refine LeO.ite ?_ ?_)
   | (with_reducible refine LeO.bind ?_ (fun _ => ?_))
   | exact ih0 _ _ _ _ _ _ _ _ _ _ _ _ _ _ _
   | exact ih1 _ _ _ _ _ _ _ _ _ _ _ _ _ _ _ _
   | exact ih2 _ _ _ _ _ _ _ _ _ _ _ _ _ _ _ _
   | exact ih3 _ _ _ _ _ _ _ _ _ _ _ _ _ _ _
   | exact ih4 _ _ _ _ _ _ _ _ _ _ _ _ _ _ _ _
   | exact ih5 _ _ _ _ _ _ _ _
   | exact ratio_Cmp.mono _ _ _ _ _
   | exact ratio_Is.mono _ _ _
   | exact span_divisor.mono _ _ _
   | exact span_valid.mono _ _ _ _ _ _ _ _
   | exact LeO.none _
   | refine LeO.ite ?_ ?_
   | refine LeO.bind ?_ (fun _ => ?_)
  ·
   intro y0 y1 y2 y3 y4 y5 y6 y7
   unfold span_Meet.j5
   repeat' first
   | (with_reducible exact ih0 _ _ _ _ _ _ _ _ _ _ _ _ _ _ _)
   | (with_reducible exact ih1 _ _ _ _ _ _ _ _ _ _ _ _ _ _ _ _)
   | (with_reducible exact ih2 _ _ _ _ _ _ _ _ _ _ _ _ _ _ _ _)
   | (with_reducible exact ih3 _ _ _ _ _ _ _ _ _ _ _ _ _ _ _)
   | (with_reducible exact ih4 _ _ _ _ _ _ _ _ _ _ _ _ _ _ _ _)
   | (with_reducible exact ih5 _ _ _ _ _ _ _ _)
   | (with_reducible exact ratio_Cmp.mono _ _ _ _ _)
   | (with_reducible exact ratio_Is.mono _ _ _)
   | (with_reducible exact span_divisor.mono _ _ _)
   | (with_reducible exact span_valid.mono _ _ _ _ _ _ _ _)
   | (with_reducible exact LeO.refl _)
   | (with_reducible exact LeO.none _)
   | (with_reducible refine LeO.ite ?_ ?_)
   | (with_reducible refine LeO.bind ?_ (fun _ => ?_))
   | exact ih0 _ _ _ _ _ _ _ _ _ _ _ _ _ _ _
   | exact ih1 _ _ _ _ _ _ _ _ _ _ _ _ _ _ _ _
   | exact ih2 _ _ _ _ _ _ _ _ _ _ _ _ _ _ _ _
   | exact ih3 _ _ _ _ _ _ _ _ _ _ _ _ _ _ _
   | exact ih4 _ _ _ _ _ _ _ _ _ _ _ _ _ _ _ _
   | exact ih5 _ _ _ _ _ _ _ _
   | exact ratio_Cmp.mono _ _ _ _ _
   | exact ratio_Is.mono _ _ _
   | exact span_divisor.mono _ _ _
   | exact span_valid.mono _ _ _ _ _ _ _ _
   | exact LeO.none _
   | refine LeO.ite ?_ ?_
   | refine LeO.bind ?_ (fun _ => ?_)
theorem span_Meet.mono : ∀ a0 a1 a2 a3 a4 a5 a6 a7 a8 a9 a10 a11 a12 a13 k, LeO (span_Meet.f k a0 a1 a2 a3 a4 a5 a6 a7 a8 a9 a10 a11 a12 a13) (span_Meet.f (k + 1) a0 a1 a2 a3 a4 a5 a6 a7 a8 a9 a10 a11 a12 a13) := by
 intro a0 a1 a2 a3 a4 a5 a6 a7 a8 a9 a10 a11 a12 a13 k
 obtain ⟨ih0, ih1, ih2, ih3, ih4, ih5⟩ := span_Meet.mono_l k
 unfold span_Meet.f
 repeat' first
   | (with_reducible exact ih0 _ _ _ _ _ _ _ _ _ _ _ _ _ _ _)
   | (with_reducible exact ih1 _ _ _ _ _ _ _ _ _ _ _ _ _ _ _ _)
   | (with_reducible exact ih2 _ _ _ _ _ _ _ _ _ _ _ _ _ _ _ _)
   | (with_reducible exact ih3 _ _ _ _ _ _ _ _ _ _ _ _ _ _ _)
   | (with_reducible exact ih4 _ _ _ _ _ _ _ _ _ _ _ _ _ _ _ _)
   | (with_reducible exact ih5 _ _ _ _ _ _ _ _)
   | (with_reducible exact ratio_Cmp.mono _ _ _ _ _)
   | (with_reducible exact ratio_Is.mono _ _ _)
   | (with_reducible exact span_divisor.mono _ _ _)
   | (with_reducible exact span_valid.mono _ _ _ _ _ _ _ _)
   | (with_reducible exact LeO.refl _)
   | (with_reducible exact LeO.none _)
   | (with_reducible refine LeO.ite ?_ ?_)
   | (with_reducible refine LeO.bind ?_ (fun _ => ?_))
   | exact ih0 _ _ _ _ _ _ _ _ _ _ _ _ _ _ _
   | exact ih1 _ _ _ _ _ _ _ _ _ _ _ _ _ _ _ _
   | exact ih2 _ _ _ _ _ _ _ _ _ _ _ _ _ _ _ _
   | exact ih3 _ _ _ _ _ _ _ _ _ _ _ _ _ _ _
   | exact ih4 _ _ _ _ _ _ _ _ _ _ _ _ _ _ _ _
   | exact ih5 _ _ _ _ _ _ _ _
   | exact ratio_Cmp.mono _ _ _ _ _
   | exact ratio_Is.mono _ _ _
   | exact span_divisor.mono _ _ _
   | exact span_valid.mono _ _ _ _ _ _ _ _
   | exact LeO.none _
   | refine LeO.ite ?_ ?_
   | refine LeO.bind ?_ (fun _ => ?_)
def span_Meet.T5 : Bool × List (List Nat × List Nat) := (true, [([], []), ([0], [0]), ([], []), ([2], [2]), ([], []), ([4], [4]), ([], []), ([6], [6]), ([5, 7], [5, 7]), ([], []), ([1, 3, 8, 9], [1, 3, 8, 9]), ([], []), ([11, 10, 8, 0, 1, 2, 3, 4, 5, 6, 7, 8, 9, 10, 11], [10, 11])])
def span_Meet.B5 : List Nat := [0, 1, 0, 4, 0, 16, 0, 64, 240, 0, 1023, 0, 4095]
theorem span_Meet.tab5 : rtab .any (opsOf Tryz.f14 5) = span_Meet.T5 := by kernel_rfl
theorem span_Meet.bits5 : waitsOk span_Meet.T5.2 span_Meet.B5 = true := by kernel_rfl
end Go.Proofs.YtlibjgmnookakaaGreatDoor.SSpanSays
namespace Go.Proofs.YtlibjgmnookakaaGreatDoor.SSpanSays
open Go.RowKit Go.Proofs.YtlibjgmnookakaaGreatDoor.Wd.PrintWords Go.Proofs.YtlibjgmnookakaaGreatDoor.Wd.PrintLast Go.Proofs.YtlibjgmnookakaaGreatDoor.Wd.PrintMore
attribute [local go_sem] max2_int min2_int max_two min_two max_three min_three max_four min_four
attribute [local go_sem] max2_int min2_int max_two min_two max_three min_three max_four min_four
attribute [local go_sem] max2_int min2_int max_two min_two max_three min_three max_four min_four
attribute [local go_sem high] eqA23
attribute [local go_sem high] eqA25
set_option maxHeartbeats 8000000 in
set_option maxRecDepth 100000 in
theorem span_Meet.calls (k : Nat) (a0_0 : Int) (a0_1 : Int) (a0_2 : Int) (a0_3 : Int) (a0_4 : Int) (a0_5 : Bool) (a0_6 : Bool) (a1_0 : Int) (a1_1 : Int) (a1_2 : Int) (a1_3 : Int) (a1_4 : Int) (a1_5 : Bool) (a1_6 : Bool) (r1 : Int) (r2 : Int) (r3 : Int) (r4 : Int) (r5 : Int) (r6 : Bool) (r7 : Bool) (w : World) (h : span_Meet.f k a0_0 a0_1 a0_2 a0_3 a0_4 a0_5 a0_6 a1_0 a1_1 a1_2 a1_3 a1_4 a1_5 a1_6 = some (r1, r2, r3, r4, r5, r6, r7)) :
  Calls Tryz.prog 14 #[.agg #[.int .i64 a0_0, .int .i64 a0_1, .int .i64 a0_2, .int .i64 a0_3, .int .i64 a0_4, .bool a0_5, .bool a0_6], .agg #[.int .i64 a1_0, .int .i64 a1_1, .int .i64 a1_2, .int .i64 a1_3, .int .i64 a1_4, .bool a1_5, .bool a1_6]] w fun e w' => e = .returned (.agg #[.int .i64 r1, .int .i64 r2, .int .i64 r3, .int .i64 r4, .int .i64 r5, .bool r6, .bool r7]) ∧ Below w.heap.size w w' := by
 have hu25 := Tryz.underlying25; have hu23 := Tryz.underlying23; have HB := Aside0.mk (Below.refl w.heap.size w); have H : ((span_valid.f k a0_0 a0_1 a0_2 a0_3 a0_4 a0_5 a0_6).bind fun bt390 => ((span_valid.f k a1_0 a1_1 a1_2 a1_3 a1_4 a1_5 a1_6).bind fun bt397 => (if bt390.2.2.2.2.2.1 = true then (span_Meet.j0 k bt397.2.2.2.2.2.1 bt390.1 bt390.2.1 bt390.2.2.1 bt390.2.2.2.1 bt390.2.2.2.2.1 bt390.2.2.2.2.2.1 bt390.2.2.2.2.2.2 bt397.1 bt397.2.1 bt397.2.2.1 bt397.2.2.2.1 bt397.2.2.2.2.1 bt397.2.2.2.2.2.1 bt397.2.2.2.2.2.2) else (span_Meet.j0 k false bt390.1 bt390.2.1 bt390.2.2.1 bt390.2.2.2.1 bt390.2.2.2.2.1 bt390.2.2.2.2.2.1 bt390.2.2.2.2.2.2 bt397.1 bt397.2.1 bt397.2.2.1 bt397.2.2.2.1 bt397.2.2.2.2.1 bt397.2.2.2.2.2.1 bt397.2.2.2.2.2.2)))) = some (r1, r2, r3, r4, r5, r6, r7) := h; clear h; replace H := Option.bind_eq_some_iff.mp H; obtain ⟨⟨t390, t391, t392, t393, t394, t395, t396⟩, A30, H⟩ := H; (try dsimp only at H); have A3 := Aside0.mk A30; clear A30; replace H := Option.bind_eq_some_iff.mp H; obtain ⟨⟨t397, t398, t399, t400, t401, t402, t403⟩, A40, H⟩ := H; (try dsimp only at H); have A4 := Aside0.mk A40; clear A40; have HC5 := Aside0.mk H; clear H; go_enter Tryz.func14, Tryz.ntmps14; (try go_wp2_with (first | ((with_reducible refine gate_dst (N := 2) rfl ?_); refine bx_ 2 #[.int .i64 a0_0, .int .i64 a0_1, .int .i64 a0_2, .int .i64 a0_3, .int .i64 a0_4, .bool a0_5, .bool a0_6] 25 ?_; intro gb387 hg w6 BK387 hb; have GE387 := hz_ hg HB; replace HB := hs HB hb; clear hb hg) | ((with_reducible refine gate_dst (N := 3) rfl ?_); refine bx_ 3 #[.int .i64 a1_0, .int .i64 a1_1, .int .i64 a1_2, .int .i64 a1_3, .int .i64 a1_4, .bool a1_5, .bool a1_6] 25 ?_; intro gb388 hg w7 BK388 hb; have GE388 := ge_ w hg; have NB387_388 := nlk hg BK387; have NB388_387 := ngk hg BK387; replace BK387 := kb BK387 hb; replace HB := hb_ w hb; clear hb hg) | ((with_reducible refine gate_dst (N := 4) rfl ?_); refine bx_ 4 #[.int .i64 0, .int .i64 0, .int .i64 0, .int .i64 0, .int .i64 0, .bool false, .bool false] 25 ?_; intro gb389 hg w8 BK389 hb; have GE389 := ge_ w hg; have NB387_389 := nlk hg BK387; have NB389_387 := ngk hg BK387; have NB388_389 := nlk hg BK388; have NB389_388 := ngk hg BK388; replace BK387 := kb BK387 hb; replace BK388 := kb BK388 hb; replace HB := hb_ w hb; clear hb hg))); replace BK387 := kd BK387; replace BK388 := kd BK388; replace BK389 := kd BK389; replace HB := Aside0.mk (below_drew1 HB.out); refine start_ (n := 6) (S := fun w' => w'.cell? ⟨gb387, 0, none⟩ = some (.int .i64 a0_0) ∧ w'.cell? ⟨gb387, 1, none⟩ = some (.int .i64 a0_1) ∧ w'.cell? ⟨gb387, 2, none⟩ = some (.int .i64 a0_2) ∧ w'.cell? ⟨gb387, 3, none⟩ = some (.int .i64 a0_3) ∧ w'.cell? ⟨gb387, 4, none⟩ = some (.int .i64 a0_4) ∧ w'.cell? ⟨gb387, 5, none⟩ = some (.bool a0_5) ∧ w'.cell? ⟨gb387, 6, none⟩ = some (.bool a0_6) ∧ w'.cell? ⟨gb388, 0, none⟩ = some (.int .i64 a1_0) ∧ w'.cell? ⟨gb388, 1, none⟩ = some (.int .i64 a1_1) ∧ w'.cell? ⟨gb388, 2, none⟩ = some (.int .i64 a1_2) ∧ w'.cell? ⟨gb388, 3, none⟩ = some (.int .i64 a1_3) ∧ w'.cell? ⟨gb388, 4, none⟩ = some (.int .i64 a1_4) ∧ w'.cell? ⟨gb388, 5, none⟩ = some (.bool a1_5) ∧ w'.cell? ⟨gb388, 6, none⟩ = some (.bool a1_6)) (ds := [4, 5]) (bA 6 0) (by kernel_rfl) rfl rfl ⟨(blk_cell BK387.out 0).trans rfl, (blk_cell BK387.out 1).trans rfl, (blk_cell BK387.out 2).trans rfl, (blk_cell BK387.out 3).trans rfl, (blk_cell BK387.out 4).trans rfl, (blk_cell BK387.out 5).trans rfl, (blk_cell BK387.out 6).trans rfl, (blk_cell BK388.out 0).trans rfl, (blk_cell BK388.out 1).trans rfl, (blk_cell BK388.out 2).trans rfl, (blk_cell BK388.out 3).trans rfl, (blk_cell BK388.out 4).trans rfl, (blk_cell BK388.out 5).trans rfl, (blk_cell BK388.out 6).trans rfl⟩ (fun hHeld => ?_); generalize w8.drew = w9 at BK387 BK388 BK389 HB hHeld ⊢; have hH0 := hHeld; have HBW := hbw w9; refine take_ (i := 0) (N := some 7) (v := ?_) (a' := ?_) (bA 6 1) rfl rfl (by kernel_rfl) (fun _ _ _ h => h) (Or.inl ⟨by rfl, ?_⟩) hHeld ?_ ?_; rotate_left
 · rintro w' ⟨s0, s1, s2, s3, s4, s5, s6, s7, s8, s9, s10, s11, s12, s13⟩; go_simp; with_reducible rfl
 rotate_left
 · simp only [ap]; rfl
 refine take_ (i := 2) (N := some 9) (v := ?_) (a' := ?_) (bA 6 5) rfl rfl (by kernel_rfl) (fun _ _ _ h => h) (Or.inl ⟨by rfl, ?_⟩) hHeld ?_ ?_; rotate_left
 · rintro w' ⟨s0, s1, s2, s3, s4, s5, s6, s7, s8, s9, s10, s11, s12, s13⟩; go_simp; with_reducible rfl
 rotate_left
 · simp only [ap]; rfl
 refine one_ (i := 1) (N := some 8) (bA 6 7) rfl rfl (by kernel_rfl) (by decide) (fun K hK => ?_); refine goes_ Tryz.func30 (by kernel_rfl) rfl #[.agg #[.int .i64 a0_0, .int .i64 a0_1, .int .i64 a0_2, .int .i64 a0_3, .int .i64 a0_4, .bool a0_5, .bool a0_6]] (by rfl) rfl rfl (by (try simp only [mp]); first | done | rfl | (simp only [ld]; rfl)) ?_; (with_reducible refine (span_valid.calls k a0_0 a0_1 a0_2 a0_3 a0_4 a0_5 a0_6 t390 t391 t392 t393 t394 t395 t396 _ A3.out).mono ?_); rintro e w10 ⟨rfl, hb⟩; refine ⟨_, rfl, ?_⟩; replace HBW := hs HBW hb; clear hb; refine hK.out _ _ (hc8 HBW.out (hs6 HBW.out) hH0) (fun hHeld => ?_); clear hK K; refine norm_ (a' := ?_) ?_ ?_; rotate_left
 · (show Act.put _ (some 8) _ = _); simp only [ap]; rfl
 refine one_ (i := 3) (N := some 10) (bA 6 15) rfl rfl (by kernel_rfl) (by decide) (fun K hK => ?_); refine goes_ Tryz.func30 (by kernel_rfl) rfl #[.agg #[.int .i64 a1_0, .int .i64 a1_1, .int .i64 a1_2, .int .i64 a1_3, .int .i64 a1_4, .bool a1_5, .bool a1_6]] (by rfl) rfl rfl (by (try simp only [mp]); first | done | rfl | (simp only [ld]; rfl)) ?_; (with_reducible refine (span_valid.calls k a1_0 a1_1 a1_2 a1_3 a1_4 a1_5 a1_6 t397 t398 t399 t400 t401 t402 t403 _ A4.out).mono ?_); rintro e w11 ⟨rfl, hb⟩; refine ⟨_, rfl, ?_⟩; replace HBW := hs HBW hb; clear hb; refine hK.out _ _ (hc8 HBW.out (hs6 HBW.out) hH0) (fun hHeld => ?_); clear hK K; refine norm_ (a' := ?_) ?_ ?_; rotate_left
 · (show Act.put _ (some 10) _ = _); simp only [ap]; rfl
 replace BK387 := kb BK387 HBW.out; replace BK388 := kb BK388 HBW.out; replace BK389 := kb BK389 HBW.out; replace HB := hs HB HBW.out; refine last_ (i := 4) (N := none) (bA 6 31) rfl rfl (by kernel_rfl) (by decide) (fun K hK => ?_); have hs12 : w11.cell? ⟨gb387, 0, none⟩ = some (.int .i64 a0_0) := (blk_cell BK387.out 0).trans rfl; have hfs12 := blk_frozen BK387.out 0; have hns12_1 := NB388_387.out; have hns12_2 := NB389_387.out; have hms12_1 := NB387_388.out; have hms12_2 := NB387_389.out; have hs13 : w11.cell? ⟨gb387, 1, none⟩ = some (.int .i64 a0_1) := (blk_cell BK387.out 1).trans rfl; have hfs13 := blk_frozen BK387.out 1; have hns13_1 := NB388_387.out; have hns13_2 := NB389_387.out; have hms13_1 := NB387_388.out; have hms13_2 := NB387_389.out; have hs14 : w11.cell? ⟨gb387, 2, none⟩ = some (.int .i64 a0_2) := (blk_cell BK387.out 2).trans rfl; have hfs14 := blk_frozen BK387.out 2; have hns14_1 := NB388_387.out; have hns14_2 := NB389_387.out; have hms14_1 := NB387_388.out; have hms14_2 := NB387_389.out; have hs15 : w11.cell? ⟨gb387, 3, none⟩ = some (.int .i64 a0_3) := (blk_cell BK387.out 3).trans rfl; have hfs15 := blk_frozen BK387.out 3; have hns15_1 := NB388_387.out; have hns15_2 := NB389_387.out; have hms15_1 := NB387_388.out; have hms15_2 := NB387_389.out; have hs16 : w11.cell? ⟨gb387, 4, none⟩ = some (.int .i64 a0_4) := (blk_cell BK387.out 4).trans rfl; have hfs16 := blk_frozen BK387.out 4; have hns16_1 := NB388_387.out; have hns16_2 := NB389_387.out; have hms16_1 := NB387_388.out; have hms16_2 := NB387_389.out; have hs17 : w11.cell? ⟨gb387, 5, none⟩ = some (.bool a0_5) := (blk_cell BK387.out 5).trans rfl; have hfs17 := blk_frozen BK387.out 5; have hns17_1 := NB388_387.out; have hns17_2 := NB389_387.out; have hms17_1 := NB387_388.out; have hms17_2 := NB387_389.out; have hs18 : w11.cell? ⟨gb387, 6, none⟩ = some (.bool a0_6) := (blk_cell BK387.out 6).trans rfl; have hfs18 := blk_frozen BK387.out 6; have hns18_1 := NB388_387.out; have hns18_2 := NB389_387.out; have hms18_1 := NB387_388.out; have hms18_2 := NB387_389.out; refine skip_ (w1 := ?_) (by rfl) rfl ?_ ?_; rotate_left
 · go_simp; rfl
 refine hK.out _ _ ?_; clear hK K; generalize hwz : World.setCell _ _ _ = wz; have BZ388 := Aside0.mk (hwz ▸ bfz7 BK388.out NB388_387.out); refine last_ (i := 5) (N := none) (bA 6 63) rfl rfl (by kernel_rfl) (by decide) (fun K hK => ?_); have hs19 : wz.cell? ⟨gb388, 0, none⟩ = some (.int .i64 a1_0) := (blk_cell BZ388.out 0).trans rfl; have hfs19 := blk_frozen BZ388.out 0; have hns19_0 := NB387_388.out; have hns19_2 := NB389_388.out; have hms19_0 := NB388_387.out; have hms19_2 := NB388_389.out; have hs20 : wz.cell? ⟨gb388, 1, none⟩ = some (.int .i64 a1_1) := (blk_cell BZ388.out 1).trans rfl; have hfs20 := blk_frozen BZ388.out 1; have hns20_0 := NB387_388.out; have hns20_2 := NB389_388.out; have hms20_0 := NB388_387.out; have hms20_2 := NB388_389.out; have hs21 : wz.cell? ⟨gb388, 2, none⟩ = some (.int .i64 a1_2) := (blk_cell BZ388.out 2).trans rfl; have hfs21 := blk_frozen BZ388.out 2; have hns21_0 := NB387_388.out; have hns21_2 := NB389_388.out; have hms21_0 := NB388_387.out; have hms21_2 := NB388_389.out; have hs22 : wz.cell? ⟨gb388, 3, none⟩ = some (.int .i64 a1_3) := (blk_cell BZ388.out 3).trans rfl; have hfs22 := blk_frozen BZ388.out 3; have hns22_0 := NB387_388.out; have hns22_2 := NB389_388.out; have hms22_0 := NB388_387.out; have hms22_2 := NB388_389.out; have hs23 : wz.cell? ⟨gb388, 4, none⟩ = some (.int .i64 a1_4) := (blk_cell BZ388.out 4).trans rfl; have hfs23 := blk_frozen BZ388.out 4; have hns23_0 := NB387_388.out; have hns23_2 := NB389_388.out; have hms23_0 := NB388_387.out; have hms23_2 := NB388_389.out; have hs24 : wz.cell? ⟨gb388, 5, none⟩ = some (.bool a1_5) := (blk_cell BZ388.out 5).trans rfl; have hfs24 := blk_frozen BZ388.out 5; have hns24_0 := NB387_388.out; have hns24_2 := NB389_388.out; have hms24_0 := NB388_387.out; have hms24_2 := NB388_389.out; have hs25 : wz.cell? ⟨gb388, 6, none⟩ = some (.bool a1_6) := (blk_cell BZ388.out 6).trans rfl; have hfs25 := blk_frozen BZ388.out 6; have hns25_0 := NB387_388.out; have hns25_2 := NB389_388.out; have hms25_0 := NB388_387.out; have hms25_2 := NB388_389.out; refine skip_ (w1 := ?_) (by rfl) rfl ?_ ?_; rotate_left
 · go_simp; rfl
 refine hK.out _ _ ?_; clear hK K; subst hwz; refine done_ (by kernel_rfl) ?_; clear HBW hH0; go_upto_region 2 with (fail)
 go_cut [5] (fun v5 wc => ∃ (kq : Nat) (x5_4 : Bool), v5 = .bool x5_4 ∧ Aside0 (span_Meet.j0 kq x5_4 t390 t391 t392 t393 t394 t395 t396 t397 t398 t399 t400 t401 t402 t403 = some (r1, r2, r3, r4, r5, r6, r7)) ∧ Aside0 (kq ≤ k) ∧ Aside0 (wc.heap[gb387]? = some (.cells #[.int .i64 t390, .int .i64 t391, .int .i64 t392, .int .i64 t393, .int .i64 t394, .bool t395, .bool t396] 25 (0, 0))) ∧ Aside0 (wc.heap[gb388]? = some (.cells #[.int .i64 t397, .int .i64 t398, .int .i64 t399, .int .i64 t400, .int .i64 t401, .bool t402, .bool t403] 25 (0, 0))) ∧ Aside0 (wc.heap[gb389]? = some (.cells #[.int .i64 0, .int .i64 0, .int .i64 0, .int .i64 0, .int .i64 0, .bool false, .bool false] 25 (0, 0))) ∧ Aside0 (Below w.heap.size w wc))
 case first =>
  have H := HC5.out; clear HC5; by_cases c26 : t395 = true
  ·
   subst c26; rw [if_pos rfl] at H; have H' := Aside0.mk H; clear H; have hnb27 := NB387_388.out; have hnc27 := NB388_387.out; have hnb28 := NB387_389.out; have hnc28 := NB389_387.out; obtain ⟨hcz29_0, hcz29_1, hcz29_2, hcz29_3, hcz29_4, hcz29_5, hcz29_6⟩ := bc7 BK387.out; obtain ⟨hfz29_0, hfz29_1, hfz29_2, hfz29_3, hfz29_4, hfz29_5, hfz29_6⟩ := bf7 BK387.out; have hnb30 := NB388_389.out; have hnc30 := NB389_388.out; obtain ⟨hcz31_0, hcz31_1, hcz31_2, hcz31_3, hcz31_4, hcz31_5, hcz31_6⟩ := bc7 BK388.out; obtain ⟨hfz31_0, hfz31_1, hfz31_2, hfz31_3, hfz31_4, hfz31_5, hfz31_6⟩ := bf7 BK388.out; go_wp2; go_meet
   case rel => exact ⟨_, (t402), (by first | rfl | (simp; done) | (simp [*]; done)), H', ⟨by first | omega | exact Nat.le_refl _⟩, ⟨by (iterate 7 refine f1 NB387_388 ?_); exact rq BK387.out (by rfl)⟩, ⟨by refine bk ?_; refine blk_put (cs := #[.int .i64 t397, .int .i64 t398, .int .i64 t399, .int .i64 t400, .int .i64 t401, .bool t402, .bool a1_6]) ?_ 6 _ rfl; refine bk ?_; refine blk_put (cs := #[.int .i64 t397, .int .i64 t398, .int .i64 t399, .int .i64 t400, .int .i64 t401, .bool a1_5, .bool a1_6]) ?_ 5 _ rfl; refine bk ?_; refine blk_put (cs := #[.int .i64 t397, .int .i64 t398, .int .i64 t399, .int .i64 t400, .int .i64 a1_4, .bool a1_5, .bool a1_6]) ?_ 4 _ rfl; refine bk ?_; refine blk_put (cs := #[.int .i64 t397, .int .i64 t398, .int .i64 t399, .int .i64 a1_3, .int .i64 a1_4, .bool a1_5, .bool a1_6]) ?_ 3 _ rfl; refine bk ?_; refine blk_put (cs := #[.int .i64 t397, .int .i64 t398, .int .i64 a1_2, .int .i64 a1_3, .int .i64 a1_4, .bool a1_5, .bool a1_6]) ?_ 2 _ rfl; refine bk ?_; refine blk_put (cs := #[.int .i64 t397, .int .i64 a1_1, .int .i64 a1_2, .int .i64 a1_3, .int .i64 a1_4, .bool a1_5, .bool a1_6]) ?_ 1 _ rfl; refine bk ?_; refine blk_put (cs := #[.int .i64 a1_0, .int .i64 a1_1, .int .i64 a1_2, .int .i64 a1_3, .int .i64 a1_4, .bool a1_5, .bool a1_6]) ?_ 0 _ rfl; (iterate 7 refine f1 NB388_387 ?_); refine bk ?_; exact BK388.out⟩, ⟨by (iterate 7 refine f1 NB389_388 ?_); (iterate 7 refine f1 NB389_387 ?_); refine bk ?_; exact BK389.out⟩, ab2_⟩
  ·
   replace c26 := Bool.eq_false_iff.mpr c26; subst c26; rw [if_neg (show ¬ (false = true) by decide)] at H; have H' := Aside0.mk H; clear H; have hnb32 := NB387_388.out; have hnc32 := NB388_387.out; have hnb33 := NB387_389.out; have hnc33 := NB389_387.out; obtain ⟨hcz34_0, hcz34_1, hcz34_2, hcz34_3, hcz34_4, hcz34_5, hcz34_6⟩ := bc7 BK387.out; obtain ⟨hfz34_0, hfz34_1, hfz34_2, hfz34_3, hfz34_4, hfz34_5, hfz34_6⟩ := bf7 BK387.out; go_wp2; go_meet
   case rel => exact ⟨_, (false), (by first | rfl | (simp; done) | (simp [*]; done)), H', ⟨by first | omega | exact Nat.le_refl _⟩, ⟨by (iterate 7 refine f1 NB387_388 ?_); exact rq BK387.out (by rfl)⟩, ⟨by refine bk ?_; refine blk_put (cs := #[.int .i64 t397, .int .i64 t398, .int .i64 t399, .int .i64 t400, .int .i64 t401, .bool t402, .bool a1_6]) ?_ 6 _ rfl; refine bk ?_; refine blk_put (cs := #[.int .i64 t397, .int .i64 t398, .int .i64 t399, .int .i64 t400, .int .i64 t401, .bool a1_5, .bool a1_6]) ?_ 5 _ rfl; refine bk ?_; refine blk_put (cs := #[.int .i64 t397, .int .i64 t398, .int .i64 t399, .int .i64 t400, .int .i64 a1_4, .bool a1_5, .bool a1_6]) ?_ 4 _ rfl; refine bk ?_; refine blk_put (cs := #[.int .i64 t397, .int .i64 t398, .int .i64 t399, .int .i64 a1_3, .int .i64 a1_4, .bool a1_5, .bool a1_6]) ?_ 3 _ rfl; refine bk ?_; refine blk_put (cs := #[.int .i64 t397, .int .i64 t398, .int .i64 a1_2, .int .i64 a1_3, .int .i64 a1_4, .bool a1_5, .bool a1_6]) ?_ 2 _ rfl; refine bk ?_; refine blk_put (cs := #[.int .i64 t397, .int .i64 a1_1, .int .i64 a1_2, .int .i64 a1_3, .int .i64 a1_4, .bool a1_5, .bool a1_6]) ?_ 1 _ rfl; refine bk ?_; refine blk_put (cs := #[.int .i64 a1_0, .int .i64 a1_1, .int .i64 a1_2, .int .i64 a1_3, .int .i64 a1_4, .bool a1_5, .bool a1_6]) ?_ 0 _ rfl; (iterate 7 refine f1 NB388_387 ?_); refine bk ?_; exact BK388.out⟩, ⟨by (iterate 7 refine f1 NB389_388 ?_); (iterate 7 refine f1 NB389_387 ?_); refine bk ?_; exact BK389.out⟩, ab2_⟩
 case rest =>
  clear HC5; obtain ⟨kq, x5_4, rfl, HA, HJ4, BK387, BK388, BK389, HB⟩ := hcut; cases kq with
  | zero => exact absurd HA.out (by simp [span_Meet.j0])
  | succ kj4 =>
   have H := HA.out; clear HA; simp only [span_Meet.j0] at H; have HC35 := Aside0.mk H; clear H; go_upto_region 3 with (fail)
   go_cut [22] (fun v22 wc => ∃ (kq : Nat) (x22_34 : Bool), v22 = .bool x22_34 ∧ Aside0 (span_Meet.j1 kq x5_4 x22_34 t390 t391 t392 t393 t394 t395 t396 t397 t398 t399 t400 t401 t402 t403 = some (r1, r2, r3, r4, r5, r6, r7)) ∧ Aside0 (kq ≤ kj4) ∧ Aside0 (wc.heap[gb387]? = some (.cells #[.int .i64 t390, .int .i64 t391, .int .i64 t392, .int .i64 t393, .int .i64 t394, .bool t395, .bool t396] 25 (0, 0))) ∧ Aside0 (wc.heap[gb388]? = some (.cells #[.int .i64 t397, .int .i64 t398, .int .i64 t399, .int .i64 t400, .int .i64 t401, .bool t402, .bool t403] 25 (0, 0))) ∧ Aside0 (wc.heap[gb389]? = some (.cells #[.int .i64 0, .int .i64 0, .int .i64 0, .int .i64 0, .int .i64 0, .bool false, .bool false] 25 (0, 0))) ∧ Aside0 (Below w.heap.size w wc))
   case first =>
    have H := HC35.out; clear HC35; by_cases c36 : t396 = true
    ·
     subst c36; rw [if_pos rfl] at H; have H' := Aside0.mk H; clear H; have hnb37 := NB387_388.out; have hnc37 := NB388_387.out; have hnb38 := NB387_389.out; have hnc38 := NB389_387.out; obtain ⟨hcz39_0, hcz39_1, hcz39_2, hcz39_3, hcz39_4, hcz39_5, hcz39_6⟩ := bc7 BK387.out; obtain ⟨hfz39_0, hfz39_1, hfz39_2, hfz39_3, hfz39_4, hfz39_5, hfz39_6⟩ := bf7 BK387.out; go_wp2; go_meet
     case rel => exact ⟨_, (true), (by first | rfl | (simp; done) | (simp [*]; done)), H', ⟨by have := HJ4.out; first | omega | exact Nat.le_refl _⟩, ⟨bk BK387.out⟩, ⟨bk BK388.out⟩, ⟨bk BK389.out⟩, ab2_⟩
    ·
     replace c36 := Bool.eq_false_iff.mpr c36; subst c36; rw [if_neg (show ¬ (false = true) by decide)] at H; have H' := Aside0.mk H; clear H; have hnb40 := NB387_388.out; have hnc40 := NB388_387.out; have hnb41 := NB387_389.out; have hnc41 := NB389_387.out; obtain ⟨hcz42_0, hcz42_1, hcz42_2, hcz42_3, hcz42_4, hcz42_5, hcz42_6⟩ := bc7 BK387.out; obtain ⟨hfz42_0, hfz42_1, hfz42_2, hfz42_3, hfz42_4, hfz42_5, hfz42_6⟩ := bf7 BK387.out; have hnb43 := NB388_389.out; have hnc43 := NB389_388.out; obtain ⟨hcz44_0, hcz44_1, hcz44_2, hcz44_3, hcz44_4, hcz44_5, hcz44_6⟩ := bc7 BK388.out; obtain ⟨hfz44_0, hfz44_1, hfz44_2, hfz44_3, hfz44_4, hfz44_5, hfz44_6⟩ := bf7 BK388.out; go_wp2; go_meet
     case rel => exact ⟨_, (t403), (by first | rfl | (simp; done) | (simp [*]; done)), H', ⟨by have := HJ4.out; first | omega | exact Nat.le_refl _⟩, ⟨bk BK387.out⟩, ⟨bk BK388.out⟩, ⟨bk BK389.out⟩, ab2_⟩
   case rest =>
    clear HC35; obtain ⟨kq, x22_34, rfl, HA, HJ34, BK387, BK388, BK389, HB⟩ := hcut; cases kq with
    | zero => exact absurd HA.out (by simp [span_Meet.j1])
    | succ kj34 =>
     have H := HA.out; clear HA; simp only [span_Meet.j1] at H; by_cases c45 : x22_34 = true
     · subst c45; rw [if_pos rfl] at H; replace H := Option.bind_eq_some_iff.mp H; obtain ⟨⟨t404, t405, t406, t407, t408, t409, t410⟩, A460, H⟩ := H; (try dsimp only at H); have A46 := Aside0.mk A460; clear A460; simp only [Option.some.injEq, Prod.mk.injEq] at H; obtain ⟨rfl, rfl, rfl, rfl, rfl, rfl, rfl⟩ := H; go_wp2_with (first | ((with_reducible refine gate_callee (f := 41) rfl ?_); refine goesL_ (some 24) rfl rfl Tryz.func41 (by kernel_rfl) rfl #[.bool x5_4] rfl (by (try simp only [mp]); first | done | rfl | (simp only [ld]; rfl)) ?_; (with_reducible refine (span_empty.calls x5_4 t404 t405 t406 t407 t408 t409 t410 _ A46.out).mono ?_); rintro e w47 ⟨rfl, hb⟩; refine ⟨_, rfl, ?_⟩; replace BK387 := kb BK387 hb; replace BK388 := kb BK388 hb; replace BK389 := kb BK389 hb; replace HB := hb_ w hb; have hnb48 := NB389_387.out; have hnc48 := NB387_389.out; have hnb49 := NB389_388.out; have hnc49 := NB388_389.out; obtain ⟨hcz50_0, hcz50_1, hcz50_2, hcz50_3, hcz50_4, hcz50_5, hcz50_6⟩ := bc7 BK389.out; obtain ⟨hfz50_0, hfz50_1, hfz50_2, hfz50_3, hfz50_4, hfz50_5, hfz50_6⟩ := bf7 BK389.out)); refine bodyPost_ret (results_cell_row rfl _ _ gb389 25 #[.int .i64 t404, .int .i64 t405, .int .i64 t406, .int .i64 t407, .int .i64 t408, .bool t409, .bool t410] (0, 0) _ rfl (by exact rq BK389.out (by rfl)) Tryz.underlying25 rfl (by kernel_rfl)) rfl ?_; exact en_
     ·
      replace c45 := Bool.eq_false_iff.mpr c45; subst c45; rw [if_neg (show ¬ (false = true) by decide)] at H; replace H := Option.bind_eq_some_iff.mp H; obtain ⟨t411, A510, H⟩ := H; (try dsimp only at H); have A51 := Aside0.mk A510; clear A510; have HC52 := Aside0.mk H; clear H; (try go_wp2); replace BK387 := kd BK387; replace BK388 := kd BK388; replace BK389 := kd BK389; replace HB := Aside0.mk (below_drew1 HB.out); refine start_ (n := 13) (S := fun w' => w'.cell? ⟨gb387, 0, none⟩ = some (.int .i64 t390) ∧ w'.cell? ⟨gb387, 1, none⟩ = some (.int .i64 t391) ∧ w'.cell? ⟨gb387, 2, none⟩ = some (.int .i64 t392) ∧ w'.cell? ⟨gb387, 3, none⟩ = some (.int .i64 t393) ∧ w'.cell? ⟨gb387, 4, none⟩ = some (.int .i64 t394) ∧ w'.cell? ⟨gb387, 5, none⟩ = some (.bool t395) ∧ w'.cell? ⟨gb387, 6, none⟩ = some (.bool t396) ∧ w'.cell? ⟨gb388, 0, none⟩ = some (.int .i64 t397) ∧ w'.cell? ⟨gb388, 1, none⟩ = some (.int .i64 t398) ∧ w'.cell? ⟨gb388, 2, none⟩ = some (.int .i64 t399) ∧ w'.cell? ⟨gb388, 3, none⟩ = some (.int .i64 t400) ∧ w'.cell? ⟨gb388, 4, none⟩ = some (.int .i64 t401) ∧ w'.cell? ⟨gb388, 5, none⟩ = some (.bool t402) ∧ w'.cell? ⟨gb388, 6, none⟩ = some (.bool t403)) (ds := []) (bA 13 0) (by kernel_rfl) rfl rfl ⟨(blk_cell BK387.out 0).trans rfl, (blk_cell BK387.out 1).trans rfl, (blk_cell BK387.out 2).trans rfl, (blk_cell BK387.out 3).trans rfl, (blk_cell BK387.out 4).trans rfl, (blk_cell BK387.out 5).trans rfl, (blk_cell BK387.out 6).trans rfl, (blk_cell BK388.out 0).trans rfl, (blk_cell BK388.out 1).trans rfl, (blk_cell BK388.out 2).trans rfl, (blk_cell BK388.out 3).trans rfl, (blk_cell BK388.out 4).trans rfl, (blk_cell BK388.out 5).trans rfl, (blk_cell BK388.out 6).trans rfl⟩ (fun hHeld => ?_); refine with_tabW span_Meet.tab5 span_Meet.bits5 (fun HT_ HW_ => ?_); generalize wc.drew = w53 at BK387 BK388 BK389 HB hHeld ⊢; have hH0 := hHeld; have HBW := hbw w53; refine pure_ (i := 0) (N := some 25) (v := ?_) (a' := ?_) (bA 13 1) rfl rfl (any_of HT_.out (by kernel_rfl)) (fun _ _ _ h => h) (Or.inl ⟨by rfl, ?_⟩) ?_ ?_; rotate_left
      · intro w'; go_simp; with_reducible rfl
      rotate_left
      · simp only [ap]; rfl
      refine pure_ (i := 2) (N := some 27) (v := ?_) (a' := ?_) (bA 13 5) rfl rfl (any_of HT_.out (by kernel_rfl)) (fun _ _ _ h => h) (Or.inl ⟨by rfl, ?_⟩) ?_ ?_; rotate_left
      · intro w'; go_simp; with_reducible rfl
      rotate_left
      · simp only [ap]; rfl
      refine pure_ (i := 4) (N := some 29) (v := ?_) (a' := ?_) (bA 13 21) rfl rfl (any_of HT_.out (by kernel_rfl)) (fun _ _ _ h => h) (Or.inl ⟨by rfl, ?_⟩) ?_ ?_; rotate_left
      · intro w'; go_simp; with_reducible rfl
      rotate_left
      · simp only [ap]; rfl
      refine pure_ (i := 6) (N := some 31) (v := ?_) (a' := ?_) (bA 13 85) rfl rfl (any_of HT_.out (by kernel_rfl)) (fun _ _ _ h => h) (Or.inl ⟨by rfl, ?_⟩) ?_ ?_; rotate_left
      · intro w'; go_simp; with_reducible rfl
      rotate_left
      · simp only [ap]; rfl
      refine pure_ (i := 9) (N := some 34) (v := ?_) (a' := ?_) (bA 13 597) rfl rfl (any_of HT_.out (by kernel_rfl)) (fun _ _ _ h => h) (Or.inl ⟨by rfl, ?_⟩) ?_ ?_; rotate_left
      · intro w'; go_simp; with_reducible rfl
      rotate_left
      · simp only [ap]; rfl
      refine take_ (i := 1) (N := some 26) (v := ?_) (a' := ?_) (bA 13 599) rfl rfl (take_ofW HT_.out HW_.out (by kernel_rfl)) (fun _ _ _ h => h) (Or.inl ⟨by rfl, ?_⟩) hHeld ?_ ?_; rotate_left
      · rintro w' ⟨s0, s1, s2, s3, s4, s5, s6, s7, s8, s9, s10, s11, s12, s13⟩; go_simp; with_reducible rfl
      rotate_left
      · simp only [ap]; rfl
      refine take_ (i := 3) (N := some 28) (v := ?_) (a' := ?_) (bA 13 607) rfl rfl (take_ofW HT_.out HW_.out (by kernel_rfl)) (fun _ _ _ h => h) (Or.inl ⟨by rfl, ?_⟩) hHeld ?_ ?_; rotate_left
      · rintro w' ⟨s0, s1, s2, s3, s4, s5, s6, s7, s8, s9, s10, s11, s12, s13⟩; go_simp; with_reducible rfl
      rotate_left
      · simp only [ap]; rfl
      refine take_ (i := 5) (N := some 30) (v := ?_) (a' := ?_) (bA 13 639) rfl rfl (take_ofW HT_.out HW_.out (by kernel_rfl)) (fun _ _ _ h => h) (Or.inl ⟨by rfl, ?_⟩) hHeld ?_ ?_; rotate_left
      · rintro w' ⟨s0, s1, s2, s3, s4, s5, s6, s7, s8, s9, s10, s11, s12, s13⟩; go_simp; with_reducible rfl
      rotate_left
      · simp only [ap]; rfl
      refine take_ (i := 7) (N := some 32) (v := ?_) (a' := ?_) (bA 13 767) rfl rfl (take_ofW HT_.out HW_.out (by kernel_rfl)) (fun _ _ _ h => h) (Or.inl ⟨by rfl, ?_⟩) hHeld ?_ ?_; rotate_left
      · rintro w' ⟨s0, s1, s2, s3, s4, s5, s6, s7, s8, s9, s10, s11, s12, s13⟩; go_simp; with_reducible rfl
      rotate_left
      · simp only [ap]; rfl
      refine join_ (σ := Nat) 1 (bA 13 4095) (fun s_ => [(33, .int .i64 t411), (6, .pointer (some ⟨s_, 0, none⟩)), (35, .agg #[.int .i64 t390, .int .i64 t391, .int .i64 t392, .int .i64 t393, .int .i64 t411, .bool x5_4, .bool false])]) (fun s_ w' => Aside0 (Below w53.heap.size w53 w') ∧ Aside0 (w'.heap[s_]? = some (.cells #[.int .i64 0, .int .i64 0, .int .i64 0, .int .i64 0, .int .i64 0, .bool false, .bool false] 25 (0, 0))) ∧ Aside0 (w53.heap.size ≤ s_)) ?_ ?_; rotate_left
      ·
       intro hCont; refine two_ (i := 8) (j := 11) (Ni := some 33) (Nj := some 6) (bA 13 1023) (bA 13 2815) rfl rfl rfl rfl (two_of HT_.out (by kernel_rfl)) (by decide) (by decide) (fun K hK => ?_) (fun K hK => ?_)
       ·
        refine goes_ Tryz.func42 (by kernel_rfl) rfl #[.int .i64 t394, .int .i64 t401] (by rfl) rfl rfl (by (try simp only [mp]); first | done | rfl | (simp only [ld]; rfl)) ?_; (with_reducible refine (span_divisor.calls kj34 t394 t401 t411 _ A51.out).mono ?_); rintro e w' ⟨rfl, ⟨nd, rfl⟩⟩; refine ⟨_, rfl, ?_⟩; refine hK.out _ _ (hc8 (bl HBW.out) (hs6 (bl HBW.out)) hH0) (fun hHeld => ?_); clear hK K; refine norm_ (a' := ?_) ?_ ?_; rotate_left
        · (show Act.put _ (some 33) _ = _); simp only [ap]; rfl
        refine pure_ (i := 10) (N := some 35) (v := ?_) (a' := ?_) (bA 13 2047) rfl rfl (any_of HT_.out (by kernel_rfl)) (fun _ _ _ h => h) (Or.inl ⟨by rfl, ?_⟩) ?_ ?_; rotate_left
        · intro w'; go_simp; with_reducible rfl
        rotate_left
        · simp only [ap]; rfl
        refine one_ (i := 11) (N := some 6) (bA 13 4095) rfl rfl (one_of HT_.out (by kernel_rfl)) (by decide) (fun K hK => ?_); refine box_step ?hg (N := 6) ?hd (cs := #[.int .i64 0, .int .i64 0, .int .i64 0, .int .i64 0, .int .i64 0, .bool false, .bool false]) (t := 25) ?hr ?_; (case hd => rfl); (case hg => rfl); (case hr => first | (go_simp; done) | (go_simp; rfl)); intro gb412 hg w54 hbox hb; have BK412 := Aside0.mk hbox; have GX412 := hz_ hg HBW; replace HBW := hs HBW hb; clear hb hbox hg; refine hK.out _ _ (hc8 HBW.out (hs6 HBW.out) hH0) (fun hHeld => ?_); clear hK K; refine norm_ (a' := ?_) ?_ ?_; rotate_left
        · (show Act.put _ (some 6) _ = _); simp only [ap]; rfl
        exact norm_ (by first | (simp only [putAll, ap]; done) | (simp only [putAll, ap]; rfl)) (hCont (gb412) _ ⟨⟨bl HBW.out⟩, ⟨bk BK412.out⟩, GX412⟩)
       ·
        refine box_step ?hg (N := 6) ?hd (cs := #[.int .i64 0, .int .i64 0, .int .i64 0, .int .i64 0, .int .i64 0, .bool false, .bool false]) (t := 25) ?hr ?_; (case hd => rfl); (case hg => rfl); (case hr => first | (go_simp; done) | (go_simp; rfl)); intro gb412 hg w54 hbox hb; have BK412 := Aside0.mk hbox; have GX412 := hz_ hg HBW; replace HBW := hs HBW hb; clear hb hbox hg; refine hK.out _ _ (hc8 HBW.out (hs6 HBW.out) hH0) (fun hHeld => ?_); clear hK K; refine norm_ (a' := ?_) ?_ ?_; rotate_left
        · (show Act.put _ (some 6) _ = _); simp only [ap]; rfl
        refine one_ (i := 8) (N := some 33) (bA 13 3071) rfl rfl (one_of HT_.out (by kernel_rfl)) (by decide) (fun K hK => ?_); refine goes_ Tryz.func42 (by kernel_rfl) rfl #[.int .i64 t394, .int .i64 t401] (by rfl) rfl rfl (by (try simp only [mp]); first | done | rfl | (simp only [ld]; rfl)) ?_; (with_reducible refine (span_divisor.calls kj34 t394 t401 t411 _ A51.out).mono ?_); rintro e w' ⟨rfl, ⟨nd, rfl⟩⟩; refine ⟨_, rfl, ?_⟩; refine hK.out _ _ (hc8 (bl HBW.out) (hs6 (bl HBW.out)) hH0) (fun hHeld => ?_); clear hK K; refine norm_ (a' := ?_) ?_ ?_; rotate_left
        · (show Act.put _ (some 33) _ = _); simp only [ap]; rfl
        refine pure_ (i := 10) (N := some 35) (v := ?_) (a' := ?_) (bA 13 4095) rfl rfl (any_of HT_.out (by kernel_rfl)) (fun _ _ _ h => h) (Or.inl ⟨by rfl, ?_⟩) ?_ ?_; rotate_left
        · intro w'; go_simp; with_reducible rfl
        rotate_left
        · simp only [ap]; rfl
        exact norm_ (by first | (simp only [putAll, ap]; done) | (simp only [putAll, ap]; rfl)) (hCont (gb412) _ ⟨⟨bl HBW.out⟩, ⟨bk BK412.out⟩, GX412⟩)
      clear HBW; rintro gb412 w55 ⟨HBW, BK412, GX412⟩; have hHeld := hc8 HBW.out (hs6 HBW.out) hH0; refine norm_ (a' := ?_) ?_ ?_; rotate_left
      · simp only [putAll, Act.put, List.setIfInBounds_toArray, List.set_cons_zero, List.set_cons_succ]; rfl
      have GW412 := gx HB GX412; have GE412 := gx HB GX412; have NB387_412 := nlx GX412 BK387; have NB412_387 := ngx GX412 BK387; have NB388_412 := nlx GX412 BK388; have NB412_388 := ngx GX412 BK388; have NB389_412 := nlx GX412 BK389; have NB412_389 := ngx GX412 BK389; replace BK387 := kb BK387 HBW.out; replace BK388 := kb BK388 HBW.out; replace BK389 := kb BK389 HBW.out; replace HB := hs HB HBW.out; refine one_ (i := 12) (N := none) (bA 13 8191) rfl rfl (one_of HT_.out (by kernel_rfl)) (by decide) (fun K hK => ?_); have hs56 : w55.cell? ⟨gb412, 0, none⟩ = some (.int .i64 0) := (blk_cell BK412.out 0).trans rfl; have hfs56 := blk_frozen BK412.out 0; have hns56_0 := NB387_412.out; have hns56_1 := NB388_412.out; have hns56_2 := NB389_412.out; have hms56_0 := NB412_387.out; have hms56_1 := NB412_388.out; have hms56_2 := NB412_389.out; have hs57 : w55.cell? ⟨gb412, 1, none⟩ = some (.int .i64 0) := (blk_cell BK412.out 1).trans rfl; have hfs57 := blk_frozen BK412.out 1; have hns57_0 := NB387_412.out; have hns57_1 := NB388_412.out; have hns57_2 := NB389_412.out; have hms57_0 := NB412_387.out; have hms57_1 := NB412_388.out; have hms57_2 := NB412_389.out; have hs58 : w55.cell? ⟨gb412, 2, none⟩ = some (.int .i64 0) := (blk_cell BK412.out 2).trans rfl; have hfs58 := blk_frozen BK412.out 2; have hns58_0 := NB387_412.out; have hns58_1 := NB388_412.out; have hns58_2 := NB389_412.out; have hms58_0 := NB412_387.out; have hms58_1 := NB412_388.out; have hms58_2 := NB412_389.out; have hs59 : w55.cell? ⟨gb412, 3, none⟩ = some (.int .i64 0) := (blk_cell BK412.out 3).trans rfl; have hfs59 := blk_frozen BK412.out 3; have hns59_0 := NB387_412.out; have hns59_1 := NB388_412.out; have hns59_2 := NB389_412.out; have hms59_0 := NB412_387.out; have hms59_1 := NB412_388.out; have hms59_2 := NB412_389.out; have hs60 : w55.cell? ⟨gb412, 4, none⟩ = some (.int .i64 0) := (blk_cell BK412.out 4).trans rfl; have hfs60 := blk_frozen BK412.out 4; have hns60_0 := NB387_412.out; have hns60_1 := NB388_412.out; have hns60_2 := NB389_412.out; have hms60_0 := NB412_387.out; have hms60_1 := NB412_388.out; have hms60_2 := NB412_389.out; have hs61 : w55.cell? ⟨gb412, 5, none⟩ = some (.bool false) := (blk_cell BK412.out 5).trans rfl; have hfs61 := blk_frozen BK412.out 5; have hns61_0 := NB387_412.out; have hns61_1 := NB388_412.out; have hns61_2 := NB389_412.out; have hms61_0 := NB412_387.out; have hms61_1 := NB412_388.out; have hms61_2 := NB412_389.out; have hs62 : w55.cell? ⟨gb412, 6, none⟩ = some (.bool false) := (blk_cell BK412.out 6).trans rfl; have hfs62 := blk_frozen BK412.out 6; have hns62_0 := NB387_412.out; have hns62_1 := NB388_412.out; have hns62_2 := NB389_412.out; have hms62_0 := NB412_387.out; have hms62_1 := NB412_388.out; have hms62_2 := NB412_389.out; refine skip_ (w1 := ?_) (by rfl) rfl ?_ ?_; rotate_left
      · go_simp; rfl
      refine hK.out _ _ (hc8 (bset (bset (bset (bset (bset (bset (bset HBW.out GX412) GX412) GX412) GX412) GX412) GX412) GX412) (hs6 (bset (bset (bset (bset (bset (bset (bset HBW.out GX412) GX412) GX412) GX412) GX412) GX412) GX412)) hH0) (fun hHeld => ?_); clear hK K; refine done_ (done_of HT_.out (by kernel_rfl)) ?_; clear HBW hH0 GX412; go_upto_region 6 with (fail)
      go_cut [52] (fun v52 wc => ∃ (kq : Nat) (x52_51 : Bool), v52 = .bool x52_51 ∧ Aside0 (span_Meet.j2 kq x5_4 x52_51 t397 t398 t399 t400 t401 t402 t403 t390 t391 t392 t393 t411 x5_4 false = some (r1, r2, r3, r4, r5, r6, r7)) ∧ Aside0 (kq ≤ kj34) ∧ Aside0 (wc.heap[gb387]? = some (.cells #[.int .i64 t390, .int .i64 t391, .int .i64 t392, .int .i64 t393, .int .i64 t394, .bool t395, .bool t396] 25 (0, 0))) ∧ Aside0 (wc.heap[gb388]? = some (.cells #[.int .i64 t397, .int .i64 t398, .int .i64 t399, .int .i64 t400, .int .i64 t401, .bool t402, .bool t403] 25 (0, 0))) ∧ Aside0 (wc.heap[gb389]? = some (.cells #[.int .i64 0, .int .i64 0, .int .i64 0, .int .i64 0, .int .i64 0, .bool false, .bool false] 25 (0, 0))) ∧ Aside0 (wc.heap[gb412]? = some (.cells #[.int .i64 t390, .int .i64 t391, .int .i64 t392, .int .i64 t393, .int .i64 t411, .bool x5_4, .bool false] 25 (0, 0))) ∧ Aside0 (Below w.heap.size w wc))
      case first =>
       have H := HC52.out; clear HC52; replace H := Option.bind_eq_some_iff.mp H; obtain ⟨t413, A630, H⟩ := H; (try dsimp only at H); have A63 := Aside0.mk A630; clear A630; by_cases c64 : t413 = true
       ·
        subst c64; rw [if_pos rfl] at H; replace H := Option.bind_eq_some_iff.mp H; obtain ⟨t414, A650, H⟩ := H; (try dsimp only at H); have A65 := Aside0.mk A650; clear A650; by_cases c66 : t414 = true
        ·
         subst c66; rw [if_pos rfl] at H; replace H := Option.bind_eq_some_iff.mp H; obtain ⟨t415, A670, H⟩ := H; (try dsimp only at H); have A67 := Aside0.mk A670; clear A670; have H' := Aside0.mk H; clear H; have hnb68 := NB388_387.out; have hnc68 := NB387_388.out; have hnb69 := NB388_389.out; have hnc69 := NB389_388.out; have hnb70 := NB388_412.out; have hnc70 := NB412_388.out; obtain ⟨hcz71_0, hcz71_1, hcz71_2, hcz71_3, hcz71_4, hcz71_5, hcz71_6⟩ := bc7 BK388.out; obtain ⟨hfz71_0, hfz71_1, hfz71_2, hfz71_3, hfz71_4, hfz71_5, hfz71_6⟩ := bf7 BK388.out; go_wp2_with (first | ((with_reducible refine gate_callee (f := 24) rfl ?_); refine goesL_ (some 38) rfl rfl Tryz.func24 (by kernel_rfl) rfl #[.agg #[.int .i64 t397, .int .i64 t398]] rfl (by (try simp only [mp]); first | done | rfl | (simp only [ld]; rfl)) ?_; (with_reducible refine (ratio_Is.calls kj34 t397 t398 true _ A63.out).mono ?_); rintro e w72 ⟨rfl, hb⟩; refine ⟨_, rfl, ?_⟩; replace BK387 := Aside0.mk (blk_below (g := gb387) (o := .cells #[.int .i64 t390, .int .i64 t391, .int .i64 t392, .int .i64 t393, .int .i64 t394, .bool t395, .bool t396] 25 (0, 0)) (by (iterate 7 refine f1 NB387_412 ?_); refine bk ?_; exact BK387.out) hb); replace BK388 := Aside0.mk (blk_below (g := gb388) (o := .cells #[.int .i64 t397, .int .i64 t398, .int .i64 t399, .int .i64 t400, .int .i64 t401, .bool t402, .bool t403] 25 (0, 0)) (by (iterate 7 refine f1 NB388_412 ?_); refine bk ?_; exact BK388.out) hb); replace BK389 := Aside0.mk (blk_below (g := gb389) (o := .cells #[.int .i64 0, .int .i64 0, .int .i64 0, .int .i64 0, .int .i64 0, .bool false, .bool false] 25 (0, 0)) (by (iterate 7 refine f1 NB389_412 ?_); refine bk ?_; exact BK389.out) hb); replace BK412 := Aside0.mk (blk_below (g := gb412) (o := .cells #[.int .i64 t390, .int .i64 t391, .int .i64 t392, .int .i64 t393, .int .i64 t411, .bool x5_4, .bool false] 25 (0, 0)) (by exact rq BK412.out (by rfl)) hb); replace HB := hb_ w hb; have hnb73 := NB412_387.out; have hnc73 := NB387_412.out; have hnb74 := NB412_389.out; have hnc74 := NB389_412.out; obtain ⟨hcz75_0, hcz75_1, hcz75_2, hcz75_3, hcz75_4, hcz75_5, hcz75_6⟩ := bc7 BK412.out; obtain ⟨hfz75_0, hfz75_1, hfz75_2, hfz75_3, hfz75_4, hfz75_5, hfz75_6⟩ := bf7 BK412.out) | (go_at_call 24; (with_reducible refine (ratio_Is.calls kj34 t390 t391 true _ A65.out).mono ?_); rintro e w76 ⟨rfl, hb⟩; replace BK387 := kb BK387 hb; replace BK388 := kb BK388 hb; replace BK389 := kb BK389 hb; replace BK412 := kb BK412 hb; replace HB := hb_ w hb; obtain ⟨hcz77_0, hcz77_1, hcz77_2, hcz77_3, hcz77_4, hcz77_5, hcz77_6⟩ := bc7 BK388.out; obtain ⟨hfz77_0, hfz77_1, hfz77_2, hfz77_3, hfz77_4, hfz77_5, hfz77_6⟩ := bf7 BK388.out; obtain ⟨hcz78_0, hcz78_1, hcz78_2, hcz78_3, hcz78_4, hcz78_5, hcz78_6⟩ := bc7 BK412.out; obtain ⟨hfz78_0, hfz78_1, hfz78_2, hfz78_3, hfz78_4, hfz78_5, hfz78_6⟩ := bf7 BK412.out) | (go_at_call 25; (with_reducible refine (ratio_Cmp.calls kj34 t397 t398 t390 t391 t415 _ A67.out).mono ?_); rintro e w79 ⟨rfl, hb⟩; replace BK387 := kb BK387 hb; replace BK388 := kb BK388 hb; replace BK389 := kb BK389 hb; replace BK412 := kb BK412 hb; replace HB := hb_ w hb; )); go_meet
         case rel => exact ⟨_, (decide (t415 > 0)), (by first | rfl | (simp; done) | (simp [*]; done)), H', ⟨by have := HJ4.out; have := HJ34.out; first | omega | exact Nat.le_refl _⟩, ⟨bk BK387.out⟩, ⟨bk BK388.out⟩, ⟨bk BK389.out⟩, ⟨bk BK412.out⟩, ab2_⟩
        ·
         replace c66 := Bool.eq_false_iff.mpr c66; subst c66; rw [if_neg (show ¬ (false = true) by decide)] at H; have H' := Aside0.mk H; clear H; have hnb80 := NB388_387.out; have hnc80 := NB387_388.out; have hnb81 := NB388_389.out; have hnc81 := NB389_388.out; have hnb82 := NB388_412.out; have hnc82 := NB412_388.out; obtain ⟨hcz83_0, hcz83_1, hcz83_2, hcz83_3, hcz83_4, hcz83_5, hcz83_6⟩ := bc7 BK388.out; obtain ⟨hfz83_0, hfz83_1, hfz83_2, hfz83_3, hfz83_4, hfz83_5, hfz83_6⟩ := bf7 BK388.out; go_wp2_with (first | ((with_reducible refine gate_callee (f := 24) rfl ?_); refine goesL_ (some 38) rfl rfl Tryz.func24 (by kernel_rfl) rfl #[.agg #[.int .i64 t397, .int .i64 t398]] rfl (by (try simp only [mp]); first | done | rfl | (simp only [ld]; rfl)) ?_; (with_reducible refine (ratio_Is.calls kj34 t397 t398 true _ A63.out).mono ?_); rintro e w84 ⟨rfl, hb⟩; refine ⟨_, rfl, ?_⟩; replace BK387 := Aside0.mk (blk_below (g := gb387) (o := .cells #[.int .i64 t390, .int .i64 t391, .int .i64 t392, .int .i64 t393, .int .i64 t394, .bool t395, .bool t396] 25 (0, 0)) (by (iterate 7 refine f1 NB387_412 ?_); refine bk ?_; exact BK387.out) hb); replace BK388 := Aside0.mk (blk_below (g := gb388) (o := .cells #[.int .i64 t397, .int .i64 t398, .int .i64 t399, .int .i64 t400, .int .i64 t401, .bool t402, .bool t403] 25 (0, 0)) (by (iterate 7 refine f1 NB388_412 ?_); refine bk ?_; exact BK388.out) hb); replace BK389 := Aside0.mk (blk_below (g := gb389) (o := .cells #[.int .i64 0, .int .i64 0, .int .i64 0, .int .i64 0, .int .i64 0, .bool false, .bool false] 25 (0, 0)) (by (iterate 7 refine f1 NB389_412 ?_); refine bk ?_; exact BK389.out) hb); replace BK412 := Aside0.mk (blk_below (g := gb412) (o := .cells #[.int .i64 t390, .int .i64 t391, .int .i64 t392, .int .i64 t393, .int .i64 t411, .bool x5_4, .bool false] 25 (0, 0)) (by exact rq BK412.out (by rfl)) hb); replace HB := hb_ w hb; have hnb85 := NB412_387.out; have hnc85 := NB387_412.out; have hnb86 := NB412_389.out; have hnc86 := NB389_412.out; obtain ⟨hcz87_0, hcz87_1, hcz87_2, hcz87_3, hcz87_4, hcz87_5, hcz87_6⟩ := bc7 BK412.out; obtain ⟨hfz87_0, hfz87_1, hfz87_2, hfz87_3, hfz87_4, hfz87_5, hfz87_6⟩ := bf7 BK412.out) | (go_at_call 24; (with_reducible refine (ratio_Is.calls kj34 t390 t391 false _ A65.out).mono ?_); rintro e w88 ⟨rfl, hb⟩; replace BK387 := kb BK387 hb; replace BK388 := kb BK388 hb; replace BK389 := kb BK389 hb; replace BK412 := kb BK412 hb; replace HB := hb_ w hb; )); go_meet
         case rel => exact ⟨_, (true), (by first | rfl | (simp; done) | (simp [*]; done)), H', ⟨by have := HJ4.out; have := HJ34.out; first | omega | exact Nat.le_refl _⟩, ⟨bk BK387.out⟩, ⟨bk BK388.out⟩, ⟨bk BK389.out⟩, ⟨bk BK412.out⟩, ab2_⟩
       ·
        replace c64 := Bool.eq_false_iff.mpr c64; subst c64; rw [if_neg (show ¬ (false = true) by decide)] at H; have H' := Aside0.mk H; clear H; have hnb89 := NB388_387.out; have hnc89 := NB387_388.out; have hnb90 := NB388_389.out; have hnc90 := NB389_388.out; have hnb91 := NB388_412.out; have hnc91 := NB412_388.out; obtain ⟨hcz92_0, hcz92_1, hcz92_2, hcz92_3, hcz92_4, hcz92_5, hcz92_6⟩ := bc7 BK388.out; obtain ⟨hfz92_0, hfz92_1, hfz92_2, hfz92_3, hfz92_4, hfz92_5, hfz92_6⟩ := bf7 BK388.out; go_wp2_with (first | ((with_reducible refine gate_callee (f := 24) rfl ?_); refine goesL_ (some 38) rfl rfl Tryz.func24 (by kernel_rfl) rfl #[.agg #[.int .i64 t397, .int .i64 t398]] rfl (by (try simp only [mp]); first | done | rfl | (simp only [ld]; rfl)) ?_; (with_reducible refine (ratio_Is.calls kj34 t397 t398 false _ A63.out).mono ?_); rintro e w93 ⟨rfl, hb⟩; refine ⟨_, rfl, ?_⟩; replace BK387 := Aside0.mk (blk_below (g := gb387) (o := .cells #[.int .i64 t390, .int .i64 t391, .int .i64 t392, .int .i64 t393, .int .i64 t394, .bool t395, .bool t396] 25 (0, 0)) (by (iterate 7 refine f1 NB387_412 ?_); refine bk ?_; exact BK387.out) hb); replace BK388 := Aside0.mk (blk_below (g := gb388) (o := .cells #[.int .i64 t397, .int .i64 t398, .int .i64 t399, .int .i64 t400, .int .i64 t401, .bool t402, .bool t403] 25 (0, 0)) (by (iterate 7 refine f1 NB388_412 ?_); refine bk ?_; exact BK388.out) hb); replace BK389 := Aside0.mk (blk_below (g := gb389) (o := .cells #[.int .i64 0, .int .i64 0, .int .i64 0, .int .i64 0, .int .i64 0, .bool false, .bool false] 25 (0, 0)) (by (iterate 7 refine f1 NB389_412 ?_); refine bk ?_; exact BK389.out) hb); replace BK412 := Aside0.mk (blk_below (g := gb412) (o := .cells #[.int .i64 t390, .int .i64 t391, .int .i64 t392, .int .i64 t393, .int .i64 t411, .bool x5_4, .bool false] 25 (0, 0)) (by exact rq BK412.out (by rfl)) hb); replace HB := hb_ w hb; )); go_meet
        case rel => exact ⟨_, (false), (by first | rfl | (simp; done) | (simp [*]; done)), H', ⟨by have := HJ4.out; have := HJ34.out; first | omega | exact Nat.le_refl _⟩, ⟨bk BK387.out⟩, ⟨bk BK388.out⟩, ⟨bk BK389.out⟩, ⟨bk BK412.out⟩, ab2_⟩
      case rest =>
       clear HC52; (try clear c45); obtain ⟨kq, x52_51, rfl, HA, HJ51, BK387, BK388, BK389, BK412, HB⟩ := hcut; cases kq with
       | zero => exact absurd HA.out (by simp [span_Meet.j2])
       | succ kj51 =>
        have H := HA.out; clear HA; simp only [span_Meet.j2] at H; have HC94 := Aside0.mk H; clear H; go_upto_if 52 with (fail)
        go_cut [] (fun wc => ∃ (kq : Nat) (x413000_93 : Int) (x413001_93 : Int), Aside0 (span_Meet.j3 kq x5_4 t397 t398 t399 t400 t401 t402 t403 x413000_93 x413001_93 t392 t393 t411 x5_4 false = some (r1, r2, r3, r4, r5, r6, r7)) ∧ Aside0 (kq ≤ kj51) ∧ Aside0 (wc.heap[gb387]? = some (.cells #[.int .i64 t390, .int .i64 t391, .int .i64 t392, .int .i64 t393, .int .i64 t394, .bool t395, .bool t396] 25 (0, 0))) ∧ Aside0 (wc.heap[gb388]? = some (.cells #[.int .i64 t397, .int .i64 t398, .int .i64 t399, .int .i64 t400, .int .i64 t401, .bool t402, .bool t403] 25 (0, 0))) ∧ Aside0 (wc.heap[gb389]? = some (.cells #[.int .i64 0, .int .i64 0, .int .i64 0, .int .i64 0, .int .i64 0, .bool false, .bool false] 25 (0, 0))) ∧ Aside0 (wc.heap[gb412]? = some (.cells #[.int .i64 x413000_93, .int .i64 x413001_93, .int .i64 t392, .int .i64 t393, .int .i64 t411, .bool x5_4, .bool false] 25 (0, 0))) ∧ Aside0 (Below w.heap.size w wc))
        case first =>
         have H := HC94.out; clear HC94; by_cases c95 : x52_51 = true
         ·
          subst c95; rw [if_pos rfl] at H; have H' := Aside0.mk H; clear H; have hnb96 := NB388_387.out; have hnc96 := NB387_388.out; have hnb97 := NB388_389.out; have hnc97 := NB389_388.out; have hnb98 := NB388_412.out; have hnc98 := NB412_388.out; obtain ⟨hcz99_0, hcz99_1, hcz99_2, hcz99_3, hcz99_4, hcz99_5, hcz99_6⟩ := bc7 BK388.out; obtain ⟨hfz99_0, hfz99_1, hfz99_2, hfz99_3, hfz99_4, hfz99_5, hfz99_6⟩ := bf7 BK388.out; have hnb100 := NB412_387.out; have hnc100 := NB387_412.out; have hnb101 := NB412_389.out; have hnc101 := NB389_412.out; obtain ⟨hcz102_0, hcz102_1, hcz102_2, hcz102_3, hcz102_4, hcz102_5, hcz102_6⟩ := bc7 BK412.out; obtain ⟨hfz102_0, hfz102_1, hfz102_2, hfz102_3, hfz102_4, hfz102_5, hfz102_6⟩ := bf7 BK412.out; go_wp2; go_meet
          case rel => exact ⟨_, (t397), (t398), H', ⟨by have := HJ4.out; have := HJ34.out; have := HJ51.out; first | omega | exact Nat.le_refl _⟩, ⟨by refine f1 NB387_412 ?_; refine f1 NB387_412 ?_; refine bk ?_; exact BK387.out⟩, ⟨by refine f1 NB388_412 ?_; refine f1 NB388_412 ?_; refine bk ?_; exact BK388.out⟩, ⟨by refine f1 NB389_412 ?_; refine f1 NB389_412 ?_; refine bk ?_; exact BK389.out⟩, ⟨by exact rq BK412.out (by rfl)⟩, ab2_⟩
         ·
          replace c95 := Bool.eq_false_iff.mpr c95; subst c95; rw [if_neg (show ¬ (false = true) by decide)] at H; have H' := Aside0.mk H; clear H; go_wp2; go_meet
          case rel => exact ⟨_, (t390), (t391), H', ⟨by have := HJ4.out; have := HJ34.out; have := HJ51.out; first | omega | exact Nat.le_refl _⟩, ⟨bk BK387.out⟩, ⟨bk BK388.out⟩, ⟨bk BK389.out⟩, ⟨bk BK412.out⟩, ab2_⟩
        case rest =>
         clear HC94; obtain ⟨kq, x413000_93, x413001_93, HA, HJ93, BK387, BK388, BK389, BK412, HB⟩ := hcut; cases kq with
         | zero => exact absurd HA.out (by simp [span_Meet.j3])
         | succ kj93 =>
          have H := HA.out; clear HA; simp only [span_Meet.j3] at H; have HC103 := Aside0.mk H; clear H; go_upto_region 8 with (fail)
          go_cut [72] (fun v72 wc => ∃ (kq : Nat) (x72_102 : Bool), v72 = .bool x72_102 ∧ Aside0 (span_Meet.j4 kq x5_4 x72_102 t397 t398 t399 t400 t401 t402 t403 x413000_93 x413001_93 t392 t393 t411 x5_4 false = some (r1, r2, r3, r4, r5, r6, r7)) ∧ Aside0 (kq ≤ kj93) ∧ Aside0 (wc.heap[gb387]? = some (.cells #[.int .i64 t390, .int .i64 t391, .int .i64 t392, .int .i64 t393, .int .i64 t394, .bool t395, .bool t396] 25 (0, 0))) ∧ Aside0 (wc.heap[gb388]? = some (.cells #[.int .i64 t397, .int .i64 t398, .int .i64 t399, .int .i64 t400, .int .i64 t401, .bool t402, .bool t403] 25 (0, 0))) ∧ Aside0 (wc.heap[gb389]? = some (.cells #[.int .i64 0, .int .i64 0, .int .i64 0, .int .i64 0, .int .i64 0, .bool false, .bool false] 25 (0, 0))) ∧ Aside0 (wc.heap[gb412]? = some (.cells #[.int .i64 x413000_93, .int .i64 x413001_93, .int .i64 t392, .int .i64 t393, .int .i64 t411, .bool x5_4, .bool false] 25 (0, 0))) ∧ Aside0 (Below w.heap.size w wc))
          case first =>
           have H := HC103.out; clear HC103; replace H := Option.bind_eq_some_iff.mp H; obtain ⟨t416, A1040, H⟩ := H; (try dsimp only at H); have A104 := Aside0.mk A1040; clear A1040; by_cases c105 : t416 = true
           ·
            subst c105; rw [if_pos rfl] at H; replace H := Option.bind_eq_some_iff.mp H; obtain ⟨t417, A1060, H⟩ := H; (try dsimp only at H); have A106 := Aside0.mk A1060; clear A1060; by_cases c107 : t417 = true
            ·
             subst c107; rw [if_pos rfl] at H; replace H := Option.bind_eq_some_iff.mp H; obtain ⟨t418, A1080, H⟩ := H; (try dsimp only at H); have A108 := Aside0.mk A1080; clear A1080; have H' := Aside0.mk H; clear H; have hnb109 := NB388_387.out; have hnc109 := NB387_388.out; have hnb110 := NB388_389.out; have hnc110 := NB389_388.out; have hnb111 := NB388_412.out; have hnc111 := NB412_388.out; obtain ⟨hcz112_0, hcz112_1, hcz112_2, hcz112_3, hcz112_4, hcz112_5, hcz112_6⟩ := bc7 BK388.out; obtain ⟨hfz112_0, hfz112_1, hfz112_2, hfz112_3, hfz112_4, hfz112_5, hfz112_6⟩ := bf7 BK388.out; go_wp2_with (first | ((with_reducible refine gate_callee (f := 24) rfl ?_); refine goesL_ (some 58) rfl rfl Tryz.func24 (by kernel_rfl) rfl #[.agg #[.int .i64 t399, .int .i64 t400]] rfl (by (try simp only [mp]); first | done | rfl | (simp only [ld]; rfl)) ?_; (with_reducible refine (ratio_Is.calls kj93 t399 t400 true _ A104.out).mono ?_); rintro e w113 ⟨rfl, hb⟩; refine ⟨_, rfl, ?_⟩; replace BK387 := kb BK387 hb; replace BK388 := kb BK388 hb; replace BK389 := kb BK389 hb; replace BK412 := kb BK412 hb; replace HB := hb_ w hb; have hnb114 := NB412_387.out; have hnc114 := NB387_412.out; have hnb115 := NB412_389.out; have hnc115 := NB389_412.out; obtain ⟨hcz116_0, hcz116_1, hcz116_2, hcz116_3, hcz116_4, hcz116_5, hcz116_6⟩ := bc7 BK412.out; obtain ⟨hfz116_0, hfz116_1, hfz116_2, hfz116_3, hfz116_4, hfz116_5, hfz116_6⟩ := bf7 BK412.out) | (go_at_call 24; (with_reducible refine (ratio_Is.calls kj93 t392 t393 true _ A106.out).mono ?_); rintro e w117 ⟨rfl, hb⟩; replace BK387 := kb BK387 hb; replace BK388 := kb BK388 hb; replace BK389 := kb BK389 hb; replace BK412 := kb BK412 hb; replace HB := hb_ w hb; obtain ⟨hcz118_0, hcz118_1, hcz118_2, hcz118_3, hcz118_4, hcz118_5, hcz118_6⟩ := bc7 BK388.out; obtain ⟨hfz118_0, hfz118_1, hfz118_2, hfz118_3, hfz118_4, hfz118_5, hfz118_6⟩ := bf7 BK388.out; obtain ⟨hcz119_0, hcz119_1, hcz119_2, hcz119_3, hcz119_4, hcz119_5, hcz119_6⟩ := bc7 BK412.out; obtain ⟨hfz119_0, hfz119_1, hfz119_2, hfz119_3, hfz119_4, hfz119_5, hfz119_6⟩ := bf7 BK412.out) | (go_at_call 25; (with_reducible refine (ratio_Cmp.calls kj93 t399 t400 t392 t393 t418 _ A108.out).mono ?_); rintro e w120 ⟨rfl, hb⟩; replace BK387 := kb BK387 hb; replace BK388 := kb BK388 hb; replace BK389 := kb BK389 hb; replace BK412 := kb BK412 hb; replace HB := hb_ w hb; )); go_meet
             case rel => exact ⟨_, (decide (t418 < 0)), (by first | rfl | (simp; done) | (simp [*]; done)), H', ⟨by have := HJ4.out; have := HJ34.out; have := HJ51.out; have := HJ93.out; first | omega | exact Nat.le_refl _⟩, ⟨bk BK387.out⟩, ⟨bk BK388.out⟩, ⟨bk BK389.out⟩, ⟨bk BK412.out⟩, ab2_⟩
            ·
             replace c107 := Bool.eq_false_iff.mpr c107; subst c107; rw [if_neg (show ¬ (false = true) by decide)] at H; have H' := Aside0.mk H; clear H; have hnb121 := NB388_387.out; have hnc121 := NB387_388.out; have hnb122 := NB388_389.out; have hnc122 := NB389_388.out; have hnb123 := NB388_412.out; have hnc123 := NB412_388.out; obtain ⟨hcz124_0, hcz124_1, hcz124_2, hcz124_3, hcz124_4, hcz124_5, hcz124_6⟩ := bc7 BK388.out; obtain ⟨hfz124_0, hfz124_1, hfz124_2, hfz124_3, hfz124_4, hfz124_5, hfz124_6⟩ := bf7 BK388.out; go_wp2_with (first | ((with_reducible refine gate_callee (f := 24) rfl ?_); refine goesL_ (some 58) rfl rfl Tryz.func24 (by kernel_rfl) rfl #[.agg #[.int .i64 t399, .int .i64 t400]] rfl (by (try simp only [mp]); first | done | rfl | (simp only [ld]; rfl)) ?_; (with_reducible refine (ratio_Is.calls kj93 t399 t400 true _ A104.out).mono ?_); rintro e w125 ⟨rfl, hb⟩; refine ⟨_, rfl, ?_⟩; replace BK387 := kb BK387 hb; replace BK388 := kb BK388 hb; replace BK389 := kb BK389 hb; replace BK412 := kb BK412 hb; replace HB := hb_ w hb; have hnb126 := NB412_387.out; have hnc126 := NB387_412.out; have hnb127 := NB412_389.out; have hnc127 := NB389_412.out; obtain ⟨hcz128_0, hcz128_1, hcz128_2, hcz128_3, hcz128_4, hcz128_5, hcz128_6⟩ := bc7 BK412.out; obtain ⟨hfz128_0, hfz128_1, hfz128_2, hfz128_3, hfz128_4, hfz128_5, hfz128_6⟩ := bf7 BK412.out) | (go_at_call 24; (with_reducible refine (ratio_Is.calls kj93 t392 t393 false _ A106.out).mono ?_); rintro e w129 ⟨rfl, hb⟩; replace BK387 := kb BK387 hb; replace BK388 := kb BK388 hb; replace BK389 := kb BK389 hb; replace BK412 := kb BK412 hb; replace HB := hb_ w hb; )); go_meet
             case rel => exact ⟨_, (true), (by first | rfl | (simp; done) | (simp [*]; done)), H', ⟨by have := HJ4.out; have := HJ34.out; have := HJ51.out; have := HJ93.out; first | omega | exact Nat.le_refl _⟩, ⟨bk BK387.out⟩, ⟨bk BK388.out⟩, ⟨bk BK389.out⟩, ⟨bk BK412.out⟩, ab2_⟩
           ·
            replace c105 := Bool.eq_false_iff.mpr c105; subst c105; rw [if_neg (show ¬ (false = true) by decide)] at H; have H' := Aside0.mk H; clear H; have hnb130 := NB388_387.out; have hnc130 := NB387_388.out; have hnb131 := NB388_389.out; have hnc131 := NB389_388.out; have hnb132 := NB388_412.out; have hnc132 := NB412_388.out; obtain ⟨hcz133_0, hcz133_1, hcz133_2, hcz133_3, hcz133_4, hcz133_5, hcz133_6⟩ := bc7 BK388.out; obtain ⟨hfz133_0, hfz133_1, hfz133_2, hfz133_3, hfz133_4, hfz133_5, hfz133_6⟩ := bf7 BK388.out; go_wp2_with (first | ((with_reducible refine gate_callee (f := 24) rfl ?_); refine goesL_ (some 58) rfl rfl Tryz.func24 (by kernel_rfl) rfl #[.agg #[.int .i64 t399, .int .i64 t400]] rfl (by (try simp only [mp]); first | done | rfl | (simp only [ld]; rfl)) ?_; (with_reducible refine (ratio_Is.calls kj93 t399 t400 false _ A104.out).mono ?_); rintro e w134 ⟨rfl, hb⟩; refine ⟨_, rfl, ?_⟩; replace BK387 := kb BK387 hb; replace BK388 := kb BK388 hb; replace BK389 := kb BK389 hb; replace BK412 := kb BK412 hb; replace HB := hb_ w hb; )); go_meet
            case rel => exact ⟨_, (false), (by first | rfl | (simp; done) | (simp [*]; done)), H', ⟨by have := HJ4.out; have := HJ34.out; have := HJ51.out; have := HJ93.out; first | omega | exact Nat.le_refl _⟩, ⟨bk BK387.out⟩, ⟨bk BK388.out⟩, ⟨bk BK389.out⟩, ⟨bk BK412.out⟩, ab2_⟩
          case rest =>
           clear HC103; obtain ⟨kq, x72_102, rfl, HA, HJ102, BK387, BK388, BK389, BK412, HB⟩ := hcut; cases kq with
           | zero => exact absurd HA.out (by simp [span_Meet.j4])
           | succ kj102 =>
            have H := HA.out; clear HA; simp only [span_Meet.j4] at H; have HC135 := Aside0.mk H; clear H; go_upto_if 72 with (fail)
            go_cut [] (fun wc => ∃ (kq : Nat) (x413002_134 : Int) (x413003_134 : Int), Aside0 (span_Meet.j5 kq x5_4 x413000_93 x413001_93 x413002_134 x413003_134 t411 x5_4 false = some (r1, r2, r3, r4, r5, r6, r7)) ∧ Aside0 (kq ≤ kj102) ∧ Aside0 (wc.heap[gb387]? = some (.cells #[.int .i64 t390, .int .i64 t391, .int .i64 t392, .int .i64 t393, .int .i64 t394, .bool t395, .bool t396] 25 (0, 0))) ∧ Aside0 (wc.heap[gb388]? = some (.cells #[.int .i64 t397, .int .i64 t398, .int .i64 t399, .int .i64 t400, .int .i64 t401, .bool t402, .bool t403] 25 (0, 0))) ∧ Aside0 (wc.heap[gb389]? = some (.cells #[.int .i64 0, .int .i64 0, .int .i64 0, .int .i64 0, .int .i64 0, .bool false, .bool false] 25 (0, 0))) ∧ Aside0 (wc.heap[gb412]? = some (.cells #[.int .i64 x413000_93, .int .i64 x413001_93, .int .i64 x413002_134, .int .i64 x413003_134, .int .i64 t411, .bool x5_4, .bool false] 25 (0, 0))) ∧ Aside0 (Below w.heap.size w wc))
            case first =>
             have H := HC135.out; clear HC135; by_cases c136 : x72_102 = true
             ·
              subst c136; rw [if_pos rfl] at H; have H' := Aside0.mk H; clear H; have hnb137 := NB388_387.out; have hnc137 := NB387_388.out; have hnb138 := NB388_389.out; have hnc138 := NB389_388.out; have hnb139 := NB388_412.out; have hnc139 := NB412_388.out; obtain ⟨hcz140_0, hcz140_1, hcz140_2, hcz140_3, hcz140_4, hcz140_5, hcz140_6⟩ := bc7 BK388.out; obtain ⟨hfz140_0, hfz140_1, hfz140_2, hfz140_3, hfz140_4, hfz140_5, hfz140_6⟩ := bf7 BK388.out; have hnb141 := NB412_387.out; have hnc141 := NB387_412.out; have hnb142 := NB412_389.out; have hnc142 := NB389_412.out; obtain ⟨hcz143_0, hcz143_1, hcz143_2, hcz143_3, hcz143_4, hcz143_5, hcz143_6⟩ := bc7 BK412.out; obtain ⟨hfz143_0, hfz143_1, hfz143_2, hfz143_3, hfz143_4, hfz143_5, hfz143_6⟩ := bf7 BK412.out; go_wp2; go_meet
              case rel => exact ⟨_, (t399), (t400), H', ⟨by have := HJ4.out; have := HJ34.out; have := HJ51.out; have := HJ93.out; have := HJ102.out; first | omega | exact Nat.le_refl _⟩, ⟨by refine f1 NB387_412 ?_; refine f1 NB387_412 ?_; refine bk ?_; exact BK387.out⟩, ⟨by refine f1 NB388_412 ?_; refine f1 NB388_412 ?_; refine bk ?_; exact BK388.out⟩, ⟨by refine f1 NB389_412 ?_; refine f1 NB389_412 ?_; refine bk ?_; exact BK389.out⟩, ⟨by exact rq BK412.out (by rfl)⟩, ab2_⟩
             ·
              replace c136 := Bool.eq_false_iff.mpr c136; subst c136; rw [if_neg (show ¬ (false = true) by decide)] at H; have H' := Aside0.mk H; clear H; go_wp2; go_meet
              case rel => exact ⟨_, (t392), (t393), H', ⟨by have := HJ4.out; have := HJ34.out; have := HJ51.out; have := HJ93.out; have := HJ102.out; first | omega | exact Nat.le_refl _⟩, ⟨bk BK387.out⟩, ⟨bk BK388.out⟩, ⟨bk BK389.out⟩, ⟨bk BK412.out⟩, ab2_⟩
            case rest =>
             clear HC135; obtain ⟨kq, x413002_134, x413003_134, HA, HJ134, BK387, BK388, BK389, BK412, HB⟩ := hcut; cases kq with
             | zero => exact absurd HA.out (by simp [span_Meet.j5])
             | succ kj134 =>
              have H := HA.out; clear HA; simp only [span_Meet.j5] at H; replace H := Option.bind_eq_some_iff.mp H; obtain ⟨t419, A1440, H⟩ := H; (try dsimp only at H); have A144 := Aside0.mk A1440; clear A1440; by_cases c145 : t419 = true
              ·
               subst c145; rw [if_pos rfl] at H; replace H := Option.bind_eq_some_iff.mp H; obtain ⟨t420, A1460, H⟩ := H; (try dsimp only at H); have A146 := Aside0.mk A1460; clear A1460; by_cases c147 : t420 = true
               ·
                subst c147; rw [if_pos rfl] at H; replace H := Option.bind_eq_some_iff.mp H; obtain ⟨t421, A1480, H⟩ := H; (try dsimp only at H); have A148 := Aside0.mk A1480; clear A1480; by_cases c149 : t421 > 0
                · rw [if_pos c149] at H; have c149b0 : decide (0 < t421) = true := decide_eq_true c149; clear c149; replace H := Option.bind_eq_some_iff.mp H; obtain ⟨⟨t422, t423, t424, t425, t426, t427, t428⟩, A1500, H⟩ := H; (try dsimp only at H); have A150 := Aside0.mk A1500; clear A1500; simp only [Option.some.injEq, Prod.mk.injEq] at H; obtain ⟨rfl, rfl, rfl, rfl, rfl, rfl, rfl⟩ := H; have hnb151 := NB412_387.out; have hnc151 := NB387_412.out; have hnb152 := NB412_388.out; have hnc152 := NB388_412.out; have hnb153 := NB412_389.out; have hnc153 := NB389_412.out; obtain ⟨hcz154_0, hcz154_1, hcz154_2, hcz154_3, hcz154_4, hcz154_5, hcz154_6⟩ := bc7 BK412.out; obtain ⟨hfz154_0, hfz154_1, hfz154_2, hfz154_3, hfz154_4, hfz154_5, hfz154_6⟩ := bf7 BK412.out; go_wp2_with (first | ((with_reducible refine gate_callee (f := 24) rfl ?_); refine goesL_ (some 78) rfl rfl Tryz.func24 (by kernel_rfl) rfl #[.agg #[.int .i64 x413000_93, .int .i64 x413001_93]] rfl (by (try simp only [mp]); first | done | rfl | (simp only [ld]; rfl)) ?_; (with_reducible refine (ratio_Is.calls kj134 x413000_93 x413001_93 true _ A144.out).mono ?_); rintro e w155 ⟨rfl, hb⟩; refine ⟨_, rfl, ?_⟩; replace BK387 := kb BK387 hb; replace BK388 := kb BK388 hb; replace BK389 := kb BK389 hb; replace BK412 := kb BK412 hb; replace HB := hb_ w hb; obtain ⟨hcz156_0, hcz156_1, hcz156_2, hcz156_3, hcz156_4, hcz156_5, hcz156_6⟩ := bc7 BK412.out; obtain ⟨hfz156_0, hfz156_1, hfz156_2, hfz156_3, hfz156_4, hfz156_5, hfz156_6⟩ := bf7 BK412.out) | (go_at_call 24; (with_reducible refine (ratio_Is.calls kj134 x413002_134 x413003_134 true _ A146.out).mono ?_); rintro e w157 ⟨rfl, hb⟩; replace BK387 := kb BK387 hb; replace BK388 := kb BK388 hb; replace BK389 := kb BK389 hb; replace BK412 := kb BK412 hb; replace HB := hb_ w hb; obtain ⟨hcz158_0, hcz158_1, hcz158_2, hcz158_3, hcz158_4, hcz158_5, hcz158_6⟩ := bc7 BK412.out; obtain ⟨hfz158_0, hfz158_1, hfz158_2, hfz158_3, hfz158_4, hfz158_5, hfz158_6⟩ := bf7 BK412.out) | (go_at_call 25; (with_reducible refine (ratio_Cmp.calls kj134 x413000_93 x413001_93 x413002_134 x413003_134 t421 _ A148.out).mono ?_); rintro e w159 ⟨rfl, hb⟩; replace BK387 := kb BK387 hb; replace BK388 := kb BK388 hb; replace BK389 := kb BK389 hb; replace BK412 := kb BK412 hb; replace HB := hb_ w hb; ) | ((with_reducible refine gate_callee (f := 41) rfl ?_); refine goesL_ (some 93) rfl rfl Tryz.func41 (by kernel_rfl) rfl #[.bool x5_4] rfl (by (try simp only [mp]); first | done | rfl | (simp only [ld]; rfl)) ?_; (with_reducible refine (span_empty.calls x5_4 t422 t423 t424 t425 t426 t427 t428 _ A150.out).mono ?_); rintro e w160 ⟨rfl, hb⟩; refine ⟨_, rfl, ?_⟩; replace BK387 := kb BK387 hb; replace BK388 := kb BK388 hb; replace BK389 := kb BK389 hb; replace BK412 := kb BK412 hb; replace HB := hb_ w hb; have hnb161 := NB389_387.out; have hnc161 := NB387_389.out; have hnb162 := NB389_388.out; have hnc162 := NB388_389.out; obtain ⟨hcz163_0, hcz163_1, hcz163_2, hcz163_3, hcz163_4, hcz163_5, hcz163_6⟩ := bc7 BK389.out; obtain ⟨hfz163_0, hfz163_1, hfz163_2, hfz163_3, hfz163_4, hfz163_5, hfz163_6⟩ := bf7 BK389.out)); refine bodyPost_ret (results_cell_row rfl _ _ gb389 25 #[.int .i64 t422, .int .i64 t423, .int .i64 t424, .int .i64 t425, .int .i64 t426, .bool t427, .bool t428] (0, 0) _ rfl (by exact rq BK389.out (by rfl)) Tryz.underlying25 rfl (by kernel_rfl)) rfl ?_; exact en_
                · rw [if_neg c149] at H; have c149b0 : decide (0 < t421) = false := decide_eq_false c149; clear c149; simp only [Option.some.injEq, Prod.mk.injEq] at H; obtain ⟨rfl, rfl, rfl, rfl, rfl, rfl, rfl⟩ := H; have hnb164 := NB412_387.out; have hnc164 := NB387_412.out; have hnb165 := NB412_388.out; have hnc165 := NB388_412.out; have hnb166 := NB412_389.out; have hnc166 := NB389_412.out; obtain ⟨hcz167_0, hcz167_1, hcz167_2, hcz167_3, hcz167_4, hcz167_5, hcz167_6⟩ := bc7 BK412.out; obtain ⟨hfz167_0, hfz167_1, hfz167_2, hfz167_3, hfz167_4, hfz167_5, hfz167_6⟩ := bf7 BK412.out; go_wp2_with (first | ((with_reducible refine gate_callee (f := 24) rfl ?_); refine goesL_ (some 78) rfl rfl Tryz.func24 (by kernel_rfl) rfl #[.agg #[.int .i64 x413000_93, .int .i64 x413001_93]] rfl (by (try simp only [mp]); first | done | rfl | (simp only [ld]; rfl)) ?_; (with_reducible refine (ratio_Is.calls kj134 x413000_93 x413001_93 true _ A144.out).mono ?_); rintro e w168 ⟨rfl, hb⟩; refine ⟨_, rfl, ?_⟩; replace BK387 := kb BK387 hb; replace BK388 := kb BK388 hb; replace BK389 := kb BK389 hb; replace BK412 := kb BK412 hb; replace HB := hb_ w hb; obtain ⟨hcz169_0, hcz169_1, hcz169_2, hcz169_3, hcz169_4, hcz169_5, hcz169_6⟩ := bc7 BK412.out; obtain ⟨hfz169_0, hfz169_1, hfz169_2, hfz169_3, hfz169_4, hfz169_5, hfz169_6⟩ := bf7 BK412.out) | (go_at_call 24; (with_reducible refine (ratio_Is.calls kj134 x413002_134 x413003_134 true _ A146.out).mono ?_); rintro e w170 ⟨rfl, hb⟩; replace BK387 := kb BK387 hb; replace BK388 := kb BK388 hb; replace BK389 := kb BK389 hb; replace BK412 := kb BK412 hb; replace HB := hb_ w hb; obtain ⟨hcz171_0, hcz171_1, hcz171_2, hcz171_3, hcz171_4, hcz171_5, hcz171_6⟩ := bc7 BK412.out; obtain ⟨hfz171_0, hfz171_1, hfz171_2, hfz171_3, hfz171_4, hfz171_5, hfz171_6⟩ := bf7 BK412.out) | (go_at_call 25; (with_reducible refine (ratio_Cmp.calls kj134 x413000_93 x413001_93 x413002_134 x413003_134 t421 _ A148.out).mono ?_); rintro e w172 ⟨rfl, hb⟩; replace BK387 := kb BK387 hb; replace BK388 := kb BK388 hb; replace BK389 := kb BK389 hb; replace BK412 := kb BK412 hb; replace HB := hb_ w hb; obtain ⟨hcz173_0, hcz173_1, hcz173_2, hcz173_3, hcz173_4, hcz173_5, hcz173_6⟩ := bc7 BK412.out; obtain ⟨hfz173_0, hfz173_1, hfz173_2, hfz173_3, hfz173_4, hfz173_5, hfz173_6⟩ := bf7 BK412.out; have hnb174 := NB389_387.out; have hnc174 := NB387_389.out; have hnb175 := NB389_388.out; have hnc175 := NB388_389.out; obtain ⟨hcz176_0, hcz176_1, hcz176_2, hcz176_3, hcz176_4, hcz176_5, hcz176_6⟩ := bc7 BK389.out; obtain ⟨hfz176_0, hfz176_1, hfz176_2, hfz176_3, hfz176_4, hfz176_5, hfz176_6⟩ := bf7 BK389.out)); refine bodyPost_ret (results_cell_row rfl _ _ gb389 25 #[.int .i64 x413000_93, .int .i64 x413001_93, .int .i64 x413002_134, .int .i64 x413003_134, .int .i64 t411, .bool x5_4, .bool false] (0, 0) _ rfl (by exact rq BK389.out (by rfl)) Tryz.underlying25 rfl (by kernel_rfl)) rfl ?_; exact en_
               · replace c147 := Bool.eq_false_iff.mpr c147; subst c147; rw [if_neg (show ¬ (false = true) by decide)] at H; simp only [Option.some.injEq, Prod.mk.injEq] at H; obtain ⟨rfl, rfl, rfl, rfl, rfl, rfl, rfl⟩ := H; have hnb177 := NB412_387.out; have hnc177 := NB387_412.out; have hnb178 := NB412_388.out; have hnc178 := NB388_412.out; have hnb179 := NB412_389.out; have hnc179 := NB389_412.out; obtain ⟨hcz180_0, hcz180_1, hcz180_2, hcz180_3, hcz180_4, hcz180_5, hcz180_6⟩ := bc7 BK412.out; obtain ⟨hfz180_0, hfz180_1, hfz180_2, hfz180_3, hfz180_4, hfz180_5, hfz180_6⟩ := bf7 BK412.out; go_wp2_with (first | ((with_reducible refine gate_callee (f := 24) rfl ?_); refine goesL_ (some 78) rfl rfl Tryz.func24 (by kernel_rfl) rfl #[.agg #[.int .i64 x413000_93, .int .i64 x413001_93]] rfl (by (try simp only [mp]); first | done | rfl | (simp only [ld]; rfl)) ?_; (with_reducible refine (ratio_Is.calls kj134 x413000_93 x413001_93 true _ A144.out).mono ?_); rintro e w181 ⟨rfl, hb⟩; refine ⟨_, rfl, ?_⟩; replace BK387 := kb BK387 hb; replace BK388 := kb BK388 hb; replace BK389 := kb BK389 hb; replace BK412 := kb BK412 hb; replace HB := hb_ w hb; obtain ⟨hcz182_0, hcz182_1, hcz182_2, hcz182_3, hcz182_4, hcz182_5, hcz182_6⟩ := bc7 BK412.out; obtain ⟨hfz182_0, hfz182_1, hfz182_2, hfz182_3, hfz182_4, hfz182_5, hfz182_6⟩ := bf7 BK412.out) | (go_at_call 24; (with_reducible refine (ratio_Is.calls kj134 x413002_134 x413003_134 false _ A146.out).mono ?_); rintro e w183 ⟨rfl, hb⟩; replace BK387 := kb BK387 hb; replace BK388 := kb BK388 hb; replace BK389 := kb BK389 hb; replace BK412 := kb BK412 hb; replace HB := hb_ w hb; obtain ⟨hcz184_0, hcz184_1, hcz184_2, hcz184_3, hcz184_4, hcz184_5, hcz184_6⟩ := bc7 BK412.out; obtain ⟨hfz184_0, hfz184_1, hfz184_2, hfz184_3, hfz184_4, hfz184_5, hfz184_6⟩ := bf7 BK412.out; have hnb185 := NB389_387.out; have hnc185 := NB387_389.out; have hnb186 := NB389_388.out; have hnc186 := NB388_389.out; obtain ⟨hcz187_0, hcz187_1, hcz187_2, hcz187_3, hcz187_4, hcz187_5, hcz187_6⟩ := bc7 BK389.out; obtain ⟨hfz187_0, hfz187_1, hfz187_2, hfz187_3, hfz187_4, hfz187_5, hfz187_6⟩ := bf7 BK389.out)); refine bodyPost_ret (results_cell_row rfl _ _ gb389 25 #[.int .i64 x413000_93, .int .i64 x413001_93, .int .i64 x413002_134, .int .i64 x413003_134, .int .i64 t411, .bool x5_4, .bool false] (0, 0) _ rfl (by exact rq BK389.out (by rfl)) Tryz.underlying25 rfl (by kernel_rfl)) rfl ?_; exact en_
              · replace c145 := Bool.eq_false_iff.mpr c145; subst c145; rw [if_neg (show ¬ (false = true) by decide)] at H; simp only [Option.some.injEq, Prod.mk.injEq] at H; obtain ⟨rfl, rfl, rfl, rfl, rfl, rfl, rfl⟩ := H; have hnb188 := NB412_387.out; have hnc188 := NB387_412.out; have hnb189 := NB412_388.out; have hnc189 := NB388_412.out; have hnb190 := NB412_389.out; have hnc190 := NB389_412.out; obtain ⟨hcz191_0, hcz191_1, hcz191_2, hcz191_3, hcz191_4, hcz191_5, hcz191_6⟩ := bc7 BK412.out; obtain ⟨hfz191_0, hfz191_1, hfz191_2, hfz191_3, hfz191_4, hfz191_5, hfz191_6⟩ := bf7 BK412.out; go_wp2_with (first | ((with_reducible refine gate_callee (f := 24) rfl ?_); refine goesL_ (some 78) rfl rfl Tryz.func24 (by kernel_rfl) rfl #[.agg #[.int .i64 x413000_93, .int .i64 x413001_93]] rfl (by (try simp only [mp]); first | done | rfl | (simp only [ld]; rfl)) ?_; (with_reducible refine (ratio_Is.calls kj134 x413000_93 x413001_93 false _ A144.out).mono ?_); rintro e w192 ⟨rfl, hb⟩; refine ⟨_, rfl, ?_⟩; replace BK387 := kb BK387 hb; replace BK388 := kb BK388 hb; replace BK389 := kb BK389 hb; replace BK412 := kb BK412 hb; replace HB := hb_ w hb; obtain ⟨hcz193_0, hcz193_1, hcz193_2, hcz193_3, hcz193_4, hcz193_5, hcz193_6⟩ := bc7 BK412.out; obtain ⟨hfz193_0, hfz193_1, hfz193_2, hfz193_3, hfz193_4, hfz193_5, hfz193_6⟩ := bf7 BK412.out; have hnb194 := NB389_387.out; have hnc194 := NB387_389.out; have hnb195 := NB389_388.out; have hnc195 := NB388_389.out; obtain ⟨hcz196_0, hcz196_1, hcz196_2, hcz196_3, hcz196_4, hcz196_5, hcz196_6⟩ := bc7 BK389.out; obtain ⟨hfz196_0, hfz196_1, hfz196_2, hfz196_3, hfz196_4, hfz196_5, hfz196_6⟩ := bf7 BK389.out)); refine bodyPost_ret (results_cell_row rfl _ _ gb389 25 #[.int .i64 x413000_93, .int .i64 x413001_93, .int .i64 x413002_134, .int .i64 x413003_134, .int .i64 t411, .bool x5_4, .bool false] (0, 0) _ rfl (by exact rq BK389.out (by rfl)) Tryz.underlying25 rfl (by kernel_rfl)) rfl ?_; exact en_
def serinetteref03_Empty.f (a0 : Bool) : Option (Int × Int × Int × Int × Int × Bool × Bool) := some (0, 0, 0, 0, 0, a0, true)
set_option maxHeartbeats 8000000 in
set_option maxRecDepth 100000 in
theorem serinetteref03_Empty.calls (a0 : Bool) (r1 : Int) (r2 : Int) (r3 : Int) (r4 : Int) (r5 : Int) (r6 : Bool) (r7 : Bool) (w : World) (h : serinetteref03_Empty.f a0 = some (r1, r2, r3, r4, r5, r6, r7)) :
  Calls Tryz.prog 43 #[.bool a0] w fun e w' => e = .returned (.agg #[.int .i64 r1, .int .i64 r2, .int .i64 r3, .int .i64 r4, .int .i64 r5, .bool r6, .bool r7]) ∧ Below w.heap.size w w' := by
 have hu25 := Tryz.underlying25; have HB := Aside0.mk (Below.refl w.heap.size w); have H : (some (0, 0, 0, 0, 0, a0, true)) = some (r1, r2, r3, r4, r5, r6, r7) := h; clear h; simp only [Option.some.injEq, Prod.mk.injEq] at H; obtain ⟨rfl, rfl, rfl, rfl, rfl, rfl, rfl⟩ := H; go_enter Tryz.func43, Tryz.ntmps43; go_wp2_with (first | ((with_reducible refine gate_dst (N := 2) rfl ?_); refine bx_ 2 #[.int .i64 0, .int .i64 0, .int .i64 0, .int .i64 0, .int .i64 0, .bool false, .bool false] 25 ?_; intro gb429 hg w2 BK429 hb; have GE429 := hz_ hg HB; replace HB := hs HB hb; clear hb hg; obtain ⟨hcz3_0, hcz3_1, hcz3_2, hcz3_3, hcz3_4, hcz3_5, hcz3_6⟩ := bc7 BK429.out; obtain ⟨hfz3_0, hfz3_1, hfz3_2, hfz3_3, hfz3_4, hfz3_5, hfz3_6⟩ := bf7 BK429.out)); refine bodyPost_ret (results_cell_row rfl _ _ gb429 25 #[.int .i64 0, .int .i64 0, .int .i64 0, .int .i64 0, .int .i64 0, .bool a0, .bool true] (0, 0) _ rfl (by exact rq BK429.out (by rfl)) Tryz.underlying25 rfl (by kernel_rfl)) rfl ?_; exact en_
def serinetteref01_Clean.f (k : Nat) (a0_0 : Int) (a0_1 : Int) : Option (Int × Int) := (serinetteref01_Is.f k a0_0 a0_1).bind fun t432 => (if t432 = true then (some (a0_0, a0_1)) else ((serinetteref01_None.f).bind fun bt433 => (some (bt433.1, bt433.2))))
theorem serinetteref01_Clean.mono : ∀ a0 a1 k, LeO (serinetteref01_Clean.f k a0 a1) (serinetteref01_Clean.f (k + 1) a0 a1) := by
 intro a0 a1 k
 unfold serinetteref01_Clean.f
 repeat' first
   | (with_reducible exact serinetteref01_Is.mono _ _ _)
   | (with_reducible exact LeO.refl _)
   | (with_reducible exact LeO.none _)
   | (with_reducible refine LeO.ite ?_ ?_)
   | (with_reducible refine LeO.bind ?_ (fun _ => ?_))
   | exact serinetteref01_Is.mono _ _ _
   | exact LeO.none _
   | refine LeO.ite ?_ ?_
   | refine LeO.bind ?_ (fun _ => ?_)
set_option maxHeartbeats 8000000 in
set_option maxRecDepth 100000 in
theorem serinetteref01_Clean.calls (k : Nat) (a0_0 : Int) (a0_1 : Int) (r1 : Int) (r2 : Int) (w : World) (h : serinetteref01_Clean.f k a0_0 a0_1 = some (r1, r2)) :
  Calls Tryz.prog 57 #[.agg #[.int .i64 a0_0, .int .i64 a0_1]] w fun e w' => e = .returned (.agg #[.int .i64 r1, .int .i64 r2]) ∧ Below w.heap.size w w' := by
 have hu23 := Tryz.underlying23; have HB := Aside0.mk (Below.refl w.heap.size w); have H : ((serinetteref01_Is.f k a0_0 a0_1).bind fun t432 => (if t432 = true then (some (a0_0, a0_1)) else ((serinetteref01_None.f).bind fun bt433 => (some (bt433.1, bt433.2))))) = some (r1, r2) := h; clear h; replace H := Option.bind_eq_some_iff.mp H; obtain ⟨t432, A20, H⟩ := H; (try dsimp only at H); have A2 := Aside0.mk A20; clear A20; by_cases c3 : t432 = true
 · subst c3; rw [if_pos rfl] at H; simp only [Option.some.injEq, Prod.mk.injEq] at H; obtain ⟨rfl, rfl⟩ := H; go_enter Tryz.func57, Tryz.ntmps57; go_wp2_with (first | ((with_reducible refine gate_dst (N := 1) rfl ?_); refine bx_ 1 #[.int .i64 a0_0, .int .i64 a0_1] 23 ?_; intro gb430 hg w4 BK430 hb; have GE430 := hz_ hg HB; replace HB := hs HB hb; clear hb hg) | ((with_reducible refine gate_dst (N := 2) rfl ?_); refine bx_ 2 #[.int .i64 0, .int .i64 0] 23 ?_; intro gb431 hg w5 BK431 hb; have GE431 := ge_ w hg; have NB430_431 := nlk hg BK430; have NB431_430 := ngk hg BK430; replace BK430 := kb BK430 hb; replace HB := hb_ w hb; clear hb hg; have hnb6 := NB430_431.out; have hnc6 := NB431_430.out; obtain ⟨hcz7_0, hcz7_1⟩ := bc2 BK430.out; obtain ⟨hfz7_0, hfz7_1⟩ := bf2 BK430.out) | ((with_reducible refine gate_callee (f := 28) rfl ?_); refine goesL_ (some 4) rfl rfl Tryz.func28 (by kernel_rfl) rfl #[.agg #[.int .i64 a0_0, .int .i64 a0_1]] rfl (by (try simp only [mp]); first | done | rfl | (simp only [ld]; rfl)) ?_; (with_reducible refine (serinetteref01_Is.calls k a0_0 a0_1 true _ A2.out).mono ?_); rintro e w8 ⟨rfl, hb⟩; refine ⟨_, rfl, ?_⟩; replace BK430 := kb BK430 hb; replace BK431 := kb BK431 hb; replace HB := hb_ w hb; obtain ⟨hcz9_0, hcz9_1⟩ := bc2 BK430.out; obtain ⟨hfz9_0, hfz9_1⟩ := bf2 BK430.out; obtain ⟨hcz10_0, hcz10_1⟩ := bc2 BK431.out; obtain ⟨hfz10_0, hfz10_1⟩ := bf2 BK431.out)); refine bodyPost_ret (results_cell_row rfl _ _ gb431 23 #[.int .i64 a0_0, .int .i64 a0_1] (0, 0) _ rfl (by exact rq BK431.out (by rfl)) Tryz.underlying23 rfl (by kernel_rfl)) rfl ?_; exact en_
 · replace c3 := Bool.eq_false_iff.mpr c3; subst c3; rw [if_neg (show ¬ (false = true) by decide)] at H; replace H := Option.bind_eq_some_iff.mp H; obtain ⟨⟨t433, t434⟩, A110, H⟩ := H; (try dsimp only at H); have A11 := Aside0.mk A110; clear A110; simp only [Option.some.injEq, Prod.mk.injEq] at H; obtain ⟨rfl, rfl⟩ := H; go_enter Tryz.func57, Tryz.ntmps57; go_wp2_with (first | ((with_reducible refine gate_dst (N := 1) rfl ?_); refine bx_ 1 #[.int .i64 a0_0, .int .i64 a0_1] 23 ?_; intro gb430 hg w12 BK430 hb; have GE430 := hz_ hg HB; replace HB := hs HB hb; clear hb hg) | ((with_reducible refine gate_dst (N := 2) rfl ?_); refine bx_ 2 #[.int .i64 0, .int .i64 0] 23 ?_; intro gb431 hg w13 BK431 hb; have GE431 := ge_ w hg; have NB430_431 := nlk hg BK430; have NB431_430 := ngk hg BK430; replace BK430 := kb BK430 hb; replace HB := hb_ w hb; clear hb hg; have hnb14 := NB430_431.out; have hnc14 := NB431_430.out; obtain ⟨hcz15_0, hcz15_1⟩ := bc2 BK430.out; obtain ⟨hfz15_0, hfz15_1⟩ := bf2 BK430.out) | ((with_reducible refine gate_callee (f := 28) rfl ?_); refine goesL_ (some 4) rfl rfl Tryz.func28 (by kernel_rfl) rfl #[.agg #[.int .i64 a0_0, .int .i64 a0_1]] rfl (by (try simp only [mp]); first | done | rfl | (simp only [ld]; rfl)) ?_; (with_reducible refine (serinetteref01_Is.calls k a0_0 a0_1 false _ A2.out).mono ?_); rintro e w16 ⟨rfl, hb⟩; refine ⟨_, rfl, ?_⟩; replace BK430 := kb BK430 hb; replace BK431 := kb BK431 hb; replace HB := hb_ w hb; ) | ((with_reducible refine gate_callee (f := 26) rfl ?_); refine goesL_ (some 6) rfl rfl Tryz.func26 (by kernel_rfl) rfl #[] rfl (by (try simp only [mp]); first | done | rfl | (simp only [ld]; rfl)) ?_; (with_reducible refine (serinetteref01_None.calls  t433 t434 _ A11.out).mono ?_); rintro e w17 ⟨rfl, hb⟩; refine ⟨_, rfl, ?_⟩; replace BK430 := kb BK430 hb; replace BK431 := kb BK431 hb; replace HB := hb_ w hb; obtain ⟨hcz18_0, hcz18_1⟩ := bc2 BK431.out; obtain ⟨hfz18_0, hfz18_1⟩ := bf2 BK431.out)); refine bodyPost_ret (results_cell_row rfl _ _ gb431 23 #[.int .i64 t433, .int .i64 t434] (0, 0) _ rfl (by exact rq BK431.out (by rfl)) Tryz.underlying23 rfl (by kernel_rfl)) rfl ?_; exact en_
def serinetteref03_inner.f (k : Nat) (a0_0 : Int) (a0_1 : Int) (a1_0 : Int) (a1_1 : Int) (a2 : Bool) : Option (Int × Int) := (serinetteref01_Is.f k a0_0 a0_1).bind fun t438 => (if t438 = true then ((serinetteref01_Is.f k a1_0 a1_1).bind fun t441 => (if t441 = true then (if a2 = true then ((serinetteref01_Max.f k a0_0 a0_1 a1_0 a1_1).bind fun bt442 => (some (bt442.1, bt442.2))) else ((serinetteref01_Min.f k a0_0 a0_1 a1_0 a1_1).bind fun bt444 => (some (bt444.1, bt444.2)))) else (some (a0_0, a0_1)))) else ((serinetteref01_Clean.f k a1_0 a1_1).bind fun bt439 => (some (bt439.1, bt439.2))))
theorem serinetteref03_inner.mono : ∀ a0 a1 a2 a3 a4 k, LeO (serinetteref03_inner.f k a0 a1 a2 a3 a4) (serinetteref03_inner.f (k + 1) a0 a1 a2 a3 a4) := by
 intro a0 a1 a2 a3 a4 k
 unfold serinetteref03_inner.f
 repeat' first
   | (with_reducible exact serinetteref01_Clean.mono _ _ _)
   | (with_reducible exact serinetteref01_Is.mono _ _ _)
   | (with_reducible exact serinetteref01_Max.mono _ _ _ _ _)
   | (with_reducible exact serinetteref01_Min.mono _ _ _ _ _)
   | (with_reducible exact LeO.refl _)
   | (with_reducible exact LeO.none _)
   | (with_reducible refine LeO.ite ?_ ?_)
   | (with_reducible refine LeO.bind ?_ (fun _ => ?_))
   | exact serinetteref01_Clean.mono _ _ _
   | exact serinetteref01_Is.mono _ _ _
   | exact serinetteref01_Max.mono _ _ _ _ _
   | exact serinetteref01_Min.mono _ _ _ _ _
   | exact LeO.none _
   | refine LeO.ite ?_ ?_
   | refine LeO.bind ?_ (fun _ => ?_)
end Go.Proofs.YtlibjgmnookakaaGreatDoor.SSpanSays
namespace Go.Proofs.YtlibjgmnookakaaGreatDoor.SSpanSays
open Go.RowKit Go.Proofs.YtlibjgmnookakaaGreatDoor.Wd.PrintWords Go.Proofs.YtlibjgmnookakaaGreatDoor.Wd.PrintLast Go.Proofs.YtlibjgmnookakaaGreatDoor.Wd.PrintMore
attribute [local go_sem] max2_int min2_int max_two min_two max_three min_three max_four min_four
attribute [local go_sem] max2_int min2_int max_two min_two max_three min_three max_four min_four
attribute [local go_sem] max2_int min2_int max_two min_two max_three min_three max_four min_four
attribute [local go_sem high] eqA23
attribute [local go_sem high] eqA25
set_option maxHeartbeats 8000000 in
set_option maxRecDepth 100000 in
theorem serinetteref03_inner.calls (k : Nat) (a0_0 : Int) (a0_1 : Int) (a1_0 : Int) (a1_1 : Int) (a2 : Bool) (r1 : Int) (r2 : Int) (w : World) (h : serinetteref03_inner.f k a0_0 a0_1 a1_0 a1_1 a2 = some (r1, r2)) :
  Calls Tryz.prog 45 #[.agg #[.int .i64 a0_0, .int .i64 a0_1], .agg #[.int .i64 a1_0, .int .i64 a1_1], .bool a2] w fun e w' => e = .returned (.agg #[.int .i64 r1, .int .i64 r2]) ∧ Below w.heap.size w w' := by
 have hu23 := Tryz.underlying23; have HB := Aside0.mk (Below.refl w.heap.size w); have H : ((serinetteref01_Is.f k a0_0 a0_1).bind fun t438 => (if t438 = true then ((serinetteref01_Is.f k a1_0 a1_1).bind fun t441 => (if t441 = true then (if a2 = true then ((serinetteref01_Max.f k a0_0 a0_1 a1_0 a1_1).bind fun bt442 => (some (bt442.1, bt442.2))) else ((serinetteref01_Min.f k a0_0 a0_1 a1_0 a1_1).bind fun bt444 => (some (bt444.1, bt444.2)))) else (some (a0_0, a0_1)))) else ((serinetteref01_Clean.f k a1_0 a1_1).bind fun bt439 => (some (bt439.1, bt439.2))))) = some (r1, r2) := h; clear h; replace H := Option.bind_eq_some_iff.mp H; obtain ⟨t438, A40, H⟩ := H; (try dsimp only at H); have A4 := Aside0.mk A40; clear A40; by_cases c5 : t438 = true
 ·
  subst c5; rw [if_pos rfl] at H; replace H := Option.bind_eq_some_iff.mp H; obtain ⟨t441, A60, H⟩ := H; (try dsimp only at H); have A6 := Aside0.mk A60; clear A60; by_cases c7 : t441 = true
  ·
   subst c7; rw [if_pos rfl] at H; by_cases c8 : a2 = true
   · subst c8; rw [if_pos rfl] at H; replace H := Option.bind_eq_some_iff.mp H; obtain ⟨⟨t442, t443⟩, A90, H⟩ := H; (try dsimp only at H); have A9 := Aside0.mk A90; clear A90; simp only [Option.some.injEq, Prod.mk.injEq] at H; obtain ⟨rfl, rfl⟩ := H; go_enter Tryz.func45, Tryz.ntmps45; go_wp2_with (first | ((with_reducible refine gate_dst (N := 3) rfl ?_); refine bx_ 3 #[.int .i64 a0_0, .int .i64 a0_1] 23 ?_; intro gb435 hg w10 BK435 hb; have GE435 := hz_ hg HB; replace HB := hs HB hb; clear hb hg) | ((with_reducible refine gate_dst (N := 4) rfl ?_); refine bx_ 4 #[.int .i64 a1_0, .int .i64 a1_1] 23 ?_; intro gb436 hg w11 BK436 hb; have GE436 := ge_ w hg; have NB435_436 := nlk hg BK435; have NB436_435 := ngk hg BK435; replace BK435 := kb BK435 hb; replace HB := hb_ w hb; clear hb hg) | ((with_reducible refine gate_dst (N := 6) rfl ?_); refine bx_ 6 #[.int .i64 0, .int .i64 0] 23 ?_; intro gb437 hg w12 BK437 hb; have GE437 := ge_ w hg; have NB435_437 := nlk hg BK435; have NB437_435 := ngk hg BK435; have NB436_437 := nlk hg BK436; have NB437_436 := ngk hg BK436; replace BK435 := kb BK435 hb; replace BK436 := kb BK436 hb; replace HB := hb_ w hb; clear hb hg; have hnb13 := NB435_436.out; have hnc13 := NB436_435.out; have hnb14 := NB435_437.out; have hnc14 := NB437_435.out; obtain ⟨hcz15_0, hcz15_1⟩ := bc2 BK435.out; obtain ⟨hfz15_0, hfz15_1⟩ := bf2 BK435.out) | ((with_reducible refine gate_callee (f := 28) rfl ?_); refine goesL_ (some 8) rfl rfl Tryz.func28 (by kernel_rfl) rfl #[.agg #[.int .i64 a0_0, .int .i64 a0_1]] rfl (by (try simp only [mp]); first | done | rfl | (simp only [ld]; rfl)) ?_; (with_reducible refine (serinetteref01_Is.calls k a0_0 a0_1 true _ A4.out).mono ?_); rintro e w16 ⟨rfl, hb⟩; refine ⟨_, rfl, ?_⟩; replace BK435 := kb BK435 hb; replace BK436 := kb BK436 hb; replace BK437 := kb BK437 hb; replace HB := hb_ w hb; have hnb17 := NB436_437.out; have hnc17 := NB437_436.out; obtain ⟨hcz18_0, hcz18_1⟩ := bc2 BK436.out; obtain ⟨hfz18_0, hfz18_1⟩ := bf2 BK436.out) | ((with_reducible refine gate_callee (f := 28) rfl ?_); refine goesL_ (some 13) rfl rfl Tryz.func28 (by kernel_rfl) rfl #[.agg #[.int .i64 a1_0, .int .i64 a1_1]] rfl (by (try simp only [mp]); first | done | rfl | (simp only [ld]; rfl)) ?_; (with_reducible refine (serinetteref01_Is.calls k a1_0 a1_1 true _ A6.out).mono ?_); rintro e w19 ⟨rfl, hb⟩; refine ⟨_, rfl, ?_⟩; replace BK435 := kb BK435 hb; replace BK436 := kb BK436 hb; replace BK437 := kb BK437 hb; replace HB := hb_ w hb; obtain ⟨hcz20_0, hcz20_1⟩ := bc2 BK435.out; obtain ⟨hfz20_0, hfz20_1⟩ := bf2 BK435.out; obtain ⟨hcz21_0, hcz21_1⟩ := bc2 BK436.out; obtain ⟨hfz21_0, hfz21_1⟩ := bf2 BK436.out) | ((with_reducible refine gate_callee (f := 56) rfl ?_); refine goesL_ (some 19) rfl rfl Tryz.func56 (by kernel_rfl) rfl #[.agg #[.int .i64 a0_0, .int .i64 a0_1], .agg #[.int .i64 a1_0, .int .i64 a1_1]] rfl (by (try simp only [mp]); first | done | rfl | (simp only [ld]; rfl)) ?_; (with_reducible refine (serinetteref01_Max.calls k a0_0 a0_1 a1_0 a1_1 t442 t443 _ A9.out).mono ?_); rintro e w22 ⟨rfl, hb⟩; refine ⟨_, rfl, ?_⟩; replace BK435 := kb BK435 hb; replace BK436 := kb BK436 hb; replace BK437 := kb BK437 hb; replace HB := hb_ w hb; obtain ⟨hcz23_0, hcz23_1⟩ := bc2 BK437.out; obtain ⟨hfz23_0, hfz23_1⟩ := bf2 BK437.out)); refine bodyPost_ret (results_cell_row rfl _ _ gb437 23 #[.int .i64 t442, .int .i64 t443] (0, 0) _ rfl (by exact rq BK437.out (by rfl)) Tryz.underlying23 rfl (by kernel_rfl)) rfl ?_; exact en_
   · replace c8 := Bool.eq_false_iff.mpr c8; subst c8; rw [if_neg (show ¬ (false = true) by decide)] at H; replace H := Option.bind_eq_some_iff.mp H; obtain ⟨⟨t444, t445⟩, A240, H⟩ := H; (try dsimp only at H); have A24 := Aside0.mk A240; clear A240; simp only [Option.some.injEq, Prod.mk.injEq] at H; obtain ⟨rfl, rfl⟩ := H; go_enter Tryz.func45, Tryz.ntmps45; go_wp2_with (first | ((with_reducible refine gate_dst (N := 3) rfl ?_); refine bx_ 3 #[.int .i64 a0_0, .int .i64 a0_1] 23 ?_; intro gb435 hg w25 BK435 hb; have GE435 := hz_ hg HB; replace HB := hs HB hb; clear hb hg) | ((with_reducible refine gate_dst (N := 4) rfl ?_); refine bx_ 4 #[.int .i64 a1_0, .int .i64 a1_1] 23 ?_; intro gb436 hg w26 BK436 hb; have GE436 := ge_ w hg; have NB435_436 := nlk hg BK435; have NB436_435 := ngk hg BK435; replace BK435 := kb BK435 hb; replace HB := hb_ w hb; clear hb hg) | ((with_reducible refine gate_dst (N := 6) rfl ?_); refine bx_ 6 #[.int .i64 0, .int .i64 0] 23 ?_; intro gb437 hg w27 BK437 hb; have GE437 := ge_ w hg; have NB435_437 := nlk hg BK435; have NB437_435 := ngk hg BK435; have NB436_437 := nlk hg BK436; have NB437_436 := ngk hg BK436; replace BK435 := kb BK435 hb; replace BK436 := kb BK436 hb; replace HB := hb_ w hb; clear hb hg; have hnb28 := NB435_436.out; have hnc28 := NB436_435.out; have hnb29 := NB435_437.out; have hnc29 := NB437_435.out; obtain ⟨hcz30_0, hcz30_1⟩ := bc2 BK435.out; obtain ⟨hfz30_0, hfz30_1⟩ := bf2 BK435.out) | ((with_reducible refine gate_callee (f := 28) rfl ?_); refine goesL_ (some 8) rfl rfl Tryz.func28 (by kernel_rfl) rfl #[.agg #[.int .i64 a0_0, .int .i64 a0_1]] rfl (by (try simp only [mp]); first | done | rfl | (simp only [ld]; rfl)) ?_; (with_reducible refine (serinetteref01_Is.calls k a0_0 a0_1 true _ A4.out).mono ?_); rintro e w31 ⟨rfl, hb⟩; refine ⟨_, rfl, ?_⟩; replace BK435 := kb BK435 hb; replace BK436 := kb BK436 hb; replace BK437 := kb BK437 hb; replace HB := hb_ w hb; have hnb32 := NB436_437.out; have hnc32 := NB437_436.out; obtain ⟨hcz33_0, hcz33_1⟩ := bc2 BK436.out; obtain ⟨hfz33_0, hfz33_1⟩ := bf2 BK436.out) | ((with_reducible refine gate_callee (f := 28) rfl ?_); refine goesL_ (some 13) rfl rfl Tryz.func28 (by kernel_rfl) rfl #[.agg #[.int .i64 a1_0, .int .i64 a1_1]] rfl (by (try simp only [mp]); first | done | rfl | (simp only [ld]; rfl)) ?_; (with_reducible refine (serinetteref01_Is.calls k a1_0 a1_1 true _ A6.out).mono ?_); rintro e w34 ⟨rfl, hb⟩; refine ⟨_, rfl, ?_⟩; replace BK435 := kb BK435 hb; replace BK436 := kb BK436 hb; replace BK437 := kb BK437 hb; replace HB := hb_ w hb; obtain ⟨hcz35_0, hcz35_1⟩ := bc2 BK435.out; obtain ⟨hfz35_0, hfz35_1⟩ := bf2 BK435.out; obtain ⟨hcz36_0, hcz36_1⟩ := bc2 BK436.out; obtain ⟨hfz36_0, hfz36_1⟩ := bf2 BK436.out) | ((with_reducible refine gate_callee (f := 55) rfl ?_); refine goesL_ (some 22) rfl rfl Tryz.func55 (by kernel_rfl) rfl #[.agg #[.int .i64 a0_0, .int .i64 a0_1], .agg #[.int .i64 a1_0, .int .i64 a1_1]] rfl (by (try simp only [mp]); first | done | rfl | (simp only [ld]; rfl)) ?_; (with_reducible refine (serinetteref01_Min.calls k a0_0 a0_1 a1_0 a1_1 t444 t445 _ A24.out).mono ?_); rintro e w37 ⟨rfl, hb⟩; refine ⟨_, rfl, ?_⟩; replace BK435 := kb BK435 hb; replace BK436 := kb BK436 hb; replace BK437 := kb BK437 hb; replace HB := hb_ w hb; obtain ⟨hcz38_0, hcz38_1⟩ := bc2 BK437.out; obtain ⟨hfz38_0, hfz38_1⟩ := bf2 BK437.out)); refine bodyPost_ret (results_cell_row rfl _ _ gb437 23 #[.int .i64 t444, .int .i64 t445] (0, 0) _ rfl (by exact rq BK437.out (by rfl)) Tryz.underlying23 rfl (by kernel_rfl)) rfl ?_; exact en_
  · replace c7 := Bool.eq_false_iff.mpr c7; subst c7; rw [if_neg (show ¬ (false = true) by decide)] at H; simp only [Option.some.injEq, Prod.mk.injEq] at H; obtain ⟨rfl, rfl⟩ := H; go_enter Tryz.func45, Tryz.ntmps45; go_wp2_with (first | ((with_reducible refine gate_dst (N := 3) rfl ?_); refine bx_ 3 #[.int .i64 a0_0, .int .i64 a0_1] 23 ?_; intro gb435 hg w39 BK435 hb; have GE435 := hz_ hg HB; replace HB := hs HB hb; clear hb hg) | ((with_reducible refine gate_dst (N := 4) rfl ?_); refine bx_ 4 #[.int .i64 a1_0, .int .i64 a1_1] 23 ?_; intro gb436 hg w40 BK436 hb; have GE436 := ge_ w hg; have NB435_436 := nlk hg BK435; have NB436_435 := ngk hg BK435; replace BK435 := kb BK435 hb; replace HB := hb_ w hb; clear hb hg) | ((with_reducible refine gate_dst (N := 6) rfl ?_); refine bx_ 6 #[.int .i64 0, .int .i64 0] 23 ?_; intro gb437 hg w41 BK437 hb; have GE437 := ge_ w hg; have NB435_437 := nlk hg BK435; have NB437_435 := ngk hg BK435; have NB436_437 := nlk hg BK436; have NB437_436 := ngk hg BK436; replace BK435 := kb BK435 hb; replace BK436 := kb BK436 hb; replace HB := hb_ w hb; clear hb hg; have hnb42 := NB435_436.out; have hnc42 := NB436_435.out; have hnb43 := NB435_437.out; have hnc43 := NB437_435.out; obtain ⟨hcz44_0, hcz44_1⟩ := bc2 BK435.out; obtain ⟨hfz44_0, hfz44_1⟩ := bf2 BK435.out) | ((with_reducible refine gate_callee (f := 28) rfl ?_); refine goesL_ (some 8) rfl rfl Tryz.func28 (by kernel_rfl) rfl #[.agg #[.int .i64 a0_0, .int .i64 a0_1]] rfl (by (try simp only [mp]); first | done | rfl | (simp only [ld]; rfl)) ?_; (with_reducible refine (serinetteref01_Is.calls k a0_0 a0_1 true _ A4.out).mono ?_); rintro e w45 ⟨rfl, hb⟩; refine ⟨_, rfl, ?_⟩; replace BK435 := kb BK435 hb; replace BK436 := kb BK436 hb; replace BK437 := kb BK437 hb; replace HB := hb_ w hb; have hnb46 := NB436_437.out; have hnc46 := NB437_436.out; obtain ⟨hcz47_0, hcz47_1⟩ := bc2 BK436.out; obtain ⟨hfz47_0, hfz47_1⟩ := bf2 BK436.out) | ((with_reducible refine gate_callee (f := 28) rfl ?_); refine goesL_ (some 13) rfl rfl Tryz.func28 (by kernel_rfl) rfl #[.agg #[.int .i64 a1_0, .int .i64 a1_1]] rfl (by (try simp only [mp]); first | done | rfl | (simp only [ld]; rfl)) ?_; (with_reducible refine (serinetteref01_Is.calls k a1_0 a1_1 false _ A6.out).mono ?_); rintro e w48 ⟨rfl, hb⟩; refine ⟨_, rfl, ?_⟩; replace BK435 := kb BK435 hb; replace BK436 := kb BK436 hb; replace BK437 := kb BK437 hb; replace HB := hb_ w hb; obtain ⟨hcz49_0, hcz49_1⟩ := bc2 BK435.out; obtain ⟨hfz49_0, hfz49_1⟩ := bf2 BK435.out; obtain ⟨hcz50_0, hcz50_1⟩ := bc2 BK437.out; obtain ⟨hfz50_0, hfz50_1⟩ := bf2 BK437.out)); refine bodyPost_ret (results_cell_row rfl _ _ gb437 23 #[.int .i64 a0_0, .int .i64 a0_1] (0, 0) _ rfl (by exact rq BK437.out (by rfl)) Tryz.underlying23 rfl (by kernel_rfl)) rfl ?_; exact en_
 · replace c5 := Bool.eq_false_iff.mpr c5; subst c5; rw [if_neg (show ¬ (false = true) by decide)] at H; replace H := Option.bind_eq_some_iff.mp H; obtain ⟨⟨t439, t440⟩, A510, H⟩ := H; (try dsimp only at H); have A51 := Aside0.mk A510; clear A510; simp only [Option.some.injEq, Prod.mk.injEq] at H; obtain ⟨rfl, rfl⟩ := H; go_enter Tryz.func45, Tryz.ntmps45; go_wp2_with (first | ((with_reducible refine gate_dst (N := 3) rfl ?_); refine bx_ 3 #[.int .i64 a0_0, .int .i64 a0_1] 23 ?_; intro gb435 hg w52 BK435 hb; have GE435 := hz_ hg HB; replace HB := hs HB hb; clear hb hg) | ((with_reducible refine gate_dst (N := 4) rfl ?_); refine bx_ 4 #[.int .i64 a1_0, .int .i64 a1_1] 23 ?_; intro gb436 hg w53 BK436 hb; have GE436 := ge_ w hg; have NB435_436 := nlk hg BK435; have NB436_435 := ngk hg BK435; replace BK435 := kb BK435 hb; replace HB := hb_ w hb; clear hb hg) | ((with_reducible refine gate_dst (N := 6) rfl ?_); refine bx_ 6 #[.int .i64 0, .int .i64 0] 23 ?_; intro gb437 hg w54 BK437 hb; have GE437 := ge_ w hg; have NB435_437 := nlk hg BK435; have NB437_435 := ngk hg BK435; have NB436_437 := nlk hg BK436; have NB437_436 := ngk hg BK436; replace BK435 := kb BK435 hb; replace BK436 := kb BK436 hb; replace HB := hb_ w hb; clear hb hg; have hnb55 := NB435_436.out; have hnc55 := NB436_435.out; have hnb56 := NB435_437.out; have hnc56 := NB437_435.out; obtain ⟨hcz57_0, hcz57_1⟩ := bc2 BK435.out; obtain ⟨hfz57_0, hfz57_1⟩ := bf2 BK435.out) | ((with_reducible refine gate_callee (f := 28) rfl ?_); refine goesL_ (some 8) rfl rfl Tryz.func28 (by kernel_rfl) rfl #[.agg #[.int .i64 a0_0, .int .i64 a0_1]] rfl (by (try simp only [mp]); first | done | rfl | (simp only [ld]; rfl)) ?_; (with_reducible refine (serinetteref01_Is.calls k a0_0 a0_1 false _ A4.out).mono ?_); rintro e w58 ⟨rfl, hb⟩; refine ⟨_, rfl, ?_⟩; replace BK435 := kb BK435 hb; replace BK436 := kb BK436 hb; replace BK437 := kb BK437 hb; replace HB := hb_ w hb; have hnb59 := NB436_437.out; have hnc59 := NB437_436.out; obtain ⟨hcz60_0, hcz60_1⟩ := bc2 BK436.out; obtain ⟨hfz60_0, hfz60_1⟩ := bf2 BK436.out) | ((with_reducible refine gate_callee (f := 57) rfl ?_); refine goesL_ (some 11) rfl rfl Tryz.func57 (by kernel_rfl) rfl #[.agg #[.int .i64 a1_0, .int .i64 a1_1]] rfl (by (try simp only [mp]); first | done | rfl | (simp only [ld]; rfl)) ?_; (with_reducible refine (serinetteref01_Clean.calls k a1_0 a1_1 t439 t440 _ A51.out).mono ?_); rintro e w61 ⟨rfl, hb⟩; refine ⟨_, rfl, ?_⟩; replace BK435 := kb BK435 hb; replace BK436 := kb BK436 hb; replace BK437 := kb BK437 hb; replace HB := hb_ w hb; obtain ⟨hcz62_0, hcz62_1⟩ := bc2 BK437.out; obtain ⟨hfz62_0, hfz62_1⟩ := bf2 BK437.out)); refine bodyPost_ret (results_cell_row rfl _ _ gb437 23 #[.int .i64 t439, .int .i64 t440] (0, 0) _ rfl (by exact rq BK437.out (by rfl)) Tryz.underlying23 rfl (by kernel_rfl)) rfl ?_; exact en_
mutual
def serinetteref03_Meet.j0 : Nat → Bool → Int → Int → Int → Int → Int → Bool → Bool → Int → Int → Int → Int → Int → Bool → Bool → Option (Int × Int × Int × Int × Int × Bool × Bool)
 | 0, _, _, _, _, _, _, _, _, _, _, _, _, _, _, _ => none
 | k + 1, x5, x447000, x447001, x447002, x447003, x447004, x447005, x447006, x448000, x448001, x448002, x448003, x448004, x448005, x448006 => if x447006 = true then (serinetteref03_Meet.j1 k x5 true x447000 x447001 x447002 x447003 x447004 x447005 x447006 x448000 x448001 x448002 x448003 x448004 x448005 x448006) else (serinetteref03_Meet.j1 k x5 x448006 x447000 x447001 x447002 x447003 x447004 x447005 x447006 x448000 x448001 x448002 x448003 x448004 x448005 x448006)
def serinetteref03_Meet.j1 : Nat → Bool → Bool → Int → Int → Int → Int → Int → Bool → Bool → Int → Int → Int → Int → Int → Bool → Bool → Option (Int × Int × Int × Int × Int × Bool × Bool)
 | 0, _, _, _, _, _, _, _, _, _, _, _, _, _, _, _, _ => none
 | k + 1, x5, x23, x447000, x447001, x447002, x447003, x447004, x447005, x447006, x448000, x448001, x448002, x448003, x448004, x448005, x448006 => if x23 = true then ((serinetteref03_Empty.f x5).bind fun bt463 => (some (bt463.1, bt463.2.1, bt463.2.2.1, bt463.2.2.2.1, bt463.2.2.2.2.1, bt463.2.2.2.2.2.1, bt463.2.2.2.2.2.2))) else ((serinetteref01_Divisor.f k x447004 x448004).bind fun t470 => ((serinetteref03_inner.f k x447000 x447001 x448000 x448001 true).bind fun bt471 => ((serinetteref03_inner.f k x447002 x447003 x448002 x448003 false).bind fun bt473 => ((serinetteref01_Is.f k bt471.1 bt471.2).bind fun t476 => (if t476 = true then ((serinetteref01_Is.f k bt473.1 bt473.2).bind fun t477 => (if t477 = true then ((serinetteref01_Cmp.f k bt471.1 bt471.2 bt473.1 bt473.2).bind fun t478 => (if t478 > 0 then ((serinetteref03_Empty.f x5).bind fun bt479 => (some (bt479.1, bt479.2.1, bt479.2.2.1, bt479.2.2.2.1, bt479.2.2.2.2.1, bt479.2.2.2.2.2.1, bt479.2.2.2.2.2.2))) else (some (bt471.1, bt471.2, bt473.1, bt473.2, t470, x5, false)))) else (some (bt471.1, bt471.2, bt473.1, bt473.2, t470, x5, false)))) else (some (bt471.1, bt471.2, bt473.1, bt473.2, t470, x5, false)))))))
end
def serinetteref03_Meet.f (k : Nat) (a0_0 : Int) (a0_1 : Int) (a0_2 : Int) (a0_3 : Int) (a0_4 : Int) (a0_5 : Bool) (a0_6 : Bool) (a1_0 : Int) (a1_1 : Int) (a1_2 : Int) (a1_3 : Int) (a1_4 : Int) (a1_5 : Bool) (a1_6 : Bool) : Option (Int × Int × Int × Int × Int × Bool × Bool) := (serinetteref03_Clean.f k a0_0 a0_1 a0_2 a0_3 a0_4 a0_5 a0_6).bind fun bt449 => ((serinetteref03_Clean.f k a1_0 a1_1 a1_2 a1_3 a1_4 a1_5 a1_6).bind fun bt456 => (if bt449.2.2.2.2.2.1 = true then (serinetteref03_Meet.j0 k bt456.2.2.2.2.2.1 bt449.1 bt449.2.1 bt449.2.2.1 bt449.2.2.2.1 bt449.2.2.2.2.1 bt449.2.2.2.2.2.1 bt449.2.2.2.2.2.2 bt456.1 bt456.2.1 bt456.2.2.1 bt456.2.2.2.1 bt456.2.2.2.2.1 bt456.2.2.2.2.2.1 bt456.2.2.2.2.2.2) else (serinetteref03_Meet.j0 k false bt449.1 bt449.2.1 bt449.2.2.1 bt449.2.2.2.1 bt449.2.2.2.2.1 bt449.2.2.2.2.2.1 bt449.2.2.2.2.2.2 bt456.1 bt456.2.1 bt456.2.2.1 bt456.2.2.2.1 bt456.2.2.2.2.1 bt456.2.2.2.2.2.1 bt456.2.2.2.2.2.2)))
theorem serinetteref03_Meet.mono_l : ∀ k, (∀ y0 y1 y2 y3 y4 y5 y6 y7 y8 y9 y10 y11 y12 y13 y14, LeO (serinetteref03_Meet.j0 k y0 y1 y2 y3 y4 y5 y6 y7 y8 y9 y10 y11 y12 y13 y14) (serinetteref03_Meet.j0 (k + 1) y0 y1 y2 y3 y4 y5 y6 y7 y8 y9 y10 y11 y12 y13 y14)) ∧ (∀ y0 y1 y2 y3 y4 y5 y6 y7 y8 y9 y10 y11 y12 y13 y14 y15, LeO (serinetteref03_Meet.j1 k y0 y1 y2 y3 y4 y5 y6 y7 y8 y9 y10 y11 y12 y13 y14 y15) (serinetteref03_Meet.j1 (k + 1) y0 y1 y2 y3 y4 y5 y6 y7 y8 y9 y10 y11 y12 y13 y14 y15))
 | 0 => ⟨fun _ _ _ _ _ _ _ _ _ _ _ _ _ _ _ r h => by simp [serinetteref03_Meet.j0] at h, fun _ _ _ _ _ _ _ _ _ _ _ _ _ _ _ _ r h => by simp [serinetteref03_Meet.j1] at h⟩
 | k + 1 => by
  obtain ⟨ih0, ih1⟩ := serinetteref03_Meet.mono_l k
  refine ⟨?_, ?_⟩
  ·
   intro y0 y1 y2 y3 y4 y5 y6 y7 y8 y9 y10 y11 y12 y13 y14
   unfold serinetteref03_Meet.j0
   repeat' first
   | (with_reducible exact ih0 _ _ _ _ _ _ _ _ _ _ _ _ _ _ _)
   | (with_reducible exact ih1 _ _ _ _ _ _ _ _ _ _ _ _ _ _ _ _)
   | (with_reducible exact serinetteref01_Cmp.mono _ _ _ _ _)
   | (with_reducible exact serinetteref01_Divisor.mono _ _ _)
   | (with_reducible exact serinetteref01_Is.mono _ _ _)
   | (with_reducible exact serinetteref03_Clean.mono _ _ _ _ _ _ _ _)
   | (with_reducible exact serinetteref03_inner.mono _ _ _ _ _ _)
   | (with_reducible exact LeO.refl _)
   | (with_reducible exact LeO.none _)
   | (with_reducible refine LeO.ite ?_ ?_)
   | (with_reducible refine LeO.bind ?_ (fun _ => ?_))
   | exact ih0 _ _ _ _ _ _ _ _ _ _ _ _ _ _ _
   | exact ih1 _ _ _ _ _ _ _ _ _ _ _ _ _ _ _ _
   | exact serinetteref01_Cmp.mono _ _ _ _ _
   | exact serinetteref01_Divisor.mono _ _ _
   | exact serinetteref01_Is.mono _ _ _
   | exact serinetteref03_Clean.mono _ _ _ _ _ _ _ _
   | exact serinetteref03_inner.mono _ _ _ _ _ _
   | exact LeO.none _
   | refine LeO.ite ?_ ?_
   | refine LeO.bind ?_ (fun _ => ?_)
  ·
   intro y0 y1 y2 y3 y4 y5 y6 y7 y8 y9 y10 y11 y12 y13 y14 y15
   unfold serinetteref03_Meet.j1
   repeat' first
   | (with_reducible exact ih0 _ _ _ _ _ _ _ _ _ _ _ _ _ _ _)
   | (with_reducible exact ih1 _ _ _ _ _ _ _ _ _ _ _ _ _ _ _ _)
   | (with_reducible exact serinetteref01_Cmp.mono _ _ _ _ _)
   | (with_reducible exact serinetteref01_Divisor.mono _ _ _)
   | (with_reducible exact serinetteref01_Is.mono _ _ _)
   | (with_reducible exact serinetteref03_Clean.mono _ _ _ _ _ _ _ _)
   | (with_reducible exact serinetteref03_inner.mono _ _ _ _ _ _)
   | (with_reducible exact LeO.refl _)
   | (with_reducible exact LeO.none _)
   | (with_reducible refine LeO.ite ?_ ?_)
   | (with_reducible refine LeO.bind ?_ (fun _ => ?_))
   | exact ih0 _ _ _ _ _ _ _ _ _ _ _ _ _ _ _
   | exact ih1 _ _ _ _ _ _ _ _ _ _ _ _ _ _ _ _
   | exact serinetteref01_Cmp.mono _ _ _ _ _
   | exact serinetteref01_Divisor.mono _ _ _
   | exact serinetteref01_Is.mono _ _ _
   | exact serinetteref03_Clean.mono _ _ _ _ _ _ _ _
   | exact serinetteref03_inner.mono _ _ _ _ _ _
   | exact LeO.none _
   | refine LeO.ite ?_ ?_
   | refine LeO.bind ?_ (fun _ => ?_)
theorem serinetteref03_Meet.mono : ∀ a0 a1 a2 a3 a4 a5 a6 a7 a8 a9 a10 a11 a12 a13 k, LeO (serinetteref03_Meet.f k a0 a1 a2 a3 a4 a5 a6 a7 a8 a9 a10 a11 a12 a13) (serinetteref03_Meet.f (k + 1) a0 a1 a2 a3 a4 a5 a6 a7 a8 a9 a10 a11 a12 a13) := by
 intro a0 a1 a2 a3 a4 a5 a6 a7 a8 a9 a10 a11 a12 a13 k
 obtain ⟨ih0, ih1⟩ := serinetteref03_Meet.mono_l k
 unfold serinetteref03_Meet.f
 repeat' first
   | (with_reducible exact ih0 _ _ _ _ _ _ _ _ _ _ _ _ _ _ _)
   | (with_reducible exact ih1 _ _ _ _ _ _ _ _ _ _ _ _ _ _ _ _)
   | (with_reducible exact serinetteref01_Cmp.mono _ _ _ _ _)
   | (with_reducible exact serinetteref01_Divisor.mono _ _ _)
   | (with_reducible exact serinetteref01_Is.mono _ _ _)
   | (with_reducible exact serinetteref03_Clean.mono _ _ _ _ _ _ _ _)
   | (with_reducible exact serinetteref03_inner.mono _ _ _ _ _ _)
   | (with_reducible exact LeO.refl _)
   | (with_reducible exact LeO.none _)
   | (with_reducible refine LeO.ite ?_ ?_)
   | (with_reducible refine LeO.bind ?_ (fun _ => ?_))
   | exact ih0 _ _ _ _ _ _ _ _ _ _ _ _ _ _ _
   | exact ih1 _ _ _ _ _ _ _ _ _ _ _ _ _ _ _ _
   | exact serinetteref01_Cmp.mono _ _ _ _ _
   | exact serinetteref01_Divisor.mono _ _ _
   | exact serinetteref01_Is.mono _ _ _
   | exact serinetteref03_Clean.mono _ _ _ _ _ _ _ _
   | exact serinetteref03_inner.mono _ _ _ _ _ _
   | exact LeO.none _
   | refine LeO.ite ?_ ?_
   | refine LeO.bind ?_ (fun _ => ?_)
def serinetteref03_Meet.T7 : Bool × List (List Nat × List Nat) := (true, [([], []), ([0], [0]), ([], []), ([2], [2]), ([1, 3], [1, 3]), ([], []), ([5], [5]), ([], []), ([7], [7]), ([6, 8, 4], [6, 8]), ([], []), ([], []), ([4, 9, 10, 11], [4, 9, 10, 11]), ([], []), ([13, 12, 9, 0, 1, 2, 3, 4, 5, 6, 7, 8, 9, 10, 11, 12, 13], [12, 13])])
def serinetteref03_Meet.B7 : List Nat := [0, 1, 0, 4, 15, 0, 32, 0, 128, 511, 0, 0, 4095, 0, 16383]
theorem serinetteref03_Meet.tab7 : rtab .any (opsOf Tryz.f15 7) = serinetteref03_Meet.T7 := by kernel_rfl
theorem serinetteref03_Meet.bits7 : waitsOk serinetteref03_Meet.T7.2 serinetteref03_Meet.B7 = true := by kernel_rfl
end Go.Proofs.YtlibjgmnookakaaGreatDoor.SSpanSays
